/- Still more operations: make, and slices of the call's own that are read and written; structs. No condition. -/
import Derived.Test.YtbkellknlcageaaDoorSwOps2
namespace Go.Proofs.YtbkellknlcageaaDoor.Sw
open Go.RowKit Go

/-- The zero value of an element. -/
class ZeroF {α : Type} (P : Program) (e : TypeId) (f : α → List AV) (x0 : outParam α) : Prop where
  out : ∃ z, (∃ i, P.info? e = some i ∧ i.zero = some z) ∧ ∃ zs : List Value, z.cells = zs.toArray ∧ ∀ G, Fits G (f x0) zs

section
variable {P : Program} {rs : List (Nat × AV)} {d : Option Nat} {ty : TypeId} {pos : String} {af : Array Edge} {g : Option (Nat × Bool)}
theorem run_make {t e : TypeId} {n : Nat} [hT : TyE P t e n] {w : World} {m : Nat} (hm : m ≤ 1000000) {z : Value} {i : TypeInfo} (hi : P.info? e = some i) (hz : i.zero = some z) :
    (Instr.makeSlice t (.int .i64 (m : Int)) (.int .i64 (m : Int))).run P w = .ok (.slice (some ⟨w.heap.size, 0, none⟩) m m) (w.alloc (.cells ((List.range (m * n)).map fun j => z.cells[j % n]!).toArray e)) := by
  obtain ⟨i', z', hi', hz', hs, hb, hzs⟩ := hT.info
  rw [hi] at hi'
  obtain rfl := Option.some.inj hi'
  rw [hz] at hz'
  obtain rfl := Option.some.inj hz'
  have hw : IntKind.i64.wrap (m : Int) = (m : Int) := IntWalk.i64_in _ (by omega)
  have hbm : (i.bytes : Int) * (m : Int) ≤ 1000 * 1000000 := Int.mul_le_mul (by omega) (by omega) (by omega) (by omega)
  have hbm2 : m * i.bytes ≤ 1000000 * 1000 := Nat.mul_le_mul hm hb
  have h1 : ¬ (281474976710656 < (i.bytes : Int) * (m : Int)) := by omega
  have h2 : ¬ (roomBytes < m * i.bytes) := by unfold roomBytes; have : 2 ^ 47 = 140737488355328 := by decide
                                              omega
  have hnn : ¬ ((m : Int) < 0) := by omega
  have hrow : ∀ cs : Array Value, (newRow e cs).run P w = .ok ⟨w.heap.size, 0, none⟩ (w.alloc (.cells cs e)) := fun cs => by simp [newRow, go_sem]
  by_cases h0 : m * n = 0
  · simp [Instr.makeSlice, run_underlying hT.und, asInt, asIntOf, typeInfo, sizeOf, hi, hs, hw, h1, hnn, askRoom, h2, h0, hrow]
    rw [show (Array.map (fun _ : Nat => (default : Value)) (Array.range 0)) = #[] by simp]
  · have e0 : ((Array.range (m * n)).map fun j => z.cells[j % n]!) = ((List.range (m * n)).map fun j => z.cells[j % n]!).toArray := by apply Array.ext'; simp [Array.toList_range]
    simp [Instr.makeSlice, run_underlying hT.und, asInt, asIntOf, typeInfo, sizeOf, hi, hs, hw, h1, hnn, askRoom, h2, h0, zeroValue, hz, hzs, hrow]
    rw [e0]
theorem fits_zero {G : Nat → Option Obj} {α : Type} {f : α → List AV} {x0 : α} {zs : List Value} {n : Nat} (hl : zs.length = n) (hn : 0 < n) (h : Fits G (f x0) zs) : ∀ m, Fits G ((List.replicate m x0).flatMap f) ((List.range (m * n)).map fun j => zs.toArray[j % n]!)
  | 0 => by simp [Fits]
  | m + 1 => by
    have ih := fits_zero hl hn h m
    rw [List.replicate_succ', List.flatMap_append, Nat.succ_mul, List.range_add, List.map_append]
    refine Fits.append ih ?_
    simp only [List.flatMap_cons, List.flatMap_nil, List.append_nil, List.map_map]
    have : (List.range n).map ((fun j => zs.toArray[j % n]!) ∘ fun x => m * n + x) = zs := by
      refine List.ext_getElem (by simp [hl]) fun j h1 h2 => ?_
      have hj : j < n := by simpa using h1
      simp [Nat.mul_add_mod_of_lt, Nat.add_mod, Nat.mod_eq_of_lt hj, h2]
    rw [this]; exact h
theorem lt_make {α : Type} {x y : Operand} {t e : TypeId} {n : Nat} [hT : TyE P t e n] {f : α → List AV} [hO : OneF f] [hL : LenF f n] {x0 : α} [hZ : ZeroF P e f x0] {m : Nat} {mi : Int} (hx : opv rs x = some (.val (.int .i64 mi))) (hy : opv rs y = some (.val (.int .i64 mi))) (hmi : mi = (m : Int)) (hm : m ≤ 1000000) :
    LT P ⟨d, .makeSlice t x y, ty, pos, af, g⟩ rs [] (fun x y => ∃ u, x = .val u ∧ y = [.row u e n f (List.replicate m x0)]) :=
  LT_eff (fun _ e => by cases e) fun a w G F hR hI => by
    obtain rfl := inv_nil hI
    subst hmi
    obtain ⟨z, ⟨i, hi, hz⟩, zs, hzs, hf⟩ := hZ.out
    have e1 : a.eval x = _ := opv_ok hR hx
    have e2 : a.eval y = _ := opv_ok hR hy
    have hr := run_make (P := P) (t := t) (w := w) hm hi hz
    have hzl : zs.length = n := by rw [(hf G).length, hL.out]
    rw [hzs] at hr
    have hfit := fits_zero (G := G) hzl hT.pos (hf G) m
    have hin := new_row (e := e) (n := n) hI hfit (by simpa using hm)
    rw [List.length_replicate] at hin
    refine ⟨_, _, _, _, _, G, _, ?_, .inl rfl, ⟨_, rfl, rfl⟩, fr_alloc _ _ _, hin, rfl⟩
    simp only [execOp, e1, e2, Sem.run_bind, hr]
    rfl
/-- What an own slice's value is. -/
theorem row_val {α : Type} {w : World} {G : Nat → Option Obj} {F : List Nat} {v : Value} {e : TypeId} {n : Nat} {f : α → List AV} {xs : List α} (h : (HA.row v e n f xs).P G F w) : (v = .slice none 0 0 ∧ xs = []) ∨ ∃ b cap cur vs, v = .slice (some ⟨b, 0, none⟩) xs.length cap ∧ xs.length ≤ cap ∧ F = [b] ∧ w.heap[b]? = some (.cells cur e (0, 0)) ∧ cur.size = cap * n ∧ (∀ x ∈ xs, (f x).length = n) ∧ Fits G (xs.flatMap f) vs ∧ cur.toList.take (xs.length * n) = vs ∧ (∀ u ∈ vs, u.oneCell' = true) ∧ cap ≤ maxLen := by
  obtain ⟨vs, hF, hl, hf, hone, hown⟩ := h
  rcases hown.2 with ⟨rfl, hn0⟩ | ⟨b, cap, cur, rfl, _, hb, hnc, hcm, hcs, htake⟩
  · exact .inl ⟨rfl, List.eq_nil_of_length_eq_zero hn0⟩
  · exact .inr ⟨b, cap, cur, vs, rfl, hnc, hF, hb, hcs, hl, hf, htake, hone, hcm⟩
theorem lt_indexRow {α : Type} {x y : Operand} {t e e' : TypeId} {n : Nat} [hT : TyS P t e' n] {v : Value} {f : α → List AV} {xs : List α} {i : Int} {k : Nat} {kd : IntKind} (hx : opv rs x = some (.val v)) (hy : opv rs y = some (.val (.int kd i))) (hi : i = (k : Int)) (hk : k < xs.length) :
    LT P ⟨d, .indexAddr t x y, ty, pos, af, g⟩ rs [.row v e n f xs] (Is (.rat v n k 0) [.row v e n f xs]) :=
  LT_read (fun _ e => by cases e) fun a w G F hR hG hrow => by
    have e1 : a.eval x = _ := opv_ok hR hx
    have e2 : a.eval y = _ := opv_ok hR hy
    rcases row_val hrow with ⟨_, rfl⟩ | ⟨b, cap, cur, vs, rfl, hnc, _⟩
    · exact absurd hk (Nat.not_lt_zero _)
    · subst hi
      refine ⟨.pointer (some ⟨b, k * n, none⟩), ⟨b, _, cap, rfl, by rw [Nat.add_zero]⟩, ?_⟩
      simp only [execOp, e1, e2, Sem.run_bind]
      have h2 : (Instr.indexAt t (.slice (some ⟨b, 0, none⟩) xs.length cap) (.int kd k)).run P w = .ok (.pointer (some ⟨b, 0 + k * n, none⟩)) w := by
        have hk' : (0 : Int) ≤ (k : Int) ∧ (k : Int) < (xs.length : Int) := by omega
        simp [Instr.indexAt, asIntOf, run_underlying hT.und, hk', hT.size w, add_plain]
        intro h'; omega
      rw [h2, Nat.zero_add]
      rfl
theorem lt_lenRow {α : Type} {x : Operand} {t e e' : TypeId} {n n' : Nat} [hT : TyS P t e' n'] {v : Value} {f : α → List AV} {xs : List α} (hx : opv rs x = some (.val v)) :
    LT P ⟨d, .call { callee := .builtin .len, args := #[x], argTypes := #[t] }, ty, pos, af, g⟩ rs [.row v e n f xs] (Is (.val (.int .i64 xs.length)) [.row v e n f xs]) :=
  LT_read (fun _ e => by cases e) fun a w G F hR hG hrow => by
    have e1 : a.eval x = _ := opv_ok hR hx
    refine ⟨_, rfl, ?_⟩
    rcases row_val hrow with ⟨rfl, rfl⟩ | ⟨b, cap, cur, vs, rfl, hnc, _⟩ <;>
      simp [execOp, resolve, e1, invoke, builtin, Builtin.len_, run_underlying hT.und, goInt]
theorem lt_loadR1 {α : Type} {x : Operand} {t e : TypeId} {n k j : Nat} [hT : Ty1 P t] {v : Value} {f : α → List AV} {xs : List α} {av : AV} (hx : opv rs x = some (.rat v n k j)) (hk : k < xs.length) (hc : (f xs[k])[j]? = some av) : LT P ⟨d, .load t x, ty, pos, af, g⟩ rs [.row v e n f xs] (Is av [.row v e n f xs]) :=
  LT_read (fun _ e => by cases e) fun a w G F hR hG hrow => by
    obtain ⟨b', len, cap', ev, e1⟩ : (AV.rat v n k j).P G (a.eval x) := opv_ok hR hx
    rcases row_val hrow with ⟨_, rfl⟩ | ⟨b, cap, cur, vs, ev', hnc, _, hb, hcs, hl, hf, htake, _⟩
    · exact absurd hk (Nat.not_lt_zero _)
    · rw [ev] at ev'
      simp only [Value.slice.injEq, Option.some.injEq, Addr.mk.injEq] at ev'
      obtain ⟨⟨rfl, _⟩, rfl, rfl⟩ := ev'
      have hjn : j < n := by
        have := (List.getElem?_eq_some_iff.1 hc).1
        rwa [hl _ (List.getElem_mem hk)] at this
      obtain ⟨u, hu, hp⟩ := hf.get (i := k * n + j) (av := av) (by rw [flat_get hl k hk j hjn]; exact hc)
      refine ⟨u, hp, ?_⟩
      have hlt : k * n + j < xs.length * n := by
        calc k * n + j < k * n + n := by omega
          _ = (k + 1) * n := (Nat.succ_mul k n).symm
          _ ≤ xs.length * n := Nat.mul_le_mul_right n hk
      have hcell : w.cell? ⟨b', k * n + j, none⟩ = some u := by
        rw [cell_of_row w b' _ _ _ _ hb]
        rw [← htake, List.getElem?_take, if_pos hlt] at hu
        simpa using hu
      simp only [execOp, e1, Sem.run_bind]
      rw [run_load1 hcell]
      rfl
theorem flat_set {α : Type} {f : α → List AV} {n : Nat} {x' : α} {av : AV} : ∀ {xs : List α}, (∀ x ∈ xs, (f x).length = n) → ∀ (k : Nat) (hk : k < xs.length) (j : Nat), j < n → f x' = (f xs[k]).set j av → (xs.set k x').flatMap f = (xs.flatMap f).set (k * n + j) av
  | x :: xs, h, 0, _, j, hj, he => by
    rw [List.set_cons_zero, List.flatMap_cons, List.flatMap_cons, Nat.zero_mul, Nat.zero_add, List.set_append_left _ _ (by rw [h x (by simp)]; exact hj), he]
    rfl
  | x :: xs, h, k + 1, hk, j, hj, he => by
    rw [List.set_cons_succ, List.flatMap_cons, List.flatMap_cons, List.set_append_right _ _ (by rw [h x (by simp), Nat.succ_mul]; omega), h x (by simp), show (k + 1) * n + j - n = k * n + j by rw [Nat.succ_mul]; omega, flat_set (fun y hy => h y (by simp [hy])) k (by simpa using hk) j hj he]
  | [], _, _, hk, _, _, _ => absurd hk (Nat.not_lt_zero _)
theorem lt_storeR1 {α : Type} {x y : Operand} {t e : TypeId} {n k j : Nat} [hs : TySz P t 1] {v : Value} {f : α → List AV} {xs : List α} {av : AV} {x' : α} [ho : One av] (hx : opv rs x = some (.rat v n k j)) (hy : opv rs y = some av) (hk : k < xs.length) (hj : j < n) (hf' : f x' = (f xs[k]).set j av) :
    LT P ⟨d, .store t x y, ty, pos, af, g⟩ rs [.row v e n f xs] (Is (.val undef) [.row v e n f (xs.set k x')]) :=
  LT_eff (fun _ e => by cases e) fun a w G F hR hI => by
    obtain ⟨F1, F2, ep, hrow, h2⟩ := hI.hs
    have h2' : F2 = [] := h2
    subst h2'
    obtain ⟨b', len, cap', ev, e1⟩ : (AV.rat v n k j).P G (a.eval x) := opv_ok hR hx
    rcases row_val hrow with ⟨_, rfl⟩ | ⟨b, cap, cur, vs, ev', hnc, hF1, hb, hcs, hl, hf, htake, hone, hcm⟩
    · exact absurd hk (Nat.not_lt_zero _)
    · rw [ev] at ev'
      simp only [Value.slice.injEq, Option.some.injEq, Addr.mk.injEq] at ev'
      obtain ⟨⟨rfl, _⟩, rfl, rfl⟩ := ev'
      subst hF1
      have hF : F = [b'] := List.perm_singleton.1 (by simpa using ep)
      subst hF
      have hu := opv_ok hR hy
      obtain ⟨u, hue⟩ : ∃ u, a.eval y = u := ⟨_, rfl⟩
      rw [hue] at hu
      have huo := ho.out _ _ hu
      have hg := (hI.own b' (by simp)).2
      obtain ⟨f1, f2⟩ := fr_setRow hI.gin hg (cur.setIfInBounds (k * n + j) u)
      have hlt : k * n + j < xs.length * n := by
        calc k * n + j < k * n + n := by omega
          _ = (k + 1) * n := (Nat.succ_mul k n).symm
          _ ≤ xs.length * n := Nat.mul_le_mul_right n hk
      have hlc : xs.length * n ≤ cap' * n := Nat.mul_le_mul_right n hnc
      have hlx : (f x').length = n := by rw [hf', List.length_set]; exact hl _ (List.getElem_mem hk)
      have hl' : ∀ y ∈ xs.set k x', (f y).length = n := fun y hy => by
        rcases List.mem_or_eq_of_mem_set hy with h | rfl
        · exact hl y h
        · exact hlx
      refine ⟨_, w.setRow b' (cur.setIfInBounds (k * n + j) u), undef, _, _, G, [b'], ?_, .inr ⟨rfl, rfl⟩, ⟨rfl, rfl⟩, f1, ⟨f2, by simp, fun q hq => ?_, [b'], [], by simp, ⟨vs.set (k * n + j) u, by rw [ev]; rfl, hl', ?_, ?_, ?_⟩, rfl⟩, rfl⟩
      · have hst : (storeCells ⟨b', k * n + j, none⟩ [u]).run P w = .ok () (w.setRow b' (cur.setIfInBounds (k * n + j) u)) := by
          have := run_storeCells_at P b' (k * n + j) e [u] 0 cur w hb (by simp; omega) (fun q hq => by rw [List.mem_singleton] at hq; rw [hq]; exact huo)
          rw [this]
          congr 2
          apply Array.ext'
          simp only [Nat.add_zero, List.length_singleton, Array.toList_setIfInBounds]
          rw [List.set_eq_take_append_cons_drop, if_pos (by simp; omega)]
          simp
        simp only [execOp, e1, Instr.storeAt, Instr.sureAddr, storeVar, Sem.run_bind, Sem.run_pure, Result.andThen_ok, hue, cells_one huo, hs.size w]
        simp [hst]
      · rw [List.mem_singleton] at hq; subst hq; simp only [setRow_size]; exact hI.own _ (by simp)
      · rw [flat_set hl k hk j hj hf']
        exact hf.set _ hu
      · intro q hq
        rcases List.mem_or_eq_of_mem_set hq with h | rfl
        · exact hone q h
        · exact huo
      · rw [ev]
        refine ⟨by rw [List.length_set, hf.length, lenL hl, List.length_set], .inr ⟨b', cap', _, by rw [List.length_set], Nat.zero_le _, setRow_heap w b' _ _ e _ hb, by rw [List.length_set]; exact hnc, hcm, by simpa using hcs, ?_⟩⟩
        rw [List.length_set, Array.toList_setIfInBounds, List.take_set, htake]
/-- A struct or an array that is built of its parts. -/
class TyB (P : Program) (t : TypeId) (zs : outParam (List Value)) (pl : outParam (Nat → Option (Nat × Nat))) : Prop where
  run : ∀ w parts cells, Instr.fill pl zs.toArray parts.toList = some cells → (Instr.build t parts).run P w = .ok (.agg cells) w
theorem tyB_struct {P : Program} {t : TypeId} {z : Value} {zs : List Value} {fs : Array Field} {pl : Array (Nat × Nat)} (h1 : ∀ w, (zeroValue t).run P w = .ok z w) (h4 : z.cells = zs.toArray) (h2 : P.underlying t = some (.struct fs)) (h3 : ∀ w, (fs.mapM (fun f => do pure (f.offset, ← sizeOf f.type) : Field → Sem (Nat × Nat))).run P w = .ok pl w) : TyB P t zs (fun i => pl[i]?) :=
  ⟨fun w parts cells h => by
    simp only [Instr.build, Sem.run_bind, h1, Result.andThen_ok, run_underlying h2, h3, h4, h, Sem.run_pure]⟩
theorem tyB_array {P : Program} {t e : TypeId} {z : Value} {zs : List Value} {n s : Nat} (h1 : ∀ w, (zeroValue t).run P w = .ok z w) (h4 : z.cells = zs.toArray) (h2 : P.underlying t = some (.array n e)) (h3 : ∀ w, (sizeOf e).run P w = .ok s w) : TyB P t zs (fun i => some (i * s, s)) :=
  ⟨fun w parts cells h => by
    simp only [Instr.build, Sem.run_bind, h1, Result.andThen_ok, run_underlying h2, h3, h4, h, Sem.run_pure]⟩
inductive Parts (rs : List (Nat × AV)) (pl : Nat → Option (Nat × Nat)) : List AV → List (Nat × Operand) → List AV → Prop
  | nil {cs : List AV} : Parts rs pl cs [] cs
  | cons {cs cs' : List AV} {i off n : Nat} {x : Operand} {l : List (Nat × Operand)} {av : AV} {ds : List AV} (hx : opv rs x = some av) (hp : pl i = some (off, n)) (hc : CellsOf av ds) (hn : ds.length = n) (hj : off + n ≤ cs.length) (k : Parts rs pl (spl cs off ds) l cs') : Parts rs pl cs ((i, x) :: l) cs'
theorem fold_put (off : Nat) : ∀ (us pre post : List Value), pre.length = off → us.length ≤ post.length → ∀ (j : Nat) (pre0 : List Value), pre0.length = off + j → (us.zipIdx j).foldl (fun cs (p : Value × Nat) => cs.setIfInBounds (off + p.2) p.1) (pre0 ++ post).toArray = (pre0 ++ us ++ post.drop us.length).toArray
  | [], pre, post, _, _, j, pre0, _ => by simp
  | u :: us, pre, post, h1, h2, j, pre0, h3 => by
    cases post with
    | nil => simp at h2
    | cons q post =>
      have := fold_put off us pre post h1 (by simpa using h2) (j + 1) (pre0 ++ [u]) (by simp [h3]; omega)
      rw [List.zipIdx_cons, List.foldl_cons]
      have hset : (pre0 ++ q :: post).toArray.setIfInBounds (off + j) u = (pre0 ++ [u] ++ post).toArray := by
        rw [← h3]; simp
      rw [hset, this]
      simp
theorem Parts.fill {pl : Nat → Option (Nat × Nat)} {a : Act} {G : Nat → Option Obj} (hR : RegOK rs G a) : ∀ {cs : List AV} {l : List (Nat × Operand)} {cs' : List AV}, Parts rs pl cs l cs' → ∀ (vs : List Value), Fits G cs vs → ∃ vs' : List Value, Fits G cs' vs' ∧ Instr.fill pl vs.toArray (l.map fun p => (p.1, a.eval p.2)) = some vs'.toArray := by
  intro cs l cs' h
  induction h with
  | nil => exact fun vs h => ⟨vs, h, rfl⟩
  | @cons cs cs' i off n x l av ds hx hp hc hn hj k ih =>
    intro vs hf
    obtain ⟨us, hu1, hu2⟩ := hc.out G _ (opv_ok hR hx)
    have hul : us.length = n := by rw [hu2.length, hn]
    have hvl := hf.length
    obtain ⟨vs', h1, h2⟩ := ih (vs.take off ++ us ++ vs.drop (off + us.length)) (by
      unfold spl
      rw [← hu2.length]
      exact ((hf.take off).append hu2).append (hf.drop _))
    refine ⟨vs', h1, ?_⟩
    have hsz : (a.eval x).cells.size = n := by rw [hu1]; simpa using hul
    have hput : (a.eval x).cells.zipIdx.foldl (fun cs (p : Value × Nat) => cs.setIfInBounds (off + p.2) p.1) vs.toArray = (vs.take off ++ us ++ vs.drop (off + us.length)).toArray := by
      rw [← Array.foldl_toList, Array.toList_zipIdx, hu1]
      have := fold_put off us (vs.take off) (vs.drop off) (by rw [List.length_take]; omega) (by rw [List.length_drop]; omega) 0 (vs.take off) (by rw [List.length_take]; omega)
      rw [List.take_append_drop, List.drop_drop] at this
      exact this
    simp only [List.map_cons, Instr.fill, hp]
    rw [if_neg (by rw [hsz]; simp; omega), hput, h2]
theorem lt_build {t : TypeId} {zs : List Value} {pl : Nat → Option (Nat × Nat)} [hB : TyB P t zs pl] {l : List (Nat × Operand)} {cs : List AV} (h : Parts rs pl (zs.map AV.val) l cs) :
    LT P ⟨d, .build t l.toArray, ty, pos, af, g⟩ rs [] (Is (.agg cs) []) :=
  LT_val (fun _ e => by cases e) fun a w G hR hG => by
    have hz : Fits G (zs.map AV.val) zs := by
      clear h hB
      induction zs with
      | nil => trivial
      | cons z zs ih => exact ⟨rfl, ih⟩
    obtain ⟨vs, h1, h2⟩ := h.fill hR zs hz
    refine ⟨.agg vs.toArray, ⟨vs, rfl, h1⟩, ?_⟩
    have := hB.run w (l.toArray.map fun (p : Nat × Operand) => (p.1, a.eval p.2)) vs.toArray (by simpa using h2)
    simp only [execOp, Sem.run_bind, this]
    rfl
/-- Structs of numbers, compared. -/
class TyQ (P : Program) (t : TypeId) (n : outParam Nat) : Prop where
  run : ∀ (x y : Operand) (xs ys : List Int) w, xs.length = n → ys.length = n → (eqGuard .eql t x y (.agg (xs.map (Value.int .i64)).toArray) (.agg (ys.map (Value.int .i64)).toArray)).run P w = .ok () w ∧ (eqGuard .neq t x y (.agg (xs.map (Value.int .i64)).toArray) (.agg (ys.map (Value.int .i64)).toArray)).run P w = .ok () w ∧
    (binOp .eql t (.agg (xs.map (Value.int .i64)).toArray) (.agg (ys.map (Value.int .i64)).toArray)).run P w = .ok (.bool (decide (xs = ys))) w ∧ (binOp .neq t (.agg (xs.map (Value.int .i64)).toArray) (.agg (ys.map (Value.int .i64)).toArray)).run P w = .ok (.bool (!decide (xs = ys))) w
/-- These cells are these numbers. -/
inductive Ints : List AV → List Int → Prop
  | nil : Ints [] []
  | cons {x : Int} {cs : List AV} {xs : List Int} (k : Ints cs xs) : Ints (.val (.int .i64 x) :: cs) (x :: xs)
theorem Ints.fits {G : Nat → Option Obj} {cs : List AV} {xs : List Int} (h : Ints cs xs) : ∀ {vs : List Value}, Fits G cs vs → vs = xs.map (Value.int .i64) := by
  induction h with
  | nil => intro vs hf; cases vs with | nil => rfl | cons _ _ => exact hf.elim
  | cons k ih =>
    intro vs hf
    cases vs with
    | nil => exact hf.elim
    | cons v vs => rw [List.map_cons, ← ih hf.2, show v = _ from hf.1]
theorem Ints.len {cs : List AV} {xs : List Int} (h : Ints cs xs) : cs.length = xs.length := by
  induction h with
  | nil => rfl
  | cons k ih => simp [ih]
theorem lt_eqlN {x y : Operand} {t t' : TypeId} {n : Nat} [hQ : TyQ P t n] {cs ds : List AV} {xs ys : List Int} (hx : opv rs x = some (.agg cs)) (hy : opv rs y = some (.agg ds)) (h1 : Ints cs xs) (h2 : Ints ds ys) (hn : xs.length = n) (hn2 : ys.length = n) :
    LT P ⟨d, .binOp .eql t x y t', ty, pos, af, g⟩ rs [] (Is (.val (.bool (decide (xs = ys)))) []) :=
  LT_val (fun _ e => by cases e) fun a w G hR hG => by
    obtain ⟨vs, e1, f1⟩ : (AV.agg cs).P G (a.eval x) := opv_ok hR hx
    obtain ⟨us, e2, f2⟩ : (AV.agg ds).P G (a.eval y) := opv_ok hR hy
    rw [h1.fits f1] at e1
    rw [h2.fits f2] at e2
    obtain ⟨q1, q2, q3, q4⟩ := hQ.run x y xs ys w hn hn2
    refine ⟨_, rfl, ?_⟩
    simp only [execOp, e1, e2, Sem.run_bind, q1, q3, Result.andThen_ok]
    rfl
theorem lt_neqN {x y : Operand} {t t' : TypeId} {n : Nat} [hQ : TyQ P t n] {cs ds : List AV} {xs ys : List Int} (hx : opv rs x = some (.agg cs)) (hy : opv rs y = some (.agg ds)) (h1 : Ints cs xs) (h2 : Ints ds ys) (hn : xs.length = n) (hn2 : ys.length = n) :
    LT P ⟨d, .binOp .neq t x y t', ty, pos, af, g⟩ rs [] (Is (.val (.bool (!decide (xs = ys)))) []) :=
  LT_val (fun _ e => by cases e) fun a w G hR hG => by
    obtain ⟨vs, e1, f1⟩ : (AV.agg cs).P G (a.eval x) := opv_ok hR hx
    obtain ⟨us, e2, f2⟩ : (AV.agg ds).P G (a.eval y) := opv_ok hR hy
    rw [h1.fits f1] at e1
    rw [h2.fits f2] at e2
    obtain ⟨q1, q2, q3, q4⟩ := hQ.run x y xs ys w hn hn2
    refine ⟨_, rfl, ?_⟩
    simp only [execOp, e1, e2, Sem.run_bind, q2, q4, Result.andThen_ok]
    rfl
theorem lt_eqlB {x y : Operand} {b b' : Bool} {t t' : TypeId} (ht : P.underlying t = some .bool) (hx : opv rs x = some (.val (.bool b))) (hy : opv rs y = some (.val (.bool b'))) : LT P ⟨d, .binOp .eql t x y t', ty, pos, af, g⟩ rs [] (Is (.val (.bool (b == b'))) []) :=
  LT_val (fun _ e => by cases e) fun a w G hR _ => ⟨_, rfl, by
    have e1 : a.eval x = _ := opv_ok hR hx
    have e2 : a.eval y = _ := opv_ok hR hy
    simp only [execOp, e1, e2]
    simp [go_sem, eqGuard, run_eql_bool w t b b' ht]⟩
class TyA (P : Program) (t : TypeId) (len : outParam Nat) (n : outParam Nat) : Prop where
  und : ∃ e, P.underlying t = some (.array len e) ∧ ∀ w, (sizeOf e).run P w = .ok n w
  many : 2 ≤ len
theorem lt_indexArr {x y : Operand} {t tb : TypeId} {len n : Nat} [hT : TyA P t len n] {p : Value} {cs : List AV} {i : Int} {k : Nat} {kd : IntKind} (hx : opv rs x = some (.val p)) (hy : opv rs y = some (.val (.int kd i))) (hi : i = (k : Int)) (hk : k < len) :
    LT P ⟨d, .indexAddr t x y, ty, pos, af, g⟩ rs [.box p cs tb] (Is (.at p (k * n)) [.box p cs tb]) :=
  LT_read (fun _ e => by cases e) fun a w G F hR hG ⟨b, vs, hp, _, hf, hb⟩ => by
    have e1 : a.eval x = _ := opv_ok hR hx
    have e2 : a.eval y = _ := opv_ok hR hy
    obtain ⟨e, hu, hsz⟩ := hT.und
    have hm := hT.many
    subst hi
    refine ⟨.pointer (some ⟨b, k * n, none⟩), ⟨b, hp, rfl⟩, ?_⟩
    simp only [execOp, e1, e2, hp, Sem.run_bind]
    have h2 : (Instr.indexAt t (.pointer (some ⟨b, 0, none⟩)) (.int kd k)).run P w = .ok (.pointer (some ⟨b, 0 + k * n, none⟩)) w := by
      have hk' : (0 : Int) ≤ (k : Int) ∧ (k : Int) < (len : Int) := by omega
      simp [Instr.indexAt, asIntOf, run_underlying hu, hk', hsz w, add_plain, Instr.sureAddr]
      intro h'; omega
    rw [h2, Nat.zero_add]
    rfl
end
end Go.Proofs.YtbkellknlcageaaDoor.Sw
