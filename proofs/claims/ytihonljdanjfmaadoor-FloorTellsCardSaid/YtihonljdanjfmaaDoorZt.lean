/- Proofs for one card: FloorTf, SwB, FloorTg, FloorTh, FloorS, FloorU, FloorT, FloorJudges, FloorTells, CardFloorTells. No condition of its own. -/
import Derived.Test.YtihonljdanjfmaaDoorZt5
namespace Go.Proofs.YtihonljdanjfmaaDoor.Sw
open Go.RowKit Go Go.Shelf Go.Proofs
open Go.Proofs.YtihonljdanjfmaaDoor.Gr (payLt atP addP treeR treeGo leafAt findLeaf inc oth mvL payX)
def bC (b : Bool) : List AV := [.val (.bool b)]
instance {b : Bool} : OneL (bC b) := inferInstanceAs (OneL [_])
instance : OneF bC := ⟨fun _ => inferInstance⟩
instance : LenF bC 1 := ⟨fun _ => rfl⟩
instance zeroB : ZeroF Tryd.prog 4 bC false := zeroF (z := .bool false) (n := 1) (b := 1) (zs := [.bool false]) (by kernel_rfl) rfl (fun _ => ⟨rfl, trivial⟩)
/-- Edges that are not done. -/
def nd : List (Nat × Nat) → List Bool → List (Nat × Nat)
  | p :: L, d :: ds => if d = true then nd L ds else p :: nd L ds
  | _, _ => []
theorem nd_mem {p : Nat × Nat} : ∀ {L : List (Nat × Nat)} {ds : List Bool}, p ∈ nd L ds → p ∈ L
  | [], _, h => by simp [nd] at h
  | _ :: _, [], h => by simp [nd] at h
  | q :: L, d :: ds, h => by
    unfold nd at h
    split at h
    · exact List.mem_cons_of_mem _ (nd_mem h)
    · rcases List.mem_cons.1 h with h | h
      · rw [h]; simp
      · exact List.mem_cons_of_mem _ (nd_mem h)
theorem nd_rep : ∀ L : List (Nat × Nat), nd L (List.replicate L.length false) = L
  | [] => rfl
  | p :: L => by rw [List.length_cons, List.replicate_succ, nd, if_neg (by simp), nd_rep L]
theorem nd_take : ∀ {L : List (Nat × Nat)} {ds : List Bool} {k : Nat} (hk : k < L.length) (hd : k < ds.length), nd (L.take (k + 1)) (ds.take (k + 1)) = nd (L.take k) (ds.take k) ++ if ds[k] = true then [] else [L[k]]
  | p :: L, d :: ds, 0, _, _ => by
    simp only [List.take_succ_cons, List.take_zero, nd, List.getElem_cons_zero, List.nil_append]
  | p :: L, d :: ds, k + 1, hk, hd => by
    rw [List.take_succ_cons, List.take_succ_cons, List.take_succ_cons, List.take_succ_cons, nd, nd, nd_take (L := L) (ds := ds) (k := k) (by simpa using hk) (by simpa using hd)]
    simp only [List.getElem_cons_succ]
    split <;> simp
theorem nd_set : ∀ {L : List (Nat × Nat)} {ds : List Bool} {k : Nat} (hn : L.Nodup) (hk : k < L.length) (hd : k < ds.length), ds[k] = false → nd L (ds.set k true) = (nd L ds).erase L[k]
  | p :: L, d :: ds, 0, _, _, _, h => by
    simp only [List.getElem_cons_zero] at h
    subst h
    simp [nd]
  | p :: L, d :: ds, k + 1, hn, hk, hd, h => by
    obtain ⟨h1, h2⟩ := List.nodup_cons.1 hn
    have hk' : k < L.length := by simpa using hk
    have ih := nd_set (L := L) (ds := ds) (k := k) h2 hk' (by simpa using hd) (by simpa using h)
    rw [List.set_cons_succ, nd, nd, List.getElem_cons_succ]
    split
    · exact ih
    · have hne : p ≠ L[k] := fun e => h1 (e ▸ List.getElem_mem hk')
      rw [ih, List.erase_cons_tail (by simpa using hne)]
/-- What is left to do, counted at one floor. -/
def cntAt (L : List (Nat × Nat)) (ds : List Bool) (i k : Nat) : List (Nat × Nat) := (nd (L.take k) (ds.take k)).filter (inc i)
theorem cntAt_succ {L : List (Nat × Nat)} {ds : List Bool} {i k : Nat} (hk : k < L.length) (hd : k < ds.length) : cntAt L ds i (k + 1) = cntAt L ds i k ++ if ds[k] = false ∧ inc i L[k] = true then [L[k]] else [] := by
  unfold cntAt
  rw [nd_take hk hd, List.filter_append]
  congr 1
  cases ds[k] with
  | true => simp
  | false => by_cases h : inc i L[k] = true <;> simp [h]
theorem leafAt_cnt {L : List (Nat × Nat)} {ds : List Bool} {i : Nat} (hd : ds.length = L.length) : leafAt (nd L ds) i = match cntAt L ds i L.length with | [e] => some (i, e) | _ => none := by
  unfold leafAt cntAt
  rw [List.take_length, ← hd, List.take_length]
  generalize List.filter (inc i) (nd L ds) = l
  rcases l with _ | ⟨a, _ | ⟨b, t⟩⟩ <;> rfl
theorem findLeaf_at {n i : Nat} {L : List (Nat × Nat)} {r : Nat × (Nat × Nat)} (hi : i < n) (h : leafAt L i = some r) (hno : ∀ j, j < i → leafAt L j = none) : findLeaf n L = some r := by
  unfold findLeaf
  have e : List.range n = List.range i ++ i :: (List.range' (i + 1) (n - (i + 1))) := by
    have h1 : n = i + (1 + (n - (i + 1))) := by omega
    rw [List.range_eq_range', List.range_eq_range']
    conv => lhs; rw [h1]
    rw [← List.range'_append, Nat.add_comm 1, List.range'_succ]; simp
  rw [e, List.findSome?_append, List.findSome?_eq_none_iff.2 (fun j hj => hno j (List.mem_range.1 hj))]
  simp [h]
theorem findLeaf_none {n : Nat} {L : List (Nat × Nat)} (hno : ∀ j, j < n → leafAt L j = none) : findLeaf n L = none := List.findSome?_eq_none_iff.2 fun j hj => hno j (List.mem_range.1 hj)
/-- How large a sum may be after so many rounds. -/
def bnd (r : Nat) : Int := 1000000000 * ((2 ^ r : Nat) : Int)
theorem bnd_succ (r : Nat) : bnd (r + 1) = 2 * bnd r := by unfold bnd; rw [Nat.pow_succ]; omega
theorem bnd_pos (r : Nat) : 0 ≤ bnd r := by
  unfold bnd
  have h2 : 0 ≤ ((2 ^ r : Nat) : Int) := Int.natCast_nonneg _
  generalize ((2 ^ r : Nat) : Int) = x at h2 ⊢
  omega
theorem bnd_le {r : Nat} (h : r ≤ 10) : bnd r ≤ 1024000000000 := by
  unfold bnd
  have h1 : 2 ^ r ≤ 1024 := Nat.pow_le_pow_right (n := 2) (by omega) h
  have h2 : ((2 ^ r : Nat) : Int) ≤ ((1024 : Nat) : Int) := Int.ofNat_le.2 h1
  generalize ((2 ^ r : Nat) : Int) = x at h2 ⊢
  omega
def treeA (o : Option (List Pay)) : AV := match o with | some l => .tup [.sl 3 payC l, .val (.bool true)] | none => .tup [.sl 3 payC [], .val (.bool false)]
theorem st_nilR {α : Type} {c : Cx} {rs : List (Nat × AV)} {hs : List HA} {a : Act} {w : World} (i n : Nat) (f : α → List AV) (h : look rs i = some (.val (.slice none 0 0))) (st : St c ⟨rs, hs⟩ a w) : St c ⟨(i, .sl n f ([] : List α)) :: rs, hs⟩ a w := by
  obtain ⟨G, F, hI, hF, hR, r⟩ := st
  refine ⟨G, F, hI, hF, fun j u e => ?_, r⟩
  simp only [look] at e
  cases hb : Nat.beq i j with
  | true =>
    rw [hb] at e
    obtain rfl := Nat.eq_of_beq_eq_true hb
    simp only [cond_true, Option.some.injEq] at e
    subst e
    exact ⟨none, 0, hR _ _ h, Nat.le_refl _, fun i hi => by cases hi⟩
  | false => rw [hb] at e; exact hR j u (by simpa using e)
theorem mvL_btw {l : List Int} {i o : Nat} {b : Int} (hb : 0 ≤ b) (h : Btw (-b) b l) : Btw (-(2 * b)) (2 * b) (mvL l i o) := by
  have hg : ∀ j, -b ≤ l.getD j 0 ∧ l.getD j 0 ≤ b := fun j => by
    rw [List.getD_eq_getElem?_getD]
    by_cases hj : j < l.length
    · rw [List.getElem?_eq_getElem hj]; exact h.at hj
    · rw [List.getElem?_eq_none (by omega)]; simp; omega
  have h1 := hg i
  have h2 := hg o
  intro e he
  unfold mvL at he
  rcases List.mem_or_eq_of_mem_set he with he | he
  · rcases List.mem_or_eq_of_mem_set he with he | he
    · have := h e he; omega
    · omega
  · omega
/-- Two ways meet in one state. -/
theorem W_meet {c : Cx} {s : S} {x y : Code} {Q Q' : Exit → S → Prop} (s1 : S) (h : W c x s (fun e s' => e = .normal ∧ ∀ a w, St c s' a w → St c s1 a w)) (k : W c y s1 Q') : W c x s (thenQ (fun s' => W c y s' Q') Q) :=
  W_mono h fun e s' ⟨he, hs⟩ => by subst he; exact W_weak s1 hs k
theorem treeR_none {ids : List Int} {L : List (Nat × Nat)} {owed : List Int} (h : treeGo ids L.length L owed [] = none) : treeR ids L owed = none := by unfold treeR; rw [h]
theorem nz_ne {l : List (Nat × Nat)} (h : (l.length : Int) ≠ 1) {i : Nat} : (match l with | [e] => some (i, e) | _ => (none : Option (Nat × (Nat × Nat)))) = none := by
  rcases l with _ | ⟨a, _ | ⟨b, t⟩⟩
  · rfl
  · simp at h
  · rfl
set_option maxRecDepth 20000 in
set_option maxHeartbeats 8000000 in
theorem tree8_con (f : Flo) (L : List (Nat × Nat)) (owed : List Int) (hn : f.ids.length ≤ 10) (hl : L.length ≤ 10) (hok : Gr.Ok f.ids.length L) (hol : owed.length = f.ids.length) (hob : Btw (-1000000000) 1000000000 owed) : Con Tryd.prog 93 [.agg (flC f), .sl 2 pnC L, .sl 1 iC owed] [] (Is (treeA (treeR f.ids L owed)) []) := by
  refine con_of Tryd.func93 rfl (enters_of Tryd.func93 (by kernel_rfl) rfl) rfl ?_; intro n w0 F0 G0
  (refine goSt ?_; (repeat (refine goAl ?_; intro p hp; refine goSt ?_)))
  (apply wl_lit iC; exact inferInstance; exact inferInstance; exact inferInstance; (repeat (first | exact Elems.nil | (apply Elems.cons; exact rfl; exact inferInstance; exact rfl))); exact rfl; (first | exact (of_decide_eq_true rfl) | decide | (simp; done) | (simp; omega)); exact rfl)
  intro v
  (refine goSt ?_; (repeat (refine goAl ?_; intro p hp; refine goSt ?_)))
  (first | (apply wl_append; exact rfl; exact rfl; exact goRm; exact inferInstance; exact inferInstance; (first | omega | (simp; omega)); exact rfl) | (apply wl_appendN; exact rfl; exact rfl; exact inferInstance; exact inferInstance; (first | omega | (simp; omega)); exact rfl))
  intro v
  (refine goSt ?_; (repeat (refine goAl ?_; intro p hp; refine goSt ?_)))
  (apply wl_make bC; exact inferInstance; exact inferInstance; exact inferInstance; exact inferInstance; exact rfl; exact rfl; exact rfl; (first | omega | (simp; omega)); exact rfl)
  intro u
  (refine goSt ?_; (repeat (refine goAl ?_; intro p hp; refine goSt ?_)))
  have hlr : (List.replicate L.length false).length = L.length := List.length_replicate
  refine W_loopJ (fun (b : Nat × List Int × List Bool × List Pay) => ⟨[(1, .sl 2 pnC L), (3, .val p), (8, .val v), (9, .val u), (10, .sl 3 payC b.2.2.2), (28, .val (.int .i64 L.length)), (29, .val (.int .i64 b.1))], [.row u 4 1 bC b.2.2.1, .row v 3 1 iC b.2.1, .box p (flC f) 27]⟩)
    (fun b => b.1 ≤ L.length ∧ b.2.1.length = f.ids.length ∧ b.2.2.1.length = L.length ∧ Btw (-(bnd b.1)) (bnd b.1) b.2.1 ∧ b.2.2.2.length ≤ b.1 ∧ treeGo f.ids (L.length - b.1) (nd L b.2.2.1) b.2.1 b.2.2.2 = treeGo f.ids L.length L owed []) (fun b => L.length - b.1) (0, owed, List.replicate L.length false, [])
    (fun _ _ st => st_sub2 (st_nilR 10 3 payC rfl st) goSubr goSubp) ⟨Nat.zero_le _, hol, hlr, hob.mono (by simp [bnd]) (by simp [bnd]), Nat.zero_le _, by rw [nd_rep]; rfl⟩ ?_
  rintro ⟨r, lft, dn, out⟩ ⟨hr, hll, hdl, hbt, hol2, hgo⟩
  dsimp only at hr hll hdl hbt hol2 hgo ⊢
  (refine goSt ?_; (repeat (refine goAl ?_; intro p hp; refine goSt ?_)))
  refine w_cond rfl (fun hlt => ?_) (fun hlt => ?_)
  · have hr' : r < L.length := by simpa using hlt
    rw [show L.length - r = (L.length - (r + 1)) + 1 by omega] at hgo
    (refine goSt ?_; (repeat (refine goAl ?_; intro p hp; refine goSt ?_)))
    refine W_loopJ (fun (b : Nat × Bool × List Int × List Bool × List Pay) => ⟨[(1, .sl 2 pnC L), (3, .val p), (8, .val v), (9, .val u), (28, .val (.int .i64 L.length)), (29, .val (.int .i64 r)), (10, .sl 3 payC b.2.2.2.2), (11, .val (.bool b.2.1)), (12, .val (.int .i64 b.1))], [.row u 4 1 bC b.2.2.2.1, .row v 3 1 iC b.2.2.1, .box p (flC f) 27]⟩)
      (fun b => b.1 ≤ f.ids.length ∧ b.2.2.1.length = f.ids.length ∧ b.2.2.2.1.length = L.length ∧ (b.2.1 = false → b.2.2 = (lft, dn, out) ∧ ∀ j, j < b.1 → leafAt (nd L dn) j = none) ∧ (b.2.1 = true → Btw (-(bnd (r + 1))) (bnd (r + 1)) b.2.2.1 ∧ b.2.2.2.2.length ≤ r + 1 ∧ treeGo f.ids (L.length - (r + 1)) (nd L b.2.2.2.1) b.2.2.1 b.2.2.2.2 = treeGo f.ids L.length L owed [])) (fun b => f.ids.length - b.1) (0, false, lft, dn, out)
      (fun _ _ st => st_sub2 st goSubr goSubp) ⟨Nat.zero_le _, hll, hdl, fun _ => ⟨rfl, fun j hj => absurd hj (Nat.not_lt_zero _)⟩, fun h => by cases h⟩ ?_
    rintro ⟨i, fd, lf', dn', out'⟩ ⟨hi, hl', hd', hF, hT⟩
    dsimp only at hi hl' hd' hF hT ⊢
    cases fd with
    | true =>
      obtain ⟨hb1, ho1, hg1⟩ := hT rfl
      clear hF hT
      (refine goSt ?_; (repeat (refine goAl ?_; intro p hp; refine goSt ?_)))
      refine wl_part rfl rfl (fun g => ?_) (fun g => ?_)
      · (refine goSt ?_; (repeat (refine goAl ?_; intro p hp; refine goSt ?_)))
        (refine ⟨(r + 1, lf', dn', out'), fun _ _ st => st_sub2 st ?_ ?_, ?_, ?_⟩; exact goSubr; exact goSubp)
        · exact ⟨hr', hl', hd', hb1, ho1, hg1⟩
        · dsimp only; omega
      · (refine goSt ?_; (repeat (refine goAl ?_; intro p hp; refine goSt ?_)))
        (refine ⟨(r + 1, lf', dn', out'), fun _ _ st => st_sub2 st ?_ ?_, ?_, ?_⟩; exact goSubr; exact goSubp)
        · exact ⟨hr', hl', hd', hb1, ho1, hg1⟩
        · dsimp only; omega
    | false =>
      obtain ⟨he, hno⟩ := hF rfl
      injection he with e1 e2
      injection e2 with e2 e3
      have q1 := e1.symm
      have q2 := e2.symm
      have q3 := e3.symm
      clear e1 e2 e3
      subst q1 q2 q3
      clear hF hT
      (refine goSt ?_; (repeat (refine goAl ?_; intro p hp; refine goSt ?_)))
      refine wl_part rfl rfl (fun g => ?_) (fun g => ?_)
      · have hi' : i < f.ids.length := by simpa using g
        (refine goSt ?_; (repeat (refine goAl ?_; intro p hp; refine goSt ?_)))
        refine W_loopJ (fun (b : Nat × Int × Int) => ⟨[(1, .sl 2 pnC L), (3, .val p), (8, .val v), (9, .val u), (28, .val (.int .i64 L.length)), (29, .val (.int .i64 r)), (10, .sl 3 payC out), (11, .val (.bool false)), (12, .val (.int .i64 i)), (42, .sl 2 pnC L), (43, .val (.int .i64 L.length)), (44, .val (.int .i64 b.1)), (13, .val (.int .i64 b.2.1)), (14, .val (.int .i64 b.2.2))], [.row u 4 1 bC dn, .row v 3 1 iC lft, .box p (flC f) 27]⟩)
          (fun b => b.1 ≤ L.length ∧ b.2.1 = (cntAt L dn i b.1).length ∧ b.2.1 ≤ b.1 ∧ (cntAt L dn i b.1 ≠ [] → ∃ k0 : Nat, k0 < b.1 ∧ b.2.2 = k0 ∧ dn[k0]? = some false ∧ (cntAt L dn i b.1).getLast? = L[k0]?)) (fun b => L.length - b.1) (0, 0, -1)
          (fun _ _ st => st_sub2 st goSubr goSubp) ⟨Nat.zero_le _, by simp [cntAt, nd], Int.le_refl _, fun h => absurd (by simp [cntAt, nd]) h⟩ ?_
        rintro ⟨k, mn, at_⟩ ⟨hk, hmn, hmk, hat⟩
        dsimp only at hk hmn hmk hat ⊢
        (refine goSt ?_; (repeat (refine goAl ?_; intro p hp; refine goSt ?_)))
        refine w_cond rfl (fun hlt2 => ?_) (fun hlt2 => ?_)
        · have hk' : k < L.length := by simpa using hlt2
          have hkd : k < dn.length := by omega
          have hsu := cntAt_succ (i := i) hk' hkd
          have no : ¬ (dn[k] = false ∧ inc i L[k] = true) → k + 1 ≤ L.length ∧ mn = (cntAt L dn i (k + 1)).length ∧ mn ≤ ((k + 1 : Nat) : Int) ∧ (cntAt L dn i (k + 1) ≠ [] → ∃ k0 : Nat, k0 < k + 1 ∧ at_ = k0 ∧ dn[k0]? = some false ∧ (cntAt L dn i (k + 1)).getLast? = L[k0]?) := fun h => by
            rw [if_neg h, List.append_nil] at hsu
            rw [hsu]
            refine ⟨hk', hmn, by omega, fun hne => ?_⟩
            obtain ⟨k0, h1, h2⟩ := hat hne
            exact ⟨k0, by omega, h2⟩
          have yes : dn[k] = false → inc i L[k] = true → k + 1 ≤ L.length ∧ mn + 1 = (cntAt L dn i (k + 1)).length ∧ mn + 1 ≤ ((k + 1 : Nat) : Int) ∧ (cntAt L dn i (k + 1) ≠ [] → ∃ k0 : Nat, k0 < k + 1 ∧ ((k : Nat) : Int) = k0 ∧ dn[k0]? = some false ∧ (cntAt L dn i (k + 1)).getLast? = L[k0]?) := fun h1 h2 => by
            rw [if_pos ⟨h1, h2⟩] at hsu
            rw [hsu]
            exact ⟨hk', by rw [List.length_append, List.length_singleton]; omega, by omega, fun _ => ⟨k, by omega, rfl, by rw [List.getElem?_eq_getElem hkd, h1], by rw [List.getLast?_concat, List.getElem?_eq_getElem hk']⟩⟩
          (refine goSt ?_; (repeat (refine goAl ?_; intro p hp; refine goSt ?_)))
          refine wl_part rfl rfl (fun g1 => ?_) (fun g1 => ?_)
          · have g1' : dn[k] = false := by simpa using g1
            (refine goSt ?_; (repeat (refine goAl ?_; intro p hp; refine goSt ?_)))
            refine wl_part rfl rfl (fun g2 => ?_) (fun g2 => ?_)
            · have hin : inc i L[k] = true := by simp [inc]; left; simp at g2; omega
              (refine goSt ?_; (repeat (refine goAl ?_; intro p hp; refine goSt ?_)))
              (refine ⟨(k + 1, mn + 1, k), fun _ _ st => st_sub2 st ?_ ?_, ?_, ?_⟩; exact goSubr; exact goSubp)
              · exact yes g1' hin
              · dsimp only; omega
            · (refine goSt ?_; (repeat (refine goAl ?_; intro p hp; refine goSt ?_)))
              refine w_cond rfl (fun g3 => ?_) (fun g3 => ?_)
              · have hin : inc i L[k] = true := by simp [inc]; right; simp at g3; omega
                (refine goSt ?_; (repeat (refine goAl ?_; intro p hp; refine goSt ?_)))
                (refine ⟨(k + 1, mn + 1, k), fun _ _ st => st_sub2 st ?_ ?_, ?_, ?_⟩; exact goSubr; exact goSubp)
                · exact yes g1' hin
                · dsimp only; omega
              · (refine goSt ?_; (repeat (refine goAl ?_; intro p hp; refine goSt ?_)))
                (refine ⟨(k + 1, mn, at_), fun _ _ st => st_sub2 st ?_ ?_, ?_, ?_⟩; exact goSubr; exact goSubp)
                · refine no fun h => ?_
                  have := h.2
                  simp [inc] at this
                  simp at g2 g3
                  omega
                · dsimp only; omega
          · have g1' : dn[k] = true := by simpa using g1
            (refine goSt ?_; (repeat (refine goAl ?_; intro p hp; refine goSt ?_)))
            (refine ⟨(k + 1, mn, at_), fun _ _ st => st_sub2 st ?_ ?_, ?_, ?_⟩; exact goSubr; exact goSubp)
            · exact no fun h => by rw [g1'] at h; cases h.1
            · dsimp only; omega
        · have hkk : k = L.length := by simp at hlt2; omega
          subst hkk
          have hlf := leafAt_cnt (i := i) hdl
          (refine goSt ?_; (repeat (refine goAl ?_; intro p hp; refine goSt ?_)))
          refine w_cond rfl (fun hm1 => ?_) (fun hm1 => ?_)
          · have hne : ((cntAt L dn i L.length).length : Int) ≠ 1 := by rw [← hmn]; simpa using hm1
            rw [nz_ne hne] at hlf
            (refine goSt ?_; (repeat (refine goAl ?_; intro p hp; refine goSt ?_)))
            (refine ⟨(i + 1, false, lft, dn, out), fun _ _ st => st_sub2 st ?_ ?_, ?_, ?_⟩; exact goSubr; exact goSubp)
            · refine ⟨hi', hl', hd', fun _ => ⟨rfl, fun j hj => ?_⟩, fun h => by cases h⟩
              by_cases hji : j = i
              · rw [hji]; exact hlf
              · exact hno j (by dsimp only at hj; omega)
            · dsimp only; omega
          · have hm2 : mn = 1 := by simpa using hm1
            obtain ⟨e, he⟩ := List.length_eq_one_iff.1 (show (cntAt L dn i L.length).length = 1 by omega)
            rw [he] at hlf
            obtain ⟨k0, hk0, hatk, hdk, hlast⟩ := hat (by rw [he]; simp)
            rw [he] at hlast
            have hqe : L[k0]? = some e := hlast.symm
            have hle : L[k0] = e := by rw [List.getElem?_eq_getElem hk0] at hqe; exact Option.some.inj hqe
            have hkd : k0 < dn.length := by omega
            have hdk' : dn[k0] = false := by rw [List.getElem?_eq_getElem hkd] at hdk; exact Option.some.inj hdk
            have hfl := findLeaf_at hi' hlf hno
            obtain ⟨_, hleaf⟩ := Gr.leafAt_some hlf
            have hme : e ∈ L := nd_mem hleaf.1
            obtain ⟨hon, hne, _, _⟩ := Gr.oth_spec hok hme hleaf.2.1
            obtain ⟨hea, heb, _⟩ := hok.lt e hme
            have hoe : ((e.1 : Nat) : Int) + (e.2 : Nat) - (i : Nat) = ((oth e i : Nat) : Int) := by
              unfold oth
              rcases Gr.inc_iff.1 hleaf.2.1 with h | h <;> omega
            rw [treeGo, hfl] at hgo
            dsimp only at hgo
            have hil : i < lft.length := by omega
            have hqi : lft[i]? = some lft[i] := List.getElem?_eq_getElem hil
            have hgd : lft.getD i 0 = lft[i] := by simp [List.getD_eq_getElem?_getD, hqi]
            have hbi := hbt.at hil
            have hbl := bnd_le (r := r) (by omega)
            have hbp := bnd_pos r
            rw [hgd] at hgo
            have her : (nd L dn).erase e = nd L (dn.set k0 true) := by rw [nd_set hok.nd hk0 hkd hdk', hle]
            rw [her] at hgo
            subst hatk hm2
            clear hmn hmk hat hlf hfl hlast he hm1 hdk hleaf
            generalize oth e i = o at *
            have hol : o < lft.length := by omega
            have hqo : lft[o]? = some lft[o] := List.getElem?_eq_getElem hol
            have hgo2 : lft.getD o 0 = lft[o] := by simp [List.getD_eq_getElem?_getD, hqo]
            have hbo := hbt.at hol
            have hii : f.ids[i]? = some f.ids[i] := List.getElem?_eq_getElem hi'
            have hio : f.ids[o]? = some f.ids[o] := List.getElem?_eq_getElem hon
            have hg1 : f.ids.getD i 0 = f.ids[i] := by simp [List.getD_eq_getElem?_getD, hii]
            have hg2 : f.ids.getD o 0 = f.ids[o] := by simp [List.getD_eq_getElem?_getD, hio]
            (refine goSt ?_; (repeat (refine goAl ?_; intro p hp; refine goSt ?_)))
            refine W_run 12 [72, 73, 74, 75, 76, 77, 78, 79, 80, 81, 82, 83] [0, 1, 2, 3, 4, 5, 6, 7, 8, 9, 10, 11] Cut.nil rfl goFlt mixedS (by kernel_rfl) rfl ?_
            refine rpv [] [] ?_
            refine rpv [] [] ?_
            refine rpv [0, 1] [] ?_
            refine rpv [2] [] ?_
            refine rpv [3] [] ?_
            refine rpv [] [] ?_
            refine rpv [] [] ?_
            refine rpv [5, 6] [] ?_
            refine rpv [7] [] ?_
            refine rpv [8] [] ?_
            refine rpv [4, 9] [] ?_
            refine rpv [] [] ?_
            refine ⟨⟨by kernel_rfl, by kernel_rfl⟩, fun vs => ?_⟩
            apply WL_auto [10, 11]
            · exact goPk
            · exact goNrm
            · kernel_rfl
            · kernel_rfl
            (refine goSt ?_; (repeat (refine goAl ?_; intro p hp; refine goSt ?_)))
            rw [hoe]
            refine w_cond rfl (fun hz => ?_) (fun hz => ?_)
            · rw [if_pos (by simpa using hz)] at hgo
              rw [treeR_none hgo.symm]
              (refine goSt ?_; (repeat (refine goAl ?_; intro p hp; refine goSt ?_)))
              refine Res_nil 6 3 payC rfl ?_
              (apply res2; exact rfl; exact rfl; exact rfl; exact ⟨rfl, rfl⟩)
            · rw [if_neg (by simpa using hz)] at hgo
              (refine goSt ?_; (repeat (refine goAl ?_; intro p hp; refine goSt ?_)))
              refine W_run 17 [90, 91, 92, 93, 94, 95, 96, 97, 98, 99, 100, 101, 102, 103, 104, 105, 18] [0, 1, 2, 3, 4, 5, 6, 7, 8, 9, 10, 11, 12, 13, 14, 15, 16] Cut.nil rfl goFlt mixedS (by kernel_rfl) rfl ?_
              refine rpv [] [] ?_
              refine rpv [0] [] ?_
              refine rpv [] [] ?_
              refine rpv [1, 2] [] ?_
              refine rpv [3] [] ?_
              refine rpv [] [] ?_
              refine rpv [5] [] ?_
              refine rpv [] [] ?_
              refine rpv [6, 7] [] ?_
              refine rpv [8] [] ?_
              refine rpv [] [] ?_
              refine rpv [] [] ?_
              refine rpv [10, 11] [] ?_
              refine rpv [12] [] ?_
              refine rpv [13] [] ?_
              refine rpv [4, 9, 14] [] ?_
              refine Run.tok [] [] rfl (fun vs => by apply ltr_pk; exact goPk; exact goLtr) goApp ?_
              refine ⟨⟨by kernel_rfl, by kernel_rfl⟩, fun vs => ?_⟩
              apply WL_auto [15, 16]
              · exact goPk
              · exact goNrm
              · kernel_rfl
              · kernel_rfl
              (refine goSt ?_; (repeat (refine goAl ?_; intro p hp; refine goSt ?_)))
              rename_i vs
              have hst1 : i < (lft.set o (lft[o] + lft[i])).length := by rw [List.length_set]; exact hil
              have hmv : (lft.set o (lft[o] + lft[i])).set i 0 = mvL lft i o := by unfold mvL; rw [hgo2, hgd]
              refine W_meet ⟨[(1, .sl 2 pnC L), (3, .val p), (8, .val v), (9, .val u), (28, .val (.int .i64 L.length)), (29, .val (.int .i64 r)), (10, .sl 3 payC out), (12, .val (.int .i64 i)), (14, .val (.int .i64 k0)), (17, .val (.int .i64 o)), (18, .val (vs 16))], [.box (vs 16) (payC (payX f.ids i o lft[i])) 53, .row u 4 1 bC dn, .row v 3 1 iC lft, .box p (flC f) 27]⟩ ?_ ?_
              · refine w_cond rfl (fun hpos => ?_) (fun hpos => ?_)
                · have hpx : payX f.ids i o lft[i] = ⟨f.ids[o], f.ids[i], lft[i]⟩ := by unfold payX; rw [if_pos (by simpa using hpos), hg1, hg2]
                  rw [hpx]
                  (refine goSt ?_; (repeat (refine goAl ?_; intro p hp; refine goSt ?_)))
                  refine W_run 14 [111, 112, 113, 114, 115, 116, 117, 118, 119, 120, 121, 122, 123, 124] [0, 1, 2, 3, 4, 5, 6, 7, 8, 9, 10, 11, 12, 13] Cut.nil rfl goFlt mixedS (by kernel_rfl) rfl ?_
                  refine rpv [] [] ?_
                  refine rpv [0] [] ?_
                  refine rpv [] [] ?_
                  refine rpv [1, 2] [] ?_
                  refine rpv [3] [] ?_
                  refine rpv [] [] ?_
                  refine rpv [5] [] ?_
                  refine rpv [] [] ?_
                  refine rpv [6, 7] [] ?_
                  refine rpv [8] [] ?_
                  refine rpv [] [] ?_
                  refine rpv [] [] ?_
                  refine rpv [10, 11] [] ?_
                  refine rpv [12] [] ?_
                  refine ⟨⟨by kernel_rfl, by kernel_rfl⟩, fun vs => ?_⟩
                  apply WL_auto [4, 9, 13]
                  · exact goPk
                  · exact goNrm
                  · kernel_rfl
                  · kernel_rfl
                  (refine goSt ?_; (repeat (refine goAl ?_; intro p hp; refine goSt ?_)))
                  exact ⟨rfl, fun _ _ st => st_sub2 st goSubr goSubp⟩
                · have hpx : payX f.ids i o lft[i] = ⟨f.ids[i], f.ids[o], -lft[i]⟩ := by unfold payX; rw [if_neg (by simp at hpos; omega), hg1, hg2]
                  rw [hpx]
                  (refine goSt ?_; (repeat (refine goAl ?_; intro p hp; refine goSt ?_)))
                  exact ⟨rfl, fun _ _ st => st_sub2 st goSubr goSubp⟩
              · generalize payX f.ids i o lft[i] = px at hgo ⊢
                (refine goSt ?_; (repeat (refine goAl ?_; intro p hp; refine goSt ?_)))
                refine W_run 8 [126, 127, 128, 129, 130, 131, 132, 133] [0, 1, 2, 3, 4, 5, 6, 7] Cut.nil rfl goFlt mixedS (by kernel_rfl) rfl ?_
                refine rpv [] [] ?_
                refine rpv [] [] ?_
                refine rpv [0, 1] [] ?_
                refine rpv [2] [] ?_
                refine rpv [] [] ?_
                refine rpv [] [] ?_
                refine rpv [4, 5] [] ?_
                refine rpv [6] [] ?_
                refine ⟨⟨by kernel_rfl, by kernel_rfl⟩, fun vs => ?_⟩
                apply WL_auto [0, 1, 3, 7]
                · exact goPk
                · exact goNrm
                · kernel_rfl
                · kernel_rfl
                (refine goSt ?_; (repeat (refine goAl ?_; intro p hp; refine goSt ?_)))
                rw [hmv]
                (first | (apply wl_call (add8P_con out px (by omega)); exact rfl; exact rfl) | (apply wl_callR (add8P_con out px (by omega)); exact rfl; exact goAtm; exact rfl))
                (refine goSt ?_; (repeat (refine goAl ?_; intro p hp; refine goSt ?_)))
                (refine ⟨(i + 1, true, mvL lft i o, dn.set k0 true, addP out px), fun _ _ st => st_sub2 st ?_ ?_, ?_, ?_⟩; exact goSubr; exact goSubp)
                · refine ⟨hi', by rw [Gr.mvL_len]; exact hl', by rw [List.length_set]; exact hd', (fun h => by cases h), fun _ => ⟨by rw [bnd_succ]; exact mvL_btw hbp hbt, ?_, hgo⟩⟩
                  have := (Gr.addP_perm out px).length_eq
                  rw [this, List.length_cons]; omega
                · dsimp only; omega
      · have hii : i = f.ids.length := by simp at g; omega
        subst hii
        have hnone : treeR f.ids L owed = none := treeR_none (by rw [← hgo, treeGo, findLeaf_none hno])
        rw [hnone]
        (refine goSt ?_; (repeat (refine goAl ?_; intro p hp; refine goSt ?_)))
        refine Res_nil 6 3 payC rfl ?_
        (apply res2; exact rfl; exact rfl; exact rfl; exact ⟨rfl, rfl⟩)
  · have hrr : r = L.length := by simp at hlt; omega
    subst hrr
    rw [Nat.sub_self, treeGo] at hgo
    have hR : treeR f.ids L owed = if lft.all (fun n => decide (n = 0)) = true then some out else none := by unfold treeR; rw [← hgo]
    rw [hR]
    (refine goSt ?_; (repeat (refine goAl ?_; intro p hp; refine goSt ?_)))
    refine W_loopJ (fun (k : Nat) => ⟨[(10, .sl 3 payC out), (148, .val v), (149, .val (.int .i64 lft.length)), (150, .val (.int .i64 k))], [.row v 3 1 iC lft]⟩)
      (fun k => k ≤ lft.length ∧ (lft.take k).all (fun n => decide (n = 0)) = true) (fun k => lft.length - k) 0 (fun _ _ st => st_sub2 st goSubr goSubp) ⟨Nat.zero_le _, rfl⟩ ?_
    rintro k ⟨hk, hal⟩
    (refine goSt ?_; (repeat (refine goAl ?_; intro p hp; refine goSt ?_)))
    refine w_cond rfl (fun hlt2 => ?_) (fun hlt2 => ?_)
    · have hk' : k < lft.length := by simpa using hlt2
      (refine goSt ?_; (repeat (refine goAl ?_; intro p hp; refine goSt ?_)))
      refine w_cond rfl (fun hz => ?_) (fun hz => ?_)
      · rw [if_neg (fun h => by have := List.all_eq_true.1 h _ (List.getElem_mem hk'); simp at this hz; exact hz this)]
        (refine goSt ?_; (repeat (refine goAl ?_; intro p hp; refine goSt ?_)))
        refine Res_nil 6 3 payC rfl ?_
        (apply res2; exact rfl; exact rfl; exact rfl; exact ⟨rfl, rfl⟩)
      · (refine goSt ?_; (repeat (refine goAl ?_; intro p hp; refine goSt ?_)))
        (refine ⟨k + 1, fun _ _ st => st_sub2 st ?_ ?_, ?_, ?_⟩; exact goSubr; exact goSubp)
        · refine ⟨hk', ?_⟩
          rw [List.take_succ_eq_append_getElem hk', List.all_append, hal]
          simpa using hz
        · omega
    · have hkk : k = lft.length := by simp at hlt2; omega
      subst hkk
      rw [List.take_length] at hal
      rw [if_pos hal]
      (refine goSt ?_; (repeat (refine goAl ?_; intro p hp; refine goSt ?_)))
      (apply res2; exact rfl; exact rfl; exact rfl; exact ⟨rfl, rfl⟩)
end Go.Proofs.YtihonljdanjfmaaDoor.Sw
namespace Go.Proofs.YtihonljdanjfmaaDoor.Sw
open Go.RowKit Go
section
variable {P : Program} {rs : List (Nat × AV)} {d : Option Nat} {ty : TypeId} {pos : String} {af : Array Edge} {g : Option (Nat × Bool)}
theorem pow60 {k : Nat} (hk : k ≤ 60) : 2 ^ k ≤ 1152921504606846976 := Nat.pow_le_pow_right (n := 2) (by omega) hk
theorem wrap_pow {k : Nat} (hk : k ≤ 60) : IntKind.i64.wrap ((2 : Int) ^ k) = (2 : Int) ^ k := by
  have h2 : ((2 ^ k : Nat) : Int) ≤ ((1152921504606846976 : Nat) : Int) := Int.ofNat_le.2 (pow60 hk)
  have h3 : 0 ≤ ((2 ^ k : Nat) : Int) := Int.natCast_nonneg _
  rw [show (2 : Int) ^ k = ((2 ^ k : Nat) : Int) from by rw [Int.natCast_pow]; rfl]
  exact IntWalk.i64_in _ ⟨by generalize ((2 ^ k : Nat) : Int) = q at h2 h3 ⊢; omega, by generalize ((2 ^ k : Nat) : Int) = q at h2 h3 ⊢; omega⟩
theorem shl_run {k : Nat} (hk : k ≤ 60) : Op.shift .shl .i64 1 .i64 (k : Int) = pure (.int .i64 ((2 ^ k : Nat) : Int)) := by
  have h2 : ((2 ^ k : Nat) : Int) ≤ ((1152921504606846976 : Nat) : Int) := Int.ofNat_le.2 (pow60 hk)
  have h3 : 0 ≤ ((2 ^ k : Nat) : Int) := Int.natCast_nonneg _
  have h4 : (1 : Int) * 2 ^ k = ((2 ^ k : Nat) : Int) := by rw [Int.one_mul, Int.natCast_pow]; rfl
  have h5 : IntKind.i64.wrap ((2 ^ k : Nat) : Int) = ((2 ^ k : Nat) : Int) := IntWalk.i64_in _ ⟨by generalize ((2 ^ k : Nat) : Int) = q at h2 h3 ⊢; omega, by generalize ((2 ^ k : Nat) : Int) = q at h2 h3 ⊢; omega⟩
  rw [shift_shl .i64 .i64 1 (k : Int) (by omega) (by show (k : Int) ≤ 64; omega), Int.toNat_natCast, h4, h5]
theorem shr_run {s k : Nat} (hk : k ≤ 60) : Op.shift .shr .i64 (s : Int) .i64 (k : Int) = pure (.int .i64 ((s / 2 ^ k : Nat) : Int)) := by
  rw [shift_shr .i64 .i64 (s : Int) (k : Int) (by omega) (by show (k : Int) ≤ 64; omega), Int.toNat_natCast, Int.natCast_ediv, Int.natCast_pow]
  rfl
theorem and1_run {s : Nat} (hs : s ≤ 1152921504606846976) : bits .and .i64 (s : Int) 1 = ((s % 2 : Nat) : Int) := by
  have h1 : (BitVec.ofInt 64 (s : Int) &&& BitVec.ofInt 64 1).toNat = s % 2 := by
    rw [BitVec.toNat_and]
    have e1 : (BitVec.ofInt 64 (s : Int)).toNat = s := by simp [BitVec.toNat_ofInt]; omega
    have e2 : (BitVec.ofInt 64 1).toNat = 1 := rfl
    rw [e1, e2, Nat.and_one_is_mod]
  show IntKind.i64.wrap (((BitVec.ofInt 64 (s : Int) &&& BitVec.ofInt 64 1).toNat : Nat) : Int) = _
  rw [h1]
  exact IntWalk.i64_in _ ⟨by omega, by omega⟩
theorem lt_shl {x y : Operand} {k : Nat} {t t' : TypeId} (hx : opv rs x = some (.val (.int .i64 1))) (hy : opv rs y = some (.val (.int .i64 (k : Int)))) (hk : k ≤ 60) :
    LT P ⟨d, .binOp .shl t x y t', ty, pos, af, g⟩ rs [] (Is (.val (.int .i64 ((2 ^ k : Nat) : Int))) []) :=
  LT_val (fun _ e => by cases e) fun a w G hR _ => ⟨_, rfl, by
    have e1 : a.eval x = _ := opv_ok hR hx
    have e2 : a.eval y = _ := opv_ok hR hy
    simp only [execOp, e1, e2]
    simp [go_sem, eqGuard, Go.binOp]
    have h := shl_run hk
    simp [go_sem] at h
    first | exact h | exact wrap_pow hk⟩
theorem lt_shr {x y : Operand} {s k : Nat} {t t' : TypeId} (hx : opv rs x = some (.val (.int .i64 (s : Int)))) (hy : opv rs y = some (.val (.int .i64 (k : Int)))) (hk : k ≤ 60) :
    LT P ⟨d, .binOp .shr t x y t', ty, pos, af, g⟩ rs [] (Is (.val (.int .i64 ((s / 2 ^ k : Nat) : Int))) []) :=
  LT_val (fun _ e => by cases e) fun a w G hR _ => ⟨_, rfl, by
    have e1 : a.eval x = _ := opv_ok hR hx
    have e2 : a.eval y = _ := opv_ok hR hy
    have h := shr_run (s := s) hk
    simp only [execOp, e1, e2]
    simp [go_sem, eqGuard, Go.binOp, h]⟩
theorem lt_and1 {x y : Operand} {s : Nat} {t t' : TypeId} (hx : opv rs x = some (.val (.int .i64 (s : Int)))) (hy : opv rs y = some (.val (.int .i64 1))) (hs : s ≤ 1152921504606846976) :
    LT P ⟨d, .binOp .and t x y t', ty, pos, af, g⟩ rs [] (Is (.val (.int .i64 ((s % 2 : Nat) : Int))) []) :=
  LT_val (fun _ e => by cases e) fun a w G hR _ => ⟨_, rfl, by
    have e1 : a.eval x = _ := opv_ok hR hx
    have e2 : a.eval y = _ := opv_ok hR hy
    have h := and1_run hs
    simp only [execOp, e1, e2]
    simp [go_sem, eqGuard, Go.binOp, h]⟩
end
section
variable {c : Cx} {rs : List (Nat × AV)} {hs : List HA} {Q : Exit → S → Prop} {ops : Array Oper} {tl : List Oper} {d : Nat} {ty : TypeId} {pos : String} {af : Array Edge}
theorem wl_shl {x y : Operand} {k : Nat} {t t' : TypeId} (hx : opv rs x = some (.val (.int .i64 1))) (hy : opv rs y = some (.val (.int .i64 (k : Int)))) (hk : k ≤ 60) (hd : Nat.blt d c.nt = true) (kk : WL c ops tl ⟨(d, .val (.int .i64 ((2 ^ k : Nat) : Int))) :: rs, hs⟩ Q) : WL c ops (⟨some d, .binOp .shl t x y t', ty, pos, af, none⟩ :: tl) ⟨rs, hs⟩ Q := wl_ex (lt_shl hx hy hk) hd kk
theorem wl_shr {x y : Operand} {s k : Nat} {t t' : TypeId} (hx : opv rs x = some (.val (.int .i64 (s : Int)))) (hy : opv rs y = some (.val (.int .i64 (k : Int)))) (hk : k ≤ 60) (hd : Nat.blt d c.nt = true) (kk : WL c ops tl ⟨(d, .val (.int .i64 ((s / 2 ^ k : Nat) : Int))) :: rs, hs⟩ Q) : WL c ops (⟨some d, .binOp .shr t x y t', ty, pos, af, none⟩ :: tl) ⟨rs, hs⟩ Q := wl_ex (lt_shr hx hy hk) hd kk
theorem wl_and1 {x y : Operand} {s : Nat} {t t' : TypeId} (hx : opv rs x = some (.val (.int .i64 (s : Int)))) (hy : opv rs y = some (.val (.int .i64 1))) (hs' : s ≤ 1152921504606846976) (hd : Nat.blt d c.nt = true) (kk : WL c ops tl ⟨(d, .val (.int .i64 ((s % 2 : Nat) : Int))) :: rs, hs⟩ Q) : WL c ops (⟨some d, .binOp .and t x y t', ty, pos, af, none⟩ :: tl) ⟨rs, hs⟩ Q := wl_ex (lt_and1 hx hy hs') hd kk
end
/-- An own slice whose value lies in a cell of an own box is frozen. -/
theorem st_frzX {α : Type} {c : Cx} {rs : List (Nat × AV)} {hs r : List HA} {e t : TypeId} {n j : Nat} {f : α → List AV} {xs : List α} {p v : Value} {cs : List AV} {g : HA → List HA} {a : Act} {w : World} (hr : Rm hs (.row v e n f xs) r) (hat : At r (.box p cs t) g) (hj : cs[j]? = some (.val v)) (st : St c ⟨rs, hs⟩ a w) : St c ⟨rs, g (.box p (cs.set j (.sl n f xs)) t)⟩ a w := by
  obtain ⟨G, F, hI, hF, hR, rr⟩ := st
  obtain ⟨G', F', h1, h2, h3⟩ := row_freeze (rest := r) ⟨hI.gin, hI.nd, hI.own, hr.sel hI.hs⟩
  obtain ⟨rest, hsel⟩ := hat.sel
  obtain ⟨F1, F2, ep, ⟨b, vs, e1, e2, e3, e4⟩, k2⟩ := (hsel _ _ _ _).1 (by rw [hat.self]; exact h1.hs)
  refine ⟨G', F', ⟨h1.gin, h1.nd, h1.own, (hsel _ _ _ _).2 ⟨F1, F2, ep, ⟨b, vs, e1, e2, ?_, e4⟩, k2⟩⟩, hF.trans h2, hR.mono h2.gle, rr.1, rr.2.step h2⟩
  obtain ⟨u, hu, hu2⟩ := e3.get hj
  have hu3 : u = v := hu2
  subst hu3
  have := e3.set j h3
  rwa [show vs.set j u = vs from by
    obtain ⟨hlt, rfl⟩ := List.getElem?_eq_some_iff.1 hu
    exact List.set_getElem_self hlt] at this
theorem W_frzX {α : Type} {c : Cx} {rs : List (Nat × AV)} {hs r : List HA} {Q : Exit → S → Prop} {x : Code} {e t : TypeId} {n : Nat} {f : α → List AV} {xs : List α} {p v : Value} {cs : List AV} {g : HA → List HA} (p0 : Value) (j : Nat) (hr : Rm hs (.row v e n f xs) r) (hp : p = p0) (hat : At r (.box p cs t) g) (hj : cs[j]? = some (.val v)) (k : W c x ⟨rs, g (.box p (cs.set j (.sl n f xs)) t)⟩ Q) : W c x ⟨rs, hs⟩ Q := ⟨fun a w st => k.out a w (st_frzX hr hat hj st)⟩
end Go.Proofs.YtihonljdanjfmaaDoor.Sw
namespace Go.Proofs.YtihonljdanjfmaaDoor.Sw
open Go.RowKit Go Go.Shelf Go.Proofs
open Go.Proofs.YtihonljdanjfmaaDoor.Gr (treeR pick pick_snoc Ok)
def plC (l : List Pay) : List AV := [.sl 3 payC l]
instance {l : List Pay} : OneL (plC l) := inferInstanceAs (OneL [_])
instance : OneF plC := ⟨fun _ => inferInstance⟩
instance : LenF plC 1 := ⟨fun _ => rfl⟩
theorem prJ_nodup (sp : Nat → Nat → Bool) (i k m : Nat) : (prJ sp i k m).Nodup := by
  unfold prJ
  rw [List.Nodup, List.pairwise_map]
  exact ((List.nodup_range' (s := k) (n := m)).filter _).imp fun h e => h (by injection e)
theorem prR_nodup (sp : Nat → Nat → Bool) (n : Nat) : ∀ i, i ≤ n → (prR sp n i).Nodup
  | 0, _ => List.nodup_nil
  | i + 1, hi => by
    rw [prR]
    refine List.nodup_append.2 ⟨prR_nodup sp n i (by omega), prJ_nodup sp _ _ _, fun a ha b hb e => ?_⟩
    subst e
    have h1 := (prR_mem (by omega)).1 ha
    have h2 := prJ_mem.1 hb
    omega
theorem prR_ok (sp : Nat → Nat → Bool) (n : Nat) : Ok n (prR sp n n) := ⟨prR_nodup sp n n (Nat.le_refl _), fun p hp => by
  have := (prR_mem (Nat.le_refl _)).1 hp
  exact ⟨by omega, by omega, by omega⟩⟩
def triN (n : Nat) : Nat → Nat
  | 0 => 0
  | i + 1 => triN n i + (n - (i + 1))
theorem prR_tri (sp : Nat → Nat → Bool) (n : Nat) : ∀ i, (prR sp n i).length ≤ triN n i
  | 0 => Nat.le_refl _
  | i + 1 => by
    have h1 := prR_tri sp n i
    have h2 := prJ_len sp i (i + 1) (n - (i + 1))
    rw [prR, List.length_append, triN]; omega
theorem prR_15 (sp : Nat → Nat → Bool) {n : Nat} (h : n ≤ 6) : (prR sp n n).length ≤ 15 := by
  refine Nat.le_trans (prR_tri sp n n) ?_
  have : n = 0 ∨ n = 1 ∨ n = 2 ∨ n = 3 ∨ n = 4 ∨ n = 5 ∨ n = 6 := by omega
  rcases this with rfl | rfl | rfl | rfl | rfl | rfl | rfl <;> decide
theorem pow15 {k : Nat} (hk : k ≤ 15) : 2 ^ k ≤ 32768 := Nat.pow_le_pow_right (n := 2) (by omega) hk
/-- All trees of so many edges among the first so many choices. -/
def allTo (ids : List Int) (l : List (Nat × Nat)) (owed : List Int) (S k : Nat) : List (List Pay) := (List.range S).filterMap fun s => if (pick l s).length = k then treeR ids (pick l s) owed else none
theorem allTo_succ (ids : List Int) (l : List (Nat × Nat)) (owed : List Int) (S k : Nat) : allTo ids l owed (S + 1) k = allTo ids l owed S k ++ (if (pick l S).length = k then treeR ids (pick l S) owed else none).toList := by
  unfold allTo
  rw [List.range_succ, List.filterMap_append]
  cases h : (if (pick l S).length = k then treeR ids (pick l S) owed else none) <;> simp [h]
def allR (f : Flo) (k : Nat) : List (List Pay) := allTo f.ids (prR (spk f) f.ids.length f.ids.length) (owed8 f) (2 ^ (prR (spk f) f.ids.length f.ids.length).length) k
def allV (f : Flo) : AV := .agg [.sl 1 plC (allR f 0), .sl 1 plC (allR f 1), .sl 1 plC (allR f 2), .sl 1 plC (allR f 3), .sl 1 plC (allR f 4), .sl 1 plC (allR f 5)]
theorem pick_take {l : List (Nat × Nat)} {i s : Nat} (hi : i < l.length) : pick (l.take (i + 1)) s = pick (l.take i) s ++ if s / 2 ^ i % 2 = 1 then [l[i]] else [] := by
  rw [List.take_succ_eq_append_getElem hi, pick_snoc, List.length_take, Nat.min_eq_left (by omega)]
theorem pick_len (l : List (Nat × Nat)) (s : Nat) : (pick l s).length ≤ l.length := (Gr.pick_sub l s).length_le
set_option maxRecDepth 20000 in
set_option maxHeartbeats 8000000 in
theorem All8_con (f : Flo) (hF : FloF f) (hS : Sml f) : Con Tryd.prog 114 [.agg (flC f)] [] (Is (allV f) []) := by
  have hn := hF.ids
  have hok := prR_ok (spk f) f.ids.length
  have hll := prR_15 (spk f) hn
  have hol := owed8_len f
  have hob := (owed8_btw hF hS).mono (lo' := -1000000000) (hi' := 1000000000) (by omega) (by omega)
  refine con_of Tryd.func114 rfl (enters_of Tryd.func114 (by kernel_rfl) rfl) rfl ?_; intro n w0 F0 G0
  (refine goSt ?_; (repeat (refine goAl ?_; intro p hp; refine goSt ?_)))
  rename_i p1 hp1 p2 hp2
  (apply wl_callP (owed8_con f hF hS); exact rfl; exact goCutl; exact rfl)
  rintro _ _ ⟨u, rfl, rfl⟩
  (apply WL_frz 13; exact rfl; exact goRm)
  (refine goSt ?_; (repeat (refine goAl ?_; intro p hp; refine goSt ?_)))
  (apply wl_callP (pairs8_con f (by omega) hS.qs); exact rfl; exact goCutl; exact rfl)
  rintro _ _ ⟨u, rfl, rfl⟩
  (apply WL_frz 15; exact rfl; exact goRm)
  unfold allV allR
  generalize owed8 f = ow at hol hob ⊢
  generalize prR (spk f) f.ids.length f.ids.length = l at hok hll ⊢
  (refine goSt ?_; (repeat (refine goAl ?_; intro p hp; refine goSt ?_)))
  have hp36 := pow15 hll
  refine W_loopJ (fun (b : Nat × (Nat → Value) × (Nat → List (List Pay))) => ⟨[(1, .val p1), (2, .val p2), (3, .val p), (4, .sl 1 iC ow), (5, .sl 2 pnC l), (6, .val (.int .i64 b.1))], [.row (b.2.1 0) 25 1 plC (b.2.2 0), .row (b.2.1 1) 25 1 plC (b.2.2 1), .row (b.2.1 2) 25 1 plC (b.2.2 2), .row (b.2.1 3) 25 1 plC (b.2.2 3), .row (b.2.1 4) 25 1 plC (b.2.2 4), .row (b.2.1 5) 25 1 plC (b.2.2 5), .box p [.val (b.2.1 0), .val (b.2.1 1), .val (b.2.1 2), .val (b.2.1 3), .val (b.2.1 4), .val (b.2.1 5)] 178, .box p2 [.val (.slice none 0 0), .val (.slice none 0 0), .val (.slice none 0 0), .val (.slice none 0 0), .val (.slice none 0 0), .val (.slice none 0 0)] 178, .box p1 (flC f) 27]⟩)
    (fun b => b.1 ≤ 2 ^ l.length ∧ ∀ j, j < 6 → b.2.2 j = allTo f.ids l ow b.1 j) (fun b => 2 ^ l.length - b.1) (0, (fun _ => .slice none 0 0), fun _ => [])
    (fun _ _ st => st_sub2 (st_nil 25 1 plC (st_nil 25 1 plC (st_nil 25 1 plC (st_nil 25 1 plC (st_nil 25 1 plC (st_nil 25 1 plC st)))))) goSubr goSubp) ⟨Nat.zero_le _, fun j _ => rfl⟩ ?_
  rintro ⟨S, v, ls⟩ ⟨hS1, hls⟩
  dsimp only at hS1 hls ⊢
  (refine goSt ?_; (repeat (refine goAl ?_; intro p hp; refine goSt ?_)))
  (apply wl_shl (k := l.length); exact rfl; exact rfl; omega; exact rfl)
  (refine goSt ?_; (repeat (refine goAl ?_; intro p hp; refine goSt ?_)))
  refine w_cond rfl (fun hlt => ?_) (fun hlt => ?_)
  · have hS2 : S < 2 ^ l.length := by simp only [decide_eq_true_eq] at hlt; exact Int.ofNat_lt.1 hlt
    (refine goSt ?_; (repeat (refine goAl ?_; intro p hp; refine goSt ?_)))
    refine W_loopJ (fun (b : Nat × Value) => ⟨[(1, .val p1), (2, .val p2), (3, .val p), (4, .sl 1 iC ow), (5, .sl 2 pnC l), (6, .val (.int .i64 S)), (7, .val b.2), (23, .sl 2 pnC l), (24, .val (.int .i64 l.length)), (25, .val (.int .i64 b.1))], [.row b.2 149 2 pnC (pick (l.take b.1) S), .row (v 0) 25 1 plC (ls 0), .row (v 1) 25 1 plC (ls 1), .row (v 2) 25 1 plC (ls 2), .row (v 3) 25 1 plC (ls 3), .row (v 4) 25 1 plC (ls 4), .row (v 5) 25 1 plC (ls 5), .box p [.val (v 0), .val (v 1), .val (v 2), .val (v 3), .val (v 4), .val (v 5)] 178, .box p2 [.val (.slice none 0 0), .val (.slice none 0 0), .val (.slice none 0 0), .val (.slice none 0 0), .val (.slice none 0 0), .val (.slice none 0 0)] 178, .box p1 (flC f) 27]⟩)
      (fun b => b.1 ≤ l.length) (fun b => l.length - b.1) (0, .slice none 0 0) (fun _ _ st => st_sub2 (st_nil 149 2 pnC st) goSubr goSubp) (Nat.zero_le _) ?_
    rintro ⟨i, w⟩ hi
    dsimp only at hi ⊢
    (refine goSt ?_; (repeat (refine goAl ?_; intro p hp; refine goSt ?_)))
    refine w_cond rfl (fun hlt2 => ?_) (fun hlt2 => ?_)
    · have hi' : i < l.length := by simpa using hlt2
      have hpt := pick_take (s := S) hi'
      have hpl := pick_len (l.take i) S
      have htl : (l.take i).length = i := by rw [List.length_take]; omega
      (refine goSt ?_; (repeat (refine goAl ?_; intro p hp; refine goSt ?_)))
      rename_i px hpx
      (apply wl_shr (s := S) (k := i); exact rfl; exact rfl; omega; exact rfl)
      (refine goSt ?_; (repeat (refine goAl ?_; intro p hp; refine goSt ?_)))
      (apply wl_and1 (s := S / 2 ^ i); exact rfl; exact rfl; exact Nat.le_trans (Nat.div_le_self _ _) (by omega); exact rfl)
      (refine goSt ?_; (repeat (refine goAl ?_; intro p hp; refine goSt ?_)))
      refine w_cond rfl (fun hb => ?_) (fun hb => ?_)
      · have hb' : S / 2 ^ i % 2 = 1 := by simp only [decide_eq_true_eq] at hb; exact Int.ofNat_inj.1 hb
        rw [if_pos hb'] at hpt
        (refine goSt ?_; (repeat (refine goAl ?_; intro p hp; refine goSt ?_)))
        refine WL_as 36 (.agg (pnC l[i])) rfl ?_
        (apply wl_litF pnC; exact inferInstance; exact inferInstance; exact inferInstance; (repeat (first | exact Elems.nil | (apply Elems.cons; exact rfl; exact inferInstance; exact rfl))); exact rfl; (first | exact (of_decide_eq_true rfl) | decide | (simp; done) | (simp; omega)); exact rfl)
        (first | (apply wl_append; exact rfl; exact rfl; exact goRm; exact inferInstance; exact inferInstance; (first | omega | (simp; omega)); exact rfl) | (apply wl_appendN; exact rfl; exact rfl; exact inferInstance; exact inferInstance; (first | omega | (simp; omega)); exact rfl))
        intro w2
        rw [← hpt]
        (refine goSt ?_; (repeat (refine goAl ?_; intro p hp; refine goSt ?_)))
        (refine ⟨(i + 1, w2), fun _ _ st => st_sub2 st ?_ ?_, ?_, ?_⟩; exact goSubr; exact goSubp)
        · dsimp only; omega
        · dsimp only; omega
      · have hb' : ¬ S / 2 ^ i % 2 = 1 := fun h => by rw [h] at hb; simp at hb
        rw [if_neg hb', List.append_nil] at hpt
        rw [← hpt]
        (refine goSt ?_; (repeat (refine goAl ?_; intro p hp; refine goSt ?_)))
        (refine ⟨(i + 1, w), fun _ _ st => st_sub2 st ?_ ?_, ?_, ?_⟩; exact goSubr; exact goSubp)
        · dsimp only; omega
        · dsimp only; omega
    · have hii : i = l.length := by simp at hlt2; omega
      subst hii
      rw [List.take_length]
      have hsub := Gr.pick_sub l S
      have hsu := allTo_succ f.ids l ow S
      have hokS := hok.sub hsub
      generalize pick l S = T at hsu hokS ⊢
      (apply W_frz 7; exact rfl; exact goRm)
      have stay : (∀ j, j < 6 → (if T.length = j then treeR f.ids T ow else none) = none) → S + 1 ≤ 2 ^ l.length ∧ ∀ j, j < 6 → ls j = allTo f.ids l ow (S + 1) j := fun h => ⟨hS2, fun j hj => by rw [hsu, h j hj, hls j hj]; simp⟩
      (refine goSt ?_; (repeat (refine goAl ?_; intro p hp; refine goSt ?_)))
      refine w_cond rfl (fun hge => ?_) (fun hge => ?_)
      · have hge' : 6 ≤ T.length := by simp at hge; omega
        (refine goSt ?_; (repeat (refine goAl ?_; intro p hp; refine goSt ?_)))
        (refine ⟨(S + 1, v, ls), fun _ _ st => st_sub2 st ?_ ?_, ?_, ?_⟩; exact goSubr; exact goSubp)
        · exact stay fun j hj => if_neg (by omega)
        · dsimp only; omega
      · have hlt6 : T.length < 6 := by simp at hge; omega
        have C := tree8_con f T ow (by omega) (by omega) hokS hol hob
        cases hT : treeR f.ids T ow with
        | none =>
          rw [hT] at C
          unfold treeA at C
          (refine goSt ?_; (repeat (refine goAl ?_; intro p hp; refine goSt ?_)))
          (first | (apply wl_call (C); exact rfl; exact rfl) | (apply wl_callR (C); exact rfl; exact goAtm; exact rfl))
          (refine goSt ?_; (repeat (refine goAl ?_; intro p hp; refine goSt ?_)))
          (refine ⟨(S + 1, v, ls), fun _ _ st => st_sub2 st ?_ ?_, ?_, ?_⟩; exact goSubr; exact goSubp)
          · exact stay fun j hj => by rw [hT]; split <;> rfl
          · dsimp only; omega
        | some out =>
          rw [hT] at C
          unfold treeA at C
          have hlm : ∀ j, j < 6 → (ls j).length ≤ 40000 := fun j hj => by
            rw [hls j hj]
            exact Nat.le_trans (List.length_filterMap_le _ _) (by simp; omega)
          have go : ∀ k, T.length = k → S + 1 ≤ 2 ^ l.length ∧ ∀ j, j < 6 → (fun j => if j = k then ls k ++ [out] else ls j) j = allTo f.ids l ow (S + 1) j := fun k hk => ⟨hS2, fun j hj => by
            rw [hsu, hls j hj |>.symm, hT]
            dsimp only
            by_cases h : j = k
            · rw [if_pos h, if_pos (by omega), h]; rfl
            · rw [if_neg h, if_neg (by omega)]; simp⟩
          (refine goSt ?_; (repeat (refine goAl ?_; intro p hp; refine goSt ?_)))
          (first | (apply wl_call (C); exact rfl; exact rfl) | (apply wl_callR (C); exact rfl; exact goAtm; exact rfl))
          (refine goSt ?_; (repeat (refine goAl ?_; intro p hp; refine goSt ?_)))
          have h6 : T.length = 0 ∨ T.length = 1 ∨ T.length = 2 ∨ T.length = 3 ∨ T.length = 4 ∨ T.length = 5 := by omega
          rcases h6 with h6 | h6 | h6 | h6 | h6 | h6
          · have hl6 := hlm 0 (by omega)
            rw [h6]
            (refine goSt ?_; (repeat (refine goAl ?_; intro p hp; refine goSt ?_)))
            (apply wl_litF plC; exact inferInstance; exact inferInstance; exact inferInstance; (repeat (first | exact Elems.nil | (apply Elems.cons; exact rfl; exact inferInstance; exact rfl))); exact rfl; (first | exact (of_decide_eq_true rfl) | decide | (simp; done) | (simp; omega)); exact rfl)
            (first | (apply wl_append; exact rfl; exact rfl; exact goRm; exact inferInstance; exact inferInstance; (first | omega | (simp; omega)); exact rfl) | (apply wl_appendN; exact rfl; exact rfl; exact inferInstance; exact inferInstance; (first | omega | (simp; omega)); exact rfl))
            intro w2
            refine WL_one At.here (fun hone => ?_)
            (refine goSt ?_; (repeat (refine goAl ?_; intro p hp; refine goSt ?_)))
            (refine ⟨(S + 1, (fun j => if j = 0 then w2 else v j), (fun j => if j = 0 then ls 0 ++ [out] else ls j)), fun _ _ st => st_sub2 st ?_ ?_, ?_, ?_⟩; exact goSubr; exact goSubp)
            · exact go 0 h6
            · dsimp only; omega
          · have hl6 := hlm 1 (by omega)
            rw [h6]
            (refine goSt ?_; (repeat (refine goAl ?_; intro p hp; refine goSt ?_)))
            (apply wl_litF plC; exact inferInstance; exact inferInstance; exact inferInstance; (repeat (first | exact Elems.nil | (apply Elems.cons; exact rfl; exact inferInstance; exact rfl))); exact rfl; (first | exact (of_decide_eq_true rfl) | decide | (simp; done) | (simp; omega)); exact rfl)
            (first | (apply wl_append; exact rfl; exact rfl; exact goRm; exact inferInstance; exact inferInstance; (first | omega | (simp; omega)); exact rfl) | (apply wl_appendN; exact rfl; exact rfl; exact inferInstance; exact inferInstance; (first | omega | (simp; omega)); exact rfl))
            intro w2
            refine WL_one At.here (fun hone => ?_)
            (refine goSt ?_; (repeat (refine goAl ?_; intro p hp; refine goSt ?_)))
            (refine ⟨(S + 1, (fun j => if j = 1 then w2 else v j), (fun j => if j = 1 then ls 1 ++ [out] else ls j)), fun _ _ st => st_sub2 st ?_ ?_, ?_, ?_⟩; exact goSubr; exact goSubp)
            · exact go 1 h6
            · dsimp only; omega
          · have hl6 := hlm 2 (by omega)
            rw [h6]
            (refine goSt ?_; (repeat (refine goAl ?_; intro p hp; refine goSt ?_)))
            (apply wl_litF plC; exact inferInstance; exact inferInstance; exact inferInstance; (repeat (first | exact Elems.nil | (apply Elems.cons; exact rfl; exact inferInstance; exact rfl))); exact rfl; (first | exact (of_decide_eq_true rfl) | decide | (simp; done) | (simp; omega)); exact rfl)
            (first | (apply wl_append; exact rfl; exact rfl; exact goRm; exact inferInstance; exact inferInstance; (first | omega | (simp; omega)); exact rfl) | (apply wl_appendN; exact rfl; exact rfl; exact inferInstance; exact inferInstance; (first | omega | (simp; omega)); exact rfl))
            intro w2
            refine WL_one At.here (fun hone => ?_)
            (refine goSt ?_; (repeat (refine goAl ?_; intro p hp; refine goSt ?_)))
            (refine ⟨(S + 1, (fun j => if j = 2 then w2 else v j), (fun j => if j = 2 then ls 2 ++ [out] else ls j)), fun _ _ st => st_sub2 st ?_ ?_, ?_, ?_⟩; exact goSubr; exact goSubp)
            · exact go 2 h6
            · dsimp only; omega
          · have hl6 := hlm 3 (by omega)
            rw [h6]
            (refine goSt ?_; (repeat (refine goAl ?_; intro p hp; refine goSt ?_)))
            (apply wl_litF plC; exact inferInstance; exact inferInstance; exact inferInstance; (repeat (first | exact Elems.nil | (apply Elems.cons; exact rfl; exact inferInstance; exact rfl))); exact rfl; (first | exact (of_decide_eq_true rfl) | decide | (simp; done) | (simp; omega)); exact rfl)
            (first | (apply wl_append; exact rfl; exact rfl; exact goRm; exact inferInstance; exact inferInstance; (first | omega | (simp; omega)); exact rfl) | (apply wl_appendN; exact rfl; exact rfl; exact inferInstance; exact inferInstance; (first | omega | (simp; omega)); exact rfl))
            intro w2
            refine WL_one At.here (fun hone => ?_)
            (refine goSt ?_; (repeat (refine goAl ?_; intro p hp; refine goSt ?_)))
            (refine ⟨(S + 1, (fun j => if j = 3 then w2 else v j), (fun j => if j = 3 then ls 3 ++ [out] else ls j)), fun _ _ st => st_sub2 st ?_ ?_, ?_, ?_⟩; exact goSubr; exact goSubp)
            · exact go 3 h6
            · dsimp only; omega
          · have hl6 := hlm 4 (by omega)
            rw [h6]
            (refine goSt ?_; (repeat (refine goAl ?_; intro p hp; refine goSt ?_)))
            (apply wl_litF plC; exact inferInstance; exact inferInstance; exact inferInstance; (repeat (first | exact Elems.nil | (apply Elems.cons; exact rfl; exact inferInstance; exact rfl))); exact rfl; (first | exact (of_decide_eq_true rfl) | decide | (simp; done) | (simp; omega)); exact rfl)
            (first | (apply wl_append; exact rfl; exact rfl; exact goRm; exact inferInstance; exact inferInstance; (first | omega | (simp; omega)); exact rfl) | (apply wl_appendN; exact rfl; exact rfl; exact inferInstance; exact inferInstance; (first | omega | (simp; omega)); exact rfl))
            intro w2
            refine WL_one At.here (fun hone => ?_)
            (refine goSt ?_; (repeat (refine goAl ?_; intro p hp; refine goSt ?_)))
            (refine ⟨(S + 1, (fun j => if j = 4 then w2 else v j), (fun j => if j = 4 then ls 4 ++ [out] else ls j)), fun _ _ st => st_sub2 st ?_ ?_, ?_, ?_⟩; exact goSubr; exact goSubp)
            · exact go 4 h6
            · dsimp only; omega
          · have hl6 := hlm 5 (by omega)
            rw [h6]
            (refine goSt ?_; (repeat (refine goAl ?_; intro p hp; refine goSt ?_)))
            (apply wl_litF plC; exact inferInstance; exact inferInstance; exact inferInstance; (repeat (first | exact Elems.nil | (apply Elems.cons; exact rfl; exact inferInstance; exact rfl))); exact rfl; (first | exact (of_decide_eq_true rfl) | decide | (simp; done) | (simp; omega)); exact rfl)
            (first | (apply wl_append; exact rfl; exact rfl; exact goRm; exact inferInstance; exact inferInstance; (first | omega | (simp; omega)); exact rfl) | (apply wl_appendN; exact rfl; exact rfl; exact inferInstance; exact inferInstance; (first | omega | (simp; omega)); exact rfl))
            intro w2
            refine WL_one At.here (fun hone => ?_)
            (refine goSt ?_; (repeat (refine goAl ?_; intro p hp; refine goSt ?_)))
            (refine ⟨(S + 1, (fun j => if j = 5 then w2 else v j), (fun j => if j = 5 then ls 5 ++ [out] else ls j)), fun _ _ st => st_sub2 st ?_ ?_, ?_, ?_⟩; exact goSubr; exact goSubp)
            · exact go 5 h6
            · dsimp only; omega
  · have hSS : S = 2 ^ l.length := by
      have : ¬ ((S : Int) < ((2 ^ l.length : Nat) : Int)) := by simpa only [decide_eq_false_iff_not] using hlt
      have := fun h => this (Int.ofNat_lt.2 h)
      omega
    subst hSS
    (apply W_frzX (v := v 0) p 0; exact goRm; exact rfl; exact goAtm; exact rfl)
    (apply W_frzX (v := v 1) p 1; exact goRm; exact rfl; exact goAtm; exact rfl)
    (apply W_frzX (v := v 2) p 2; exact goRm; exact rfl; exact goAtm; exact rfl)
    (apply W_frzX (v := v 3) p 3; exact goRm; exact rfl; exact goAtm; exact rfl)
    (apply W_frzX (v := v 4) p 4; exact goRm; exact rfl; exact goAtm; exact rfl)
    (apply W_frzX (v := v 5) p 5; exact goRm; exact rfl; exact goAtm; exact rfl)
    rw [hls 0 (by omega), hls 1 (by omega), hls 2 (by omega), hls 3 (by omega), hls 4 (by omega), hls 5 (by omega)]
    simp only [List.set_cons_zero, List.set_cons_succ]
    (refine goSt ?_; (repeat (refine goAl ?_; intro p hp; refine goSt ?_)))
    (apply resN; exact rfl; exact rfl; exact goAtm; exact inferInstance; exact rfl; exact ⟨rfl, rfl⟩)
end Go.Proofs.YtihonljdanjfmaaDoor.Sw
namespace Go.Proofs.YtihonljdanjfmaaDoor.Sw
open Go.RowKit Go Go.Shelf Go.Proofs
open Go.Proofs.YtihonljdanjfmaaDoor.Gr (treeR pick Ok treeR_iff payE amt lf Zr)
theorem lt_eqlNilV {P : Program} {rs : List (Nat × AV)} {d : Option Nat} {ty : TypeId} {pos : String} {af : Array Edge} {g : Option (Nat × Bool)} {x : Operand} {t t' e : TypeId} {m : Nat} (hT : TyS P t e m) (hx : opv rs x = some (.val (.slice none 0 0))) : LT P ⟨d, .binOp .eql t x (.const (.slice none 0 0)) t', ty, pos, af, g⟩ rs [] (Is (.val (.bool true)) []) :=
  LT_val (fun _ e => by cases e) fun a w G hR _ => ⟨_, rfl, by
    have e1 : a.eval x = _ := opv_ok hR hx
    simp only [execOp, e1]
    have h1 : (eqGuard .eql t x (.const (.slice none 0 0)) (.slice none 0 0) (a.eval (.const (.slice none 0 0)))).run P w = .ok () w := by simp [eqGuard, Act.eval, go_sem]
    have h2 : (binOp .eql t (.slice none 0 0) (a.eval (.const (.slice none 0 0)))).run P w = .ok (.bool true) w := run_eql_slice_nil w t e none _ _ hT.und
    simp only [Sem.run_bind, h1, h2, Result.andThen_ok]
    rfl⟩
theorem wl_eqlNilV {c : Cx} {rs : List (Nat × AV)} {hs : List HA} {Q : Exit → S → Prop} {ops : Array Oper} {tl : List Oper} {d : Nat} {ty : TypeId} {pos : String} {af : Array Edge} {x : Operand} {t t' e : TypeId} {m : Nat} (hx : opv rs x = some (.val (.slice none 0 0))) (hT : TyS c.P t e m) (hd : Nat.blt d c.nt = true) (k : WL c ops tl ⟨(d, .val (.bool true)) :: rs, hs⟩ Q) : WL c ops (⟨some d, .binOp .eql t x (.const (.slice none 0 0)) t', ty, pos, af, none⟩ :: tl) ⟨rs, hs⟩ Q := wl_ex (lt_eqlNilV hT hx) hd k
/-- Payments of a tree: each of a penny or more. -/
theorem tree_pays {ids : List Int} {L : List (Nat × Nat)} {owed : List Int} {out : List Pay} {c : Int} (hok : Ok ids.length L) (hlen : owed.length = ids.length) (hc : 0 ≤ c) (hb : Btw (-c) c owed) (h : treeR ids L owed = some out) : out.length = L.length ∧ ∀ x ∈ out, 1 ≤ x.p ∧ x.p ≤ ids.length * c := by
  obtain ⟨hf, hz, hm, _, hp⟩ := (treeR_iff hok hlen).1 h
  refine ⟨by rw [hp.length_eq, List.length_map], fun x hx => ?_⟩
  obtain ⟨e, he, rfl⟩ := List.mem_map.1 (hp.mem_iff.1 hx)
  have h0 := hm e he
  have hbb : ∀ v, v < ids.length → -c ≤ lf owed v ∧ lf owed v ≤ c := fun v hv => by
    have hv' : v < owed.length := by omega
    rw [lf_at hv']; exact hb.at hv'
  obtain ⟨Q, hQ⟩ := Gr.side_of hf he (.inr ⟨rfl, rfl⟩ : Gr.Ends e e.2 e.1)
  have ha := Gr.amt_side hok.nd hz hQ
  have hs := sumP_bound hc hbb Q
  rw [← ha] at hs
  unfold payE
  split
  · dsimp only; omega
  · dsimp only; omega
theorem allTo_pays {ids : List Int} {l : List (Nat × Nat)} {owed : List Int} {c : Int} (hok : Ok ids.length l) (hlen : owed.length = ids.length) (hc : 0 ≤ c) (hb : Btw (-c) c owed) {S k : Nat} {out : List Pay} (h : out ∈ allTo ids l owed S k) : out.length = k ∧ ∀ x ∈ out, 1 ≤ x.p ∧ x.p ≤ ids.length * c := by
  unfold allTo at h
  obtain ⟨s, _, hs⟩ := List.mem_filterMap.1 h
  split at hs
  · rename_i hk
    have := tree_pays (hok.sub (Gr.pick_sub l s)) hlen hc hb hs
    rw [hk] at this
    exact this
  · cases hs
/-- The first list of several that has something in it. -/
def fewTo {α : Type} (g : Nat → List α) : Nat → List α
  | 0 => []
  | i + 1 => if (fewTo g i).isEmpty = true then g i else fewTo g i
def chS (c : Int) (l : List Pay) : Int := if c < 0 ∨ sumPay l < c then sumPay l else c
def chTo (g : Nat → List (List Pay)) : Nat → Int
  | 0 => -1
  | i + 1 => (g i).foldl chS (chTo g i)
def fwA (l : List (List Pay)) : AV := match l with | [] => .val (.slice none 0 0) | l => .sl 1 plC l
def askR (f : Flo) : List (List Pay) × Int × Int :=
  if floOk f = true then (if (fewTo (allR f) 6).isEmpty = true then ([], 0, 8) else (fewTo (allR f) 6, chTo (allR f) 6, 0)) else ([], 0, 80)
def askA (r : List (List Pay) × Int × Int) : AV := .tup [.sl 1 plC r.1, .val (.int .i64 r.2.1), .val (.int .i64 r.2.2)]
theorem allV_at (f : Flo) {i : Nat} (hi : i < 6) : ([.sl 1 plC (allR f 0), .sl 1 plC (allR f 1), .sl 1 plC (allR f 2), .sl 1 plC (allR f 3), .sl 1 plC (allR f 4), .sl 1 plC (allR f 5)] : List AV)[i]? = some (.sl 1 plC (allR f i)) := by
  have : i = 0 ∨ i = 1 ∨ i = 2 ∨ i = 3 ∨ i = 4 ∨ i = 5 := by omega
  rcases this with rfl | rfl | rfl | rfl | rfl | rfl <;> rfl
set_option maxRecDepth 20000 in
set_option maxHeartbeats 8000000 in
theorem asked8_con (f : Flo) (hS : Sml f) : Con Tryd.prog 71 [.agg (flC f)] [] (Is (askA (askR f)) []) := by
  have C := floors_con f hS
  unfold askR askA
  cases hok : floOk f with
  | false =>
    rw [hok] at C
    rw [if_neg (by simp)]
    refine con_of Tryd.func71 rfl (enters_of Tryd.func71 (by kernel_rfl) rfl) rfl ?_; intro n w0 F0 G0
    (refine goSt ?_; (repeat (refine goAl ?_; intro p hp; refine goSt ?_)))
    (first | (apply wl_call (C); exact rfl; exact rfl) | (apply wl_callR (C); exact rfl; exact goAtm; exact rfl))
    (refine goSt ?_; (repeat (refine goAl ?_; intro p hp; refine goSt ?_)))
    refine Res_nil 2 1 plC rfl ?_
    (apply res3; exact rfl; exact rfl; exact rfl; exact rfl; exact ⟨rfl, rfl⟩)
  | true =>
    have hF := flo_f hok
    have hn := hF.ids
    rw [hok] at C
    rw [if_pos rfl]
    have CA := All8_con f hF hS
    unfold allV at CA
    have hpays : ∀ k, ∀ l ∈ allR f k, l.length = k ∧ ∀ x ∈ l, -1000000000000 ≤ x.p ∧ x.p ≤ 1000000000000 := fun k l hl => by
      have h1 := allTo_pays (prR_ok (spk f) f.ids.length) (owed8_len f) (by omega) (owed8_btw hF hS) hl
      refine ⟨h1.1, fun x hx => ?_⟩
      have h2 := h1.2 x hx
      have h3 : (f.ids.length : Int) * 200000000 ≤ 6 * 200000000 := Int.mul_le_mul_of_nonneg_right (by omega) (by omega)
      omega
    have hlen : ∀ k, (allR f k).length ≤ 32768 := fun k => Nat.le_trans (List.length_filterMap_le _ _) (by simp; exact pow15 (prR_15 _ hn))
    have hat : ∀ i, i < 6 → ([.sl 1 plC (allR f 0), .sl 1 plC (allR f 1), .sl 1 plC (allR f 2), .sl 1 plC (allR f 3), .sl 1 plC (allR f 4), .sl 1 plC (allR f 5)] : List AV)[i]? = some (.sl 1 plC (allR f i)) := fun i hi => allV_at f hi
    refine con_of Tryd.func71 rfl (enters_of Tryd.func71 (by kernel_rfl) rfl) rfl ?_; intro n w0 F0 G0
    (refine goSt ?_; (repeat (refine goAl ?_; intro p hp; refine goSt ?_)))
    (first | (apply wl_call (C); exact rfl; exact rfl) | (apply wl_callR (C); exact rfl; exact goAtm; exact rfl))
    (refine goSt ?_; (repeat (refine goAl ?_; intro p hp; refine goSt ?_)))
    (first | (apply wl_call (CA); exact rfl; exact rfl) | (apply wl_callR (CA); exact rfl; exact goAtm; exact rfl))
    clear CA
    generalize ([.sl 1 plC (allR f 0), .sl 1 plC (allR f 1), .sl 1 plC (allR f 2), .sl 1 plC (allR f 3), .sl 1 plC (allR f 4), .sl 1 plC (allR f 5)] : List AV) = cs at hat ⊢
    generalize allR f = g at *
    (refine goSt ?_; (repeat (refine goAl ?_; intro p hp; refine goSt ?_)))
    refine W_loopJ (fun (b : Nat × List (List Pay) × Int) => ⟨[(15, .agg cs), (16, .val (.int .i64 b.1)), (5, fwA b.2.1), (6, .val (.int .i64 b.2.2))], []⟩) (fun b => b.1 ≤ 6 ∧ b.2.1 = fewTo g b.1 ∧ b.2.2 = chTo g b.1) (fun b => 6 - b.1) (0, [], -1) (fun _ _ st => st_sub2 st goSubr goSubp) ⟨Nat.zero_le _, rfl, rfl⟩ ?_
    rintro ⟨i, fw, ch⟩ ⟨hi, hfw, hch⟩
    dsimp only at hi hfw hch ⊢
    (refine goSt ?_; (repeat (refine goAl ?_; intro p hp; refine goSt ?_)))
    refine w_cond rfl (fun hlt => ?_) (fun hlt => ?_)
    · have hi' : i < 6 := by simp at hlt; omega
      (refine goSt ?_; (repeat (refine goAl ?_; intro p hp; refine goSt ?_)))
      (apply wl_indexV1 (e := 119); exact Tryd.underlying178; exact rfl; exact rfl; exact rfl; exact hi'; exact hat i hi'; exact rfl)
      (apply wl_assign; exact rfl; exact rfl)
      refine WL_nil ?_
      refine th_norm ?_
      refine W_seq ?_
      have hfs : fewTo g (i + 1) = if (fewTo g i).isEmpty = true then g i else fewTo g i := rfl
      have hcs : chTo g (i + 1) = (g i).foldl chS (chTo g i) := rfl
      rw [← hfw] at hfs
      rw [← hch] at hcs
      have hgl := hlen i
      refine W_meet ⟨[(15, .agg cs), (16, .val (.int .i64 i)), (5, fwA (fewTo g (i + 1))), (6, .val (.int .i64 ch)), (8, .sl 1 plC (g i))], []⟩ ?_ ?_
      · cases fw with
        | nil =>
          rw [if_pos (show (([] : List (List Pay)).isEmpty = true) from rfl)] at hfs
          (refine goSt ?_; (repeat (refine goAl ?_; intro p hp; refine goSt ?_)))
          (apply wl_eqlNilV; exact rfl; exact (inferInstance : TyS Tryd.prog 119 _ _); exact rfl)
          (refine goSt ?_; (repeat (refine goAl ?_; intro p hp; refine goSt ?_)))
          refine w_cond rfl (fun hg => ?_) (fun hg => ?_)
          · rw [hfs]
            (refine goSt ?_; (repeat (refine goAl ?_; intro p hp; refine goSt ?_)))
            have hne : g i ≠ [] := fun e => by rw [e] at hg; simp at hg
            obtain ⟨x, t, hgx⟩ := List.exists_cons_of_ne_nil hne
            rw [hgx]
            exact ⟨rfl, fun _ _ st => st_sub2 st goSubr goSubp⟩
          · have hgn : g i = [] := by
              rcases hq : g i with _ | ⟨x, t⟩
              · rfl
              · rw [hq] at hg; simp at hg
            rw [hfs, hgn]
            (refine goSt ?_; (repeat (refine goAl ?_; intro p hp; refine goSt ?_)))
            exact ⟨rfl, fun _ _ st => st_sub2 st goSubr goSubp⟩
        | cons x t =>
          rw [if_neg (show ¬ ((x :: t).isEmpty = true) by simp)] at hfs
          (refine goSt ?_; (repeat (refine goAl ?_; intro p hp; refine goSt ?_)))
          (apply wl_eqlNil (f := plC) (xs := x :: t) (n := 1); exact rfl; exact (inferInstance : TyS Tryd.prog 119 _ _); exact rfl)
          intro b hb
          have hbf : b = false := by cases b with | false => rfl | true => exact absurd (hb rfl) (by simp)
          subst hbf
          rw [hfs]
          (refine goSt ?_; (repeat (refine goAl ?_; intro p hp; refine goSt ?_)))
          exact ⟨rfl, fun _ _ st => st_sub2 st goSubr goSubp⟩
      · generalize hfw2 : fewTo g (i + 1) = fw2 at *
        have hgp := hpays i
        generalize g i = ls at hcs hgl hgp ⊢
        (refine goSt ?_; (repeat (refine goAl ?_; intro p hp; refine goSt ?_)))
        refine W_loopJ (fun (b : Nat × Int) => ⟨[(15, .agg cs), (16, .val (.int .i64 i)), (5, fwA fw2), (27, .sl 1 plC ls), (28, .val (.int .i64 ls.length)), (29, .val (.int .i64 b.1)), (6, .val (.int .i64 b.2))], []⟩) (fun b => b.1 ≤ ls.length ∧ b.2 = (ls.take b.1).foldl chS ch) (fun b => ls.length - b.1) (0, ch) (fun _ _ st => st_sub2 st goSubr goSubp) ⟨Nat.zero_le _, rfl⟩ ?_
        rintro ⟨k, c⟩ ⟨hk, hc⟩
        dsimp only at hk hc ⊢
        (refine goSt ?_; (repeat (refine goAl ?_; intro p hp; refine goSt ?_)))
        refine w_cond rfl (fun hlt2 => ?_) (fun hlt2 => ?_)
        · have hk' : k < ls.length := by simpa using hlt2
          have hp := hgp _ (List.getElem_mem hk')
          have hst : (ls.take (k + 1)).foldl chS ch = chS c ls[k] := by rw [List.take_succ_eq_append_getElem hk', List.foldl_append, ← hc]; rfl
          have CS := Sum8_con ls[k] (by omega) hp.2
          unfold chS at hst
          (refine goSt ?_; (repeat (refine goAl ?_; intro p hp; refine goSt ?_)))
          refine wl_part rfl rfl (fun g1 => ?_) (fun g1 => ?_)
          · have g1' : c < 0 := of_decide_eq_true g1
            rw [if_pos (.inl g1')] at hst
            (refine goSt ?_; (repeat (refine goAl ?_; intro p hp; refine goSt ?_)))
            (first | (apply wl_call (CS); exact rfl; exact rfl) | (apply wl_callR (CS); exact rfl; exact goAtm; exact rfl))
            (refine goSt ?_; (repeat (refine goAl ?_; intro p hp; refine goSt ?_)))
            (refine ⟨(k + 1, sumPay ls[k]), fun _ _ st => st_sub2 st ?_ ?_, ?_, ?_⟩; exact goSubr; exact goSubp)
            · exact ⟨hk', hst.symm⟩
            · dsimp only; omega
          · have g1' : ¬ c < 0 := of_decide_eq_false g1
            (refine goSt ?_; (repeat (refine goAl ?_; intro p hp; refine goSt ?_)))
            (first | (apply wl_call (CS); exact rfl; exact rfl) | (apply wl_callR (CS); exact rfl; exact goAtm; exact rfl))
            (refine goSt ?_; (repeat (refine goAl ?_; intro p hp; refine goSt ?_)))
            refine w_cond rfl (fun g2 => ?_) (fun g2 => ?_)
            · rw [if_pos (.inr (of_decide_eq_true g2))] at hst
              (refine goSt ?_; (repeat (refine goAl ?_; intro p hp; refine goSt ?_)))
              (first | (apply wl_call (CS); exact rfl; exact rfl) | (apply wl_callR (CS); exact rfl; exact goAtm; exact rfl))
              (refine goSt ?_; (repeat (refine goAl ?_; intro p hp; refine goSt ?_)))
              (refine ⟨(k + 1, sumPay ls[k]), fun _ _ st => st_sub2 st ?_ ?_, ?_, ?_⟩; exact goSubr; exact goSubp)
              · exact ⟨hk', hst.symm⟩
              · dsimp only; omega
            · rw [if_neg (fun h => h.elim g1' (of_decide_eq_false g2))] at hst
              (refine goSt ?_; (repeat (refine goAl ?_; intro p hp; refine goSt ?_)))
              (refine ⟨(k + 1, c), fun _ _ st => st_sub2 st ?_ ?_, ?_, ?_⟩; exact goSubr; exact goSubp)
              · exact ⟨hk', hst.symm⟩
              · dsimp only; omega
        · have hkk : k = ls.length := by simp at hlt2; omega
          subst hkk
          rw [List.take_length, ← hcs] at hc
          (refine goSt ?_; (repeat (refine goAl ?_; intro p hp; refine goSt ?_)))
          (refine ⟨(i + 1, fw2, c), fun _ _ st => st_sub2 st ?_ ?_, ?_, ?_⟩; exact goSubr; exact goSubp)
          · exact ⟨hi', hfw2.symm, hc⟩
          · dsimp only; omega
    · have hii : i = 6 := by simp at hlt; omega
      subst hii
      subst hfw hch
      generalize fewTo g 6 = fw
      generalize chTo g 6 = ch
      (refine goSt ?_; (repeat (refine goAl ?_; intro p hp; refine goSt ?_)))
      cases fw with
      | nil =>
        rw [if_pos (show (([] : List (List Pay)).isEmpty = true) from rfl)]
        (apply wl_eqlNilV; exact rfl; exact (inferInstance : TyS Tryd.prog 119 _ _); exact rfl)
        (refine goSt ?_; (repeat (refine goAl ?_; intro p hp; refine goSt ?_)))
        refine Res_nil 2 1 plC rfl ?_
        (apply res3; exact rfl; exact rfl; exact rfl; exact rfl; exact ⟨rfl, rfl⟩)
      | cons x t =>
        rw [if_neg (show ¬ ((x :: t).isEmpty = true) by simp)]
        (apply wl_eqlNil (f := plC) (xs := x :: t) (n := 1); exact rfl; exact (inferInstance : TyS Tryd.prog 119 _ _); exact rfl)
        intro b hb
        have hbf : b = false := by cases b with | false => rfl | true => exact absurd (hb rfl) (by simp)
        subst hbf
        (refine goSt ?_; (repeat (refine goAl ?_; intro p hp; refine goSt ?_)))
        (apply res3; exact rfl; exact rfl; exact rfl; exact rfl; exact ⟨rfl, rfl⟩)
def can8R (f : Flo) : Bool × Int := if (askR f).2.2 = 80 then (false, (askR f).2.2) else (decide ((askR f).2.2 = 0), 0)
set_option maxRecDepth 20000 in
theorem Can8_con (f : Flo) (hS : Sml f) : Con Tryd.prog 21 [.agg (flC f)] [] (Is (.tup [.val (.bool (can8R f).1), .val (.int .i64 (can8R f).2)]) []) := by
  have C := asked8_con f hS
  unfold can8R
  generalize askR f = r at C ⊢
  obtain ⟨a, b, c⟩ := r
  unfold askA at C
  dsimp only at C ⊢
  refine con_of Tryd.func21 rfl (enters_of Tryd.func21 (by kernel_rfl) rfl) rfl ?_; intro n w0 F0 G0
  (refine goSt ?_; (repeat (refine goAl ?_; intro p hp; refine goSt ?_)))
  (first | (apply wl_call (C); exact rfl; exact rfl) | (apply wl_callR (C); exact rfl; exact goAtm; exact rfl))
  (refine goSt ?_; (repeat (refine goAl ?_; intro p hp; refine goSt ?_)))
  refine w_cond rfl (fun he => ?_) (fun he => ?_)
  · rw [if_pos (of_decide_eq_true he)]
    (refine goSt ?_; (repeat (refine goAl ?_; intro p hp; refine goSt ?_)))
    (apply res2; exact rfl; exact rfl; exact rfl; exact ⟨rfl, rfl⟩)
  · rw [if_neg (of_decide_eq_false he)]
    (refine goSt ?_; (repeat (refine goAl ?_; intro p hp; refine goSt ?_)))
    (apply res2; exact rfl; exact rfl; exact rfl; exact ⟨rfl, rfl⟩)
end Go.Proofs.YtihonljdanjfmaaDoor.Sw
namespace Go.Proofs.YtihonljdanjfmaaDoor.Sw
open Go.RowKit Go Go.Shelf Go.Proofs
def greatF (f : Flo) : Bool := decide ((10 : Int) < f.ids.length) || decide ((20 : Int) < f.qs.length) || decide ((16 : Int) < f.bs.length) || decide ((20 : Int) < f.ps.length) || f.bs.any fun b => decide ((10 : Int) < b.st.length)
theorem sml_of {f : Flo} (h : greatF f = false) : f.ids.length ≤ 10 ∧ f.qs.length ≤ 20 ∧ f.bs.length ≤ 16 ∧ f.ps.length ≤ 20 ∧ ∀ b ∈ f.bs, b.st.length ≤ 10 := by
  simp [greatF] at h
  exact ⟨by omega, by omega, by omega, by omega, fun b hb => by have := h.2 b hb; omega⟩
set_option maxRecDepth 20000 in
theorem great8_con (f : Flo) : Con Tryd.prog 9 [.agg (flC f)] [] (Is (.val (.bool (greatF f))) []) := by
  refine con_of Tryd.func9 rfl (enters_of Tryd.func9 (by kernel_rfl) rfl) rfl ?_; intro n w0 F0 G0
  (refine goSt ?_; (repeat (refine goAl ?_; intro p hp; refine goSt ?_)))
  refine wl_part rfl rfl (fun g1 => ?_) (fun g1 => ?_)
  · (refine goSt ?_; (repeat (refine goAl ?_; intro p hp; refine goSt ?_)))
    (apply res1; exact rfl; exact rfl; exact ⟨(congrArg (fun b => AV.val (Value.bool b)) (by simp at g1; simp [greatF, g1])), rfl⟩)
  · (refine goSt ?_; (repeat (refine goAl ?_; intro p hp; refine goSt ?_)))
    refine wl_part rfl rfl (fun g2 => ?_) (fun g2 => ?_)
    · (refine goSt ?_; (repeat (refine goAl ?_; intro p hp; refine goSt ?_)))
      (apply res1; exact rfl; exact rfl; exact ⟨(congrArg (fun b => AV.val (Value.bool b)) (by simp at g2; simp [greatF, g2])), rfl⟩)
    · (refine goSt ?_; (repeat (refine goAl ?_; intro p hp; refine goSt ?_)))
      refine wl_part rfl rfl (fun g3 => ?_) (fun g3 => ?_)
      · (refine goSt ?_; (repeat (refine goAl ?_; intro p hp; refine goSt ?_)))
        (apply res1; exact rfl; exact rfl; exact ⟨(congrArg (fun b => AV.val (Value.bool b)) (by simp at g3; simp [greatF, g3])), rfl⟩)
      · (refine goSt ?_; (repeat (refine goAl ?_; intro p hp; refine goSt ?_)))
        refine w_cond rfl (fun g4 => ?_) (fun g4 => ?_)
        · (refine goSt ?_; (repeat (refine goAl ?_; intro p hp; refine goSt ?_)))
          (apply res1; exact rfl; exact rfl; exact ⟨(congrArg (fun b => AV.val (Value.bool b)) (by simp at g4; simp [greatF, g4])), rfl⟩)
        · have hW : greatF f = f.bs.any fun b => decide ((10 : Int) < b.st.length) := by unfold greatF; rw [g1, g2, g3, g4]; simp
          have hbl : f.bs.length ≤ 16 := by simp at g3; omega
          rw [hW]
          (refine goSt ?_; (repeat (refine goAl ?_; intro p hp; refine goSt ?_)))
          refine W_loopJ (fun (k : Nat) => ⟨[(28, .sl 4 biC f.bs), (29, .val (.int .i64 f.bs.length)), (30, .val (.int .i64 k))], []⟩) (fun k => k ≤ f.bs.length ∧ (f.bs.take k).any (fun b => decide ((10 : Int) < b.st.length)) = false) (fun k => f.bs.length - k) 0 (fun _ _ st => st_sub2 st goSubr goSubp) ?hj0 ?round
          case hj0 => simp
          case round =>
            rintro k ⟨hk, hno⟩
            (refine goSt ?_; (repeat (refine goAl ?_; intro p hp; refine goSt ?_)))
            refine w_cond rfl (fun hlt => ?_) (fun hlt => ?_)
            · have hlt' : k < f.bs.length := by simpa using hlt
              have htk : f.bs.take (k + 1) = f.bs.take k ++ [f.bs[k]] := List.take_succ_eq_append_getElem hlt'
              (refine goSt ?_; (repeat (refine goAl ?_; intro p hp; refine goSt ?_)))
              refine w_cond rfl (fun hg => ?_) (fun hg => ?_)
              · (refine goSt ?_; (repeat (refine goAl ?_; intro p hp; refine goSt ?_)))
                have : f.bs.any (fun b => decide ((10 : Int) < b.st.length)) = true := List.any_eq_true.2 ⟨_, List.getElem_mem hlt', hg⟩
                (apply res1; exact rfl; exact rfl; exact ⟨(congrArg (fun b => AV.val (Value.bool b)) (by rw [this])), rfl⟩)
              · (refine goSt ?_; (repeat (refine goAl ?_; intro p hp; refine goSt ?_)))
                (refine ⟨k + 1, fun _ _ st => st_sub2 st ?_ ?_, ?_, ?_⟩; exact goSubr; exact goSubp)
                · exact ⟨by omega, by rw [htk, List.any_append, hno]; simpa using hg⟩
                · omega
            · (refine goSt ?_; (repeat (refine goAl ?_; intro p hp; refine goSt ?_)))
              have hkk : k = f.bs.length := by simp at hlt; omega
              subst hkk
              rw [List.take_length] at hno
              (apply res1; exact rfl; exact rfl; exact ⟨(congrArg (fun b => AV.val (Value.bool b)) hno.symm), rfl⟩)
set_option maxRecDepth 20000 in
theorem sameInts_con (xs ys : List Int) (hl : xs.length ≤ 1000000) (hl2 : ys.length ≤ 1000000) : Con Tryd.prog 88 [.sl 1 iC xs, .sl 1 iC ys] [] (Is (.val (.bool (decide (xs = ys)))) []) := by
  refine con_of Tryd.func88 rfl (enters_of Tryd.func88 (by kernel_rfl) rfl) rfl ?_; intro n w0 F0 G0
  (refine goSt ?_; (repeat (refine goAl ?_; intro p hp; refine goSt ?_)))
  refine w_cond rfl (fun hne => ?_) (fun hne => ?_)
  · have hne' : xs ≠ ys := by intro e; rw [e] at hne; simp at hne
    (refine goSt ?_; (repeat (refine goAl ?_; intro p hp; refine goSt ?_)))
    (apply res1; exact rfl; exact rfl; exact ⟨(congrArg (fun b => AV.val (Value.bool b)) (by simp [hne'])), rfl⟩)
  · have hlen : xs.length = ys.length := by simp at hne; omega
    (refine goSt ?_; (repeat (refine goAl ?_; intro p hp; refine goSt ?_)))
    refine W_loopJ (fun (k : Nat) => ⟨[(0, .sl 1 iC xs), (1, .sl 1 iC ys), (5, .val (.int .i64 k))], []⟩) (fun k => k ≤ xs.length ∧ xs.take k = ys.take k) (fun k => xs.length - k) 0 (fun _ _ st => st_sub2 st goSubr goSubp) ?hj0 ?round
    case hj0 => simp
    case round =>
      rintro k ⟨hk, hall⟩
      (refine goSt ?_; (repeat (refine goAl ?_; intro p hp; refine goSt ?_)))
      refine w_cond rfl (fun hlt => ?_) (fun hlt => ?_)
      · have hlt' : k < xs.length := by simpa using hlt
        have hlt2 : k < ys.length := by omega
        have hq1 : xs[k]? = some xs[k] := List.getElem?_eq_getElem hlt'
        have hq2 : ys[k]? = some ys[k] := List.getElem?_eq_getElem hlt2
        (refine goSt ?_; (repeat (refine goAl ?_; intro p hp; refine goSt ?_)))
        refine W_run 8 [17, 18, 19, 20, 21, 22, 23, 24] [0, 1, 2, 3, 4, 5, 6, 7] Cut.nil rfl goFlt mixedS (by kernel_rfl) rfl ?_
        refine rpv [] [] ?_
        refine rpv [] [] ?_
        refine rpv [0, 1] [] ?_
        refine rpv [2] [] ?_
        refine rpv [] [] ?_
        refine rpv [] [] ?_
        refine rpv [4, 5] [] ?_
        refine rpv [6] [] ?_
        refine ⟨⟨by kernel_rfl, by kernel_rfl⟩, fun vs => ?_⟩
        apply WL_auto [3, 7]
        · exact goPk
        · exact goNrm
        · kernel_rfl
        · kernel_rfl
        (refine goSt ?_; (repeat (refine goAl ?_; intro p hp; refine goSt ?_)))
        refine w_cond rfl (fun hg => ?_) (fun hg => ?_)
        · have hne' : xs ≠ ys := by intro e; subst e; simp at hg
          (refine goSt ?_; (repeat (refine goAl ?_; intro p hp; refine goSt ?_)))
          (apply res1; exact rfl; exact rfl; exact ⟨(congrArg (fun b => AV.val (Value.bool b)) (by simp [hne'])), rfl⟩)
        · (refine goSt ?_; (repeat (refine goAl ?_; intro p hp; refine goSt ?_)))
          (refine ⟨k + 1, fun _ _ st => st_sub2 st ?_ ?_, ?_, ?_⟩; exact goSubr; exact goSubp)
          · refine ⟨by omega, ?_⟩
            rw [List.take_succ_eq_append_getElem hlt', List.take_succ_eq_append_getElem hlt2, hall]
            simp at hg; rw [hg]
          · omega
      · (refine goSt ?_; (repeat (refine goAl ?_; intro p hp; refine goSt ?_)))
        have hkk : k = xs.length := by simp at hlt; omega
        have he : xs = ys := by
          rw [List.take_of_length_le (by omega), List.take_of_length_le (by omega)] at hall; exact hall
        (apply res1; exact rfl; exact rfl; exact ⟨(congrArg (fun b => AV.val (Value.bool b)) (by simp [he])), rfl⟩)
set_option maxRecDepth 20000 in
theorem sameInts7_con (xs ys : List Int) (hl : xs.length ≤ 1000000) (hl2 : ys.length ≤ 1000000) : Con Tryd.prog 65 [.sl 1 iC xs, .sl 1 iC ys] [] (Is (.val (.bool (decide (xs = ys)))) []) := by
  refine con_of Tryd.func65 rfl (enters_of Tryd.func65 (by kernel_rfl) rfl) rfl ?_; intro n w0 F0 G0
  (refine goSt ?_; (repeat (refine goAl ?_; intro p hp; refine goSt ?_)))
  (first | (apply wl_call (sameInts_con _ _ hl hl2); exact rfl; exact rfl) | (apply wl_callR (sameInts_con _ _ hl hl2); exact rfl; exact goAtm; exact rfl))
  (refine goSt ?_; (repeat (refine goAl ?_; intro p hp; refine goSt ?_)))
  (apply res1; exact rfl; exact rfl; exact ⟨rfl, rfl⟩)
set_option maxRecDepth 20000 in
theorem sameInts8_con (xs ys : List Int) (hl : xs.length ≤ 1000000) (hl2 : ys.length ≤ 1000000) : Con Tryd.prog 13 [.sl 1 iC xs, .sl 1 iC ys] [] (Is (.val (.bool (decide (xs = ys)))) []) := by
  refine con_of Tryd.func13 rfl (enters_of Tryd.func13 (by kernel_rfl) rfl) rfl ?_; intro n w0 F0 G0
  (refine goSt ?_; (repeat (refine goAl ?_; intro p hp; refine goSt ?_)))
  (first | (apply wl_call (sameInts7_con _ _ hl hl2); exact rfl; exact rfl) | (apply wl_callR (sameInts7_con _ _ hl hl2); exact rfl; exact goAtm; exact rfl))
  (refine goSt ?_; (repeat (refine goAl ?_; intro p hp; refine goSt ?_)))
  (apply res1; exact rfl; exact rfl; exact ⟨rfl, rfl⟩)
theorem payNe (x y : Pay) : (!decide ([x.a, x.b, x.p] = [y.a, y.b, y.p])) = !decide (x = y) := by
  congr 1
  refine decide_eq_decide.2 ?_
  cases x; cases y; simp
set_option maxRecDepth 20000 in
theorem samePays_con (xs ys : List Pay) (hl : xs.length ≤ 1000000) (hl2 : ys.length ≤ 1000000) : Con Tryd.prog 15 [.sl 3 payC xs, .sl 3 payC ys] [] (Is (.val (.bool (decide (xs = ys)))) []) := by
  refine con_of Tryd.func15 rfl (enters_of Tryd.func15 (by kernel_rfl) rfl) rfl ?_; intro n w0 F0 G0
  (refine goSt ?_; (repeat (refine goAl ?_; intro p hp; refine goSt ?_)))
  refine w_cond rfl (fun hne => ?_) (fun hne => ?_)
  · have hne' : xs ≠ ys := by intro e; rw [e] at hne; simp at hne
    (refine goSt ?_; (repeat (refine goAl ?_; intro p hp; refine goSt ?_)))
    (apply res1; exact rfl; exact rfl; exact ⟨(congrArg (fun b => AV.val (Value.bool b)) (by simp [hne'])), rfl⟩)
  · have hlen : xs.length = ys.length := by simp at hne; omega
    (refine goSt ?_; (repeat (refine goAl ?_; intro p hp; refine goSt ?_)))
    refine W_loopJ (fun (k : Nat) => ⟨[(0, .sl 3 payC xs), (1, .sl 3 payC ys), (5, .val (.int .i64 k))], []⟩) (fun k => k ≤ xs.length ∧ xs.take k = ys.take k) (fun k => xs.length - k) 0 (fun _ _ st => st_sub2 st goSubr goSubp) ?hj0 ?round
    case hj0 => simp
    case round =>
      rintro k ⟨hk, hall⟩
      (refine goSt ?_; (repeat (refine goAl ?_; intro p hp; refine goSt ?_)))
      refine w_cond rfl (fun hlt => ?_) (fun hlt => ?_)
      · have hlt' : k < xs.length := by simpa using hlt
        have hlt2 : k < ys.length := by omega
        have hq1 : xs[k]? = some xs[k] := List.getElem?_eq_getElem hlt'
        have hq2 : ys[k]? = some ys[k] := List.getElem?_eq_getElem hlt2
        (refine goSt ?_; (repeat (refine goAl ?_; intro p hp; refine goSt ?_)))
        refine W_run 8 [17, 18, 19, 20, 21, 22, 23, 24] [0, 1, 2, 3, 4, 5, 6, 7] Cut.nil rfl goFlt mixedS (by kernel_rfl) rfl ?_
        refine rpv [] [] ?_
        refine rpv [] [] ?_
        refine rpv [0, 1] [] ?_
        refine rpv [2] [] ?_
        refine rpv [] [] ?_
        refine rpv [] [] ?_
        refine rpv [4, 5] [] ?_
        refine rpv [6] [] ?_
        refine ⟨⟨by kernel_rfl, by kernel_rfl⟩, fun vs => ?_⟩
        apply WL_auto [3, 7]
        · exact goPk
        · exact goNrm
        · kernel_rfl
        · kernel_rfl
        (refine goSt ?_; (repeat (refine goAl ?_; intro p hp; refine goSt ?_)))
        rw [payNe]
        refine w_cond rfl (fun hg => ?_) (fun hg => ?_)
        · have hne' : xs ≠ ys := by intro e; subst e; simp at hg
          (refine goSt ?_; (repeat (refine goAl ?_; intro p hp; refine goSt ?_)))
          (apply res1; exact rfl; exact rfl; exact ⟨(congrArg (fun b => AV.val (Value.bool b)) (by simp [hne'])), rfl⟩)
        · (refine goSt ?_; (repeat (refine goAl ?_; intro p hp; refine goSt ?_)))
          (refine ⟨k + 1, fun _ _ st => st_sub2 st ?_ ?_, ?_, ?_⟩; exact goSubr; exact goSubp)
          · refine ⟨by omega, ?_⟩
            rw [List.take_succ_eq_append_getElem hlt', List.take_succ_eq_append_getElem hlt2, hall]
            simp at hg; rw [hg]
          · omega
      · (refine goSt ?_; (repeat (refine goAl ?_; intro p hp; refine goSt ?_)))
        have hkk : k = xs.length := by simp at hlt; omega
        have he : xs = ys := by
          rw [List.take_of_length_le (by omega), List.take_of_length_le (by omega)] at hall; exact hall
        (apply res1; exact rfl; exact rfl; exact ⟨(congrArg (fun b => AV.val (Value.bool b)) (by simp [he])), rfl⟩)
end Go.Proofs.YtihonljdanjfmaaDoor.Sw
namespace Go.Proofs.YtihonljdanjfmaaDoor.Sw
open Go.RowKit Go Go.Shelf Go.Proofs
theorem quNe (x y : Qu) : (!decide ([x.a, x.b] = [y.a, y.b])) = !decide (x = y) := by
  congr 1
  refine decide_eq_decide.2 ?_
  cases x; cases y; simp
theorem stNe (x y : Stk) : (!decide ([x.fl, x.pt] = [y.fl, y.pt])) = !decide (x = y) := by
  congr 1
  refine decide_eq_decide.2 ?_
  cases x; cases y; simp
theorem take_succ_eq {α : Type} {xs ys : List α} {k : Nat} (h : xs.take k = ys.take k) (h1 : k < xs.length) (h2 : k < ys.length) (e : xs[k] = ys[k]) : xs.take (k + 1) = ys.take (k + 1) := by
  rw [List.take_succ_eq_append_getElem h1, List.take_succ_eq_append_getElem h2, h, e]
theorem take_all_eq {α : Type} {xs ys : List α} {k : Nat} (h : xs.take k = ys.take k) (h1 : xs.length ≤ k) (h2 : ys.length ≤ k) : xs = ys := by
  rwa [List.take_of_length_le h1, List.take_of_length_le h2] at h
set_option maxRecDepth 20000 in
set_option maxHeartbeats 2000000 in
theorem same8_con (f g : Flo) (hS : Sml f) (hT : Sml g) : Con Tryd.prog 14 [.agg (flC f), .agg (flC g)] [] (Is (.val (.bool (decide (f = g)))) []) := by
  have hidsl := hS.ids
  have hqsl := hS.qs
  have hbsl := hS.bs
  have hpsl := hS.ps
  have hidsl2 := hT.ids
  have hpsl2 := hT.ps
  refine con_of Tryd.func14 rfl (enters_of Tryd.func14 (by kernel_rfl) rfl) rfl ?_; intro n w0 F0 G0
  (refine goSt ?_; (repeat (refine goAl ?_; intro p hp; refine goSt ?_)))
  rename_i pf hpf
  (first | (apply wl_call (sameInts8_con f.ids g.ids (by omega) (by omega)); exact rfl; exact rfl) | (apply wl_callR (sameInts8_con f.ids g.ids (by omega) (by omega)); exact rfl; exact goAtm; exact rfl))
  (refine goSt ?_; (repeat (refine goAl ?_; intro p hp; refine goSt ?_)))
  refine wl_part rfl rfl (fun g1 => ?_) (fun g1 => ?_)
  · have hne : f ≠ g := by intro e; subst e; simp at g1
    (refine goSt ?_; (repeat (refine goAl ?_; intro p hp; refine goSt ?_)))
    (apply res1; exact rfl; exact rfl; exact ⟨(congrArg (fun b => AV.val (Value.bool b)) (by simp [hne])), rfl⟩)
  · have e1 : f.ids = g.ids := by simpa using g1
    (refine goSt ?_; (repeat (refine goAl ?_; intro p hp; refine goSt ?_)))
    refine wl_part rfl rfl (fun g2 => ?_) (fun g2 => ?_)
    · have hne : f ≠ g := by intro e; subst e; simp at g2
      (refine goSt ?_; (repeat (refine goAl ?_; intro p hp; refine goSt ?_)))
      (apply res1; exact rfl; exact rfl; exact ⟨(congrArg (fun b => AV.val (Value.bool b)) (by simp [hne])), rfl⟩)
    · have e2 : f.qs.length = g.qs.length := by simp at g2; omega
      (refine goSt ?_; (repeat (refine goAl ?_; intro p hp; refine goSt ?_)))
      refine wl_part rfl rfl (fun g3 => ?_) (fun g3 => ?_)
      · have hne : f ≠ g := by intro e; subst e; simp at g3
        (refine goSt ?_; (repeat (refine goAl ?_; intro p hp; refine goSt ?_)))
        (apply res1; exact rfl; exact rfl; exact ⟨(congrArg (fun b => AV.val (Value.bool b)) (by simp [hne])), rfl⟩)
      · have e3 : f.bs.length = g.bs.length := by simp at g3; omega
        (refine goSt ?_; (repeat (refine goAl ?_; intro p hp; refine goSt ?_)))
        (first | (apply wl_call (samePays_con f.ps g.ps (by omega) (by omega)); exact rfl; exact rfl) | (apply wl_callR (samePays_con f.ps g.ps (by omega) (by omega)); exact rfl; exact goAtm; exact rfl))
        (refine goSt ?_; (repeat (refine goAl ?_; intro p hp; refine goSt ?_)))
        refine w_cond rfl (fun g4 => ?_) (fun g4 => ?_)
        · have hne : f ≠ g := by intro e; subst e; simp at g4
          (refine goSt ?_; (repeat (refine goAl ?_; intro p hp; refine goSt ?_)))
          (apply res1; exact rfl; exact rfl; exact ⟨(congrArg (fun b => AV.val (Value.bool b)) (by simp [hne])), rfl⟩)
        · have e4 : f.ps = g.ps := by simpa using g4
          (refine goSt ?_; (repeat (refine goAl ?_; intro p hp; refine goSt ?_)))
          refine W_loopJ (fun (k : Nat) => ⟨[(2, .val pf), (3, .val p), (5, .val (.int .i64 k))], [.box pf (flC f) 27, .box p (flC g) 27]⟩) (fun k => k ≤ f.qs.length ∧ f.qs.take k = g.qs.take k) (fun k => f.qs.length - k) 0 (fun _ _ st => st_sub2 st goSubr goSubp) ?hj0 ?round
          case hj0 => simp
          case round =>
            rintro k ⟨hk, hall⟩
            (refine goSt ?_; (repeat (refine goAl ?_; intro p hp; refine goSt ?_)))
            refine w_cond rfl (fun hlt => ?_) (fun hlt => ?_)
            · have hlt' : k < f.qs.length := by simpa using hlt
              have hlt2 : k < g.qs.length := by omega
              have hq1 : f.qs[k]? = some f.qs[k] := List.getElem?_eq_getElem hlt'
              have hq2 : g.qs[k]? = some g.qs[k] := List.getElem?_eq_getElem hlt2
              (refine goSt ?_; (repeat (refine goAl ?_; intro p hp; refine goSt ?_)))
              refine W_run 10 [49, 50, 51, 52, 53, 54, 55, 56, 57, 58] [0, 1, 2, 3, 4, 5, 6, 7, 8, 9] Cut.nil rfl goFlt mixedS (by kernel_rfl) rfl ?_
              refine rpv [] [] ?_
              refine rpv [0] [] ?_
              refine rpv [] [] ?_
              refine rpv [1, 2] [] ?_
              refine rpv [3] [] ?_
              refine rpv [] [] ?_
              refine rpv [5] [] ?_
              refine rpv [] [] ?_
              refine rpv [6, 7] [] ?_
              refine rpv [8] [] ?_
              refine ⟨⟨by kernel_rfl, by kernel_rfl⟩, fun vs => ?_⟩
              refine WL_to [(2, .val pf), (3, .val p), (5, .val (.int .i64 k)), (53, .agg (quC f.qs[k])), (58, .agg (quC g.qs[k]))] [.box pf (flC f) 27, .box p (flC g) 27] (by kernel_rfl) (by kernel_rfl) ?_
              (refine goSt ?_; (repeat (refine goAl ?_; intro p hp; refine goSt ?_)))
              rw [quNe]
              refine w_cond rfl (fun hg => ?_) (fun hg => ?_)
              · have hne : f ≠ g := by intro e; subst e; simp at hg
                (refine goSt ?_; (repeat (refine goAl ?_; intro p hp; refine goSt ?_)))
                (apply res1; exact rfl; exact rfl; exact ⟨(congrArg (fun b => AV.val (Value.bool b)) (by simp [hne])), rfl⟩)
              · (refine goSt ?_; (repeat (refine goAl ?_; intro p hp; refine goSt ?_)))
                (refine ⟨k + 1, fun _ _ st => st_sub2 st ?_ ?_, ?_, ?_⟩; exact goSubr; exact goSubp)
                · exact ⟨by omega, take_succ_eq hall hlt' hlt2 (by simpa using hg)⟩
                · omega
            · have e5 : f.qs = g.qs := take_all_eq hall (by simp at hlt; omega) (by simp at hlt; omega)
              (refine goSt ?_; (repeat (refine goAl ?_; intro p hp; refine goSt ?_)))
              refine W_loopJ (fun (k : Nat) => ⟨[(2, .val pf), (3, .val p), (6, .val (.int .i64 k))], [.box pf (flC f) 27, .box p (flC g) 27]⟩) (fun k => k ≤ f.bs.length ∧ f.bs.take k = g.bs.take k) (fun k => f.bs.length - k) 0 (fun _ _ st => st_sub2 st goSubr goSubp) ?hj0 ?round
              case hj0 => simp
              case round =>
                clear hlt hall hk k
                rintro k ⟨hk, hall⟩
                (refine goSt ?_; (repeat (refine goAl ?_; intro p hp; refine goSt ?_)))
                refine w_cond rfl (fun hlt => ?_) (fun hlt => ?_)
                · have hlt' : k < f.bs.length := by simpa using hlt
                  have hlt2 : k < g.bs.length := by omega
                  have hq1 : f.bs[k]? = some f.bs[k] := List.getElem?_eq_getElem hlt'
                  have hq2 : g.bs[k]? = some g.bs[k] := List.getElem?_eq_getElem hlt2
                  have hsl1 := hS.st _ (List.getElem_mem hlt')
                  have hsl2 := hT.st _ (List.getElem_mem hlt2)
                  (refine goSt ?_; (repeat (refine goAl ?_; intro p hp; refine goSt ?_)))
                  refine W_run 13 [67, 68, 69, 70, 71, 72, 73, 74, 75, 76, 7, 8, 1000012] [0, 1, 2, 3, 4, 5, 6, 7, 8, 9, 11, 12] Cut.nil rfl goFlt mixedS (by kernel_rfl) rfl ?_
                  refine rpv [] [] ?_
                  refine rpv [0] [] ?_
                  refine rpv [] [] ?_
                  refine rpv [1, 2] [] ?_
                  refine rpv [3] [] ?_
                  refine rpv [] [] ?_
                  refine rpv [5] [] ?_
                  refine rpv [] [] ?_
                  refine rpv [6, 7] [] ?_
                  refine rpv [8] [] ?_
                  refine Run.tok [] [] rfl (fun vs => by apply ltr_pk; exact goPk; exact goLtr) goApp ?_
                  refine Run.tok [] [] rfl (fun vs => by apply ltr_pk; exact goPk; exact goLtr) goApp ?_
                  refine Run.fx [4, 10] [10] 10 (fun q => [.box q (biC f.bs[k]) 66]) rfl (fun vs => by apply ltr_pk; exact goPk; (refine ltr ?_; apply LT.fx; apply lt_store (av := .agg (biC f.bs[k])); (first | exact .inl rfl | exact .inr ⟨rfl, rfl⟩); exact rfl; exact rfl; exact (of_decide_eq_true rfl); exact rfl)) goApp ?_
                  refine ⟨⟨by kernel_rfl, by kernel_rfl⟩, fun vs => ?_⟩
                  refine WL_to [(2, .val pf), (3, .val p), (6, .val (.int .i64 k)), (7, .val (vs 10)), (8, .val (vs 11)), (76, .agg (biC g.bs[k]))] [.box (vs 11) [.val (.int .i64 0), .val (.int .i64 0), .val (.int .i64 0), .val (.slice none 0 0)] 66, .box (vs 10) (biC f.bs[k]) 66, .box pf (flC f) 27, .box p (flC g) 27] (by kernel_rfl) (by kernel_rfl) ?_
                  generalize vs 10 = q1
                  generalize vs 11 = q2
                  (refine goSt ?_; (repeat (refine goAl ?_; intro p hp; refine goSt ?_)))
                  (refine goSt ?_; (repeat (refine goAl ?_; intro p hp; refine goSt ?_)))
                  refine wl_part rfl rfl (fun i1 => ?_) (fun i1 => ?_)
                  · have hne : f ≠ g := by intro e; subst e; simp at i1
                    (refine goSt ?_; (repeat (refine goAl ?_; intro p hp; refine goSt ?_)))
                    (apply res1; exact rfl; exact rfl; exact ⟨(congrArg (fun b => AV.val (Value.bool b)) (by simp [hne])), rfl⟩)
                  · have j1 : f.bs[k].no = g.bs[k].no := by simpa using i1
                    (refine goSt ?_; (repeat (refine goAl ?_; intro p hp; refine goSt ?_)))
                    refine wl_part rfl rfl (fun i2 => ?_) (fun i2 => ?_)
                    · have hne : f ≠ g := by intro e; subst e; simp at i2
                      (refine goSt ?_; (repeat (refine goAl ?_; intro p hp; refine goSt ?_)))
                      (apply res1; exact rfl; exact rfl; exact ⟨(congrArg (fun b => AV.val (Value.bool b)) (by simp [hne])), rfl⟩)
                    · have j2 : f.bs[k].py = g.bs[k].py := by simpa using i2
                      (refine goSt ?_; (repeat (refine goAl ?_; intro p hp; refine goSt ?_)))
                      refine wl_part rfl rfl (fun i3 => ?_) (fun i3 => ?_)
                      · have hne : f ≠ g := by intro e; subst e; simp at i3
                        (refine goSt ?_; (repeat (refine goAl ?_; intro p hp; refine goSt ?_)))
                        (apply res1; exact rfl; exact rfl; exact ⟨(congrArg (fun b => AV.val (Value.bool b)) (by simp [hne])), rfl⟩)
                      · have j3 : f.bs[k].pe = g.bs[k].pe := by simpa using i3
                        (refine goSt ?_; (repeat (refine goAl ?_; intro p hp; refine goSt ?_)))
                        refine w_cond rfl (fun i4 => ?_) (fun i4 => ?_)
                        · have hne : f ≠ g := by intro e; subst e; simp at i4
                          (refine goSt ?_; (repeat (refine goAl ?_; intro p hp; refine goSt ?_)))
                          (apply res1; exact rfl; exact rfl; exact ⟨(congrArg (fun b => AV.val (Value.bool b)) (by simp [hne])), rfl⟩)
                        · have j4 : f.bs[k].st.length = g.bs[k].st.length := by simp at i4; omega
                          (refine goSt ?_; (repeat (refine goAl ?_; intro p hp; refine goSt ?_)))
                          refine W_loopJ (fun (m : Nat) => ⟨[(2, .val pf), (3, .val p), (6, .val (.int .i64 k)), (7, .val q1), (8, .val q2), (9, .val (.int .i64 m))], [.box q1 (biC f.bs[k]) 66, .box q2 (biC g.bs[k]) 66, .box pf (flC f) 27, .box p (flC g) 27]⟩) (fun m => m ≤ f.bs[k].st.length ∧ f.bs[k].st.take m = g.bs[k].st.take m) (fun m => f.bs[k].st.length - m) 0 (fun _ _ st => st_sub2 st goSubr goSubp) ?hj0 ?round
                          case hj0 => simp
                          case round =>
                            rintro m ⟨hm, hal⟩
                            (refine goSt ?_; (repeat (refine goAl ?_; intro p hp; refine goSt ?_)))
                            refine w_cond rfl (fun hlm => ?_) (fun hlm => ?_)
                            · have hlm' : m < f.bs[k].st.length := by simpa using hlm
                              have hlm2 : m < g.bs[k].st.length := by omega
                              have hp1 : f.bs[k].st[m]? = some f.bs[k].st[m] := List.getElem?_eq_getElem hlm'
                              have hp2 : g.bs[k].st[m]? = some g.bs[k].st[m] := List.getElem?_eq_getElem hlm2
                              (refine goSt ?_; (repeat (refine goAl ?_; intro p hp; refine goSt ?_)))
                              refine W_run 10 [112, 113, 114, 115, 116, 117, 118, 119, 120, 121] [0, 1, 2, 3, 4, 5, 6, 7, 8, 9] Cut.nil rfl goFlt mixedS (by kernel_rfl) rfl ?_
                              refine rpv [] [] ?_
                              refine rpv [0] [] ?_
                              refine rpv [] [] ?_
                              refine rpv [1, 2] [] ?_
                              refine rpv [3] [] ?_
                              refine rpv [] [] ?_
                              refine rpv [5] [] ?_
                              refine rpv [] [] ?_
                              refine rpv [6, 7] [] ?_
                              refine rpv [8] [] ?_
                              refine ⟨⟨by kernel_rfl, by kernel_rfl⟩, fun vs => ?_⟩
                              refine WL_to [(2, .val pf), (3, .val p), (6, .val (.int .i64 k)), (7, .val q1), (8, .val q2), (9, .val (.int .i64 m)), (116, .agg (stC f.bs[k].st[m])), (121, .agg (stC g.bs[k].st[m]))] [.box q1 (biC f.bs[k]) 66, .box q2 (biC g.bs[k]) 66, .box pf (flC f) 27, .box p (flC g) 27] (by kernel_rfl) (by kernel_rfl) ?_
                              (refine goSt ?_; (repeat (refine goAl ?_; intro p hp; refine goSt ?_)))
                              rw [stNe]
                              refine w_cond rfl (fun hg => ?_) (fun hg => ?_)
                              · have hne : f ≠ g := by intro e; subst e; simp at hg
                                (refine goSt ?_; (repeat (refine goAl ?_; intro p hp; refine goSt ?_)))
                                (apply res1; exact rfl; exact rfl; exact ⟨(congrArg (fun b => AV.val (Value.bool b)) (by simp [hne])), rfl⟩)
                              · (refine goSt ?_; (repeat (refine goAl ?_; intro p hp; refine goSt ?_)))
                                (refine ⟨m + 1, fun _ _ st => st_sub2 st ?_ ?_, ?_, ?_⟩; exact goSubr; exact goSubp)
                                · exact ⟨by omega, take_succ_eq hal hlm' hlm2 (by simpa using hg)⟩
                                · omega
                            · have e6 : f.bs[k].st = g.bs[k].st := take_all_eq hal (by simp at hlm; omega) (by simp at hlm; omega)
                              (refine goSt ?_; (repeat (refine goAl ?_; intro p hp; refine goSt ?_)))
                              (refine ⟨k + 1, fun _ _ st => st_sub2 st ?_ ?_, ?_, ?_⟩; exact goSubr; exact goSubp)
                              · refine ⟨by omega, take_succ_eq hall hlt' hlt2 ?_⟩
                                revert j1 j2 j3 e6
                                generalize f.bs[k] = x
                                generalize g.bs[k] = y
                                intro j1 j2 j3 e6
                                cases x; cases y; simp_all
                              · omega
                · have e7 : f.bs = g.bs := take_all_eq hall (by simp at hlt; omega) (by simp at hlt; omega)
                  have he : f = g := by cases f; cases g; simp_all
                  (refine goSt ?_; (repeat (refine goAl ?_; intro p hp; refine goSt ?_)))
                  (apply res1; exact rfl; exact rfl; exact ⟨(congrArg (fun b => AV.val (Value.bool b)) (by simp [he])), rfl⟩)
end Go.Proofs.YtihonljdanjfmaaDoor.Sw
namespace Go.Proofs.YtihonljdanjfmaaDoor.Sw
open Go.RowKit Go Go.Shelf Go.Proofs
set_option maxRecDepth 20000 in
set_option maxHeartbeats 2000000 in
theorem twin8_con (f : Flo) (hS : Sml f) : Con Tryd.prog 10 [.agg (flC f)] [] (Is (.agg (flC f)) []) := by
  have hidsl := hS.ids
  have hqsl := hS.qs
  have hbsl := hS.bs
  have hpsl := hS.ps
  refine con_of Tryd.func10 rfl (enters_of Tryd.func10 (by kernel_rfl) rfl) rfl ?_; intro n w0 F0 G0
  (refine goSt ?_; (repeat (refine goAl ?_; intro p hp; refine goSt ?_)))
  rename_i pf hpf
  refine W_run 14 [6, 7, 8, 9, 10, 11, 12, 13, 14, 15, 16, 17, 18, 3] [1, 2, 3, 5, 6, 7, 9, 10, 11, 12, 13] Cut.nil rfl goFlt mixedS (by kernel_rfl) rfl ?_
  refine Run.tok [] [] rfl (fun vs => by apply ltr_pk; exact goPk; (refine ltr ?_; apply lt_lit (f := iC); (repeat (first | exact Elems.nil | (apply Elems.cons; exact rfl; exact inferInstance; exact rfl))); exact rfl; (first | exact (of_decide_eq_true rfl) | decide | (simp; done) | (simp; omega)))) goApp ?_
  refine rpv [] [] ?_
  refine rpv [1] [] ?_
  refine Run.pv [0, 2] [0] rfl (fun vs => by apply ltr_pk; exact goPk; (refine ltr ?_; apply LT_frz; apply lt_append; exact rfl; exact rfl; (first | omega | (simp; omega)))) goApp ?_
  refine Run.tok [] [] rfl (fun vs => by apply ltr_pk; exact goPk; (refine ltr ?_; apply lt_lit (f := quC); (repeat (first | exact Elems.nil | (apply Elems.cons; exact rfl; exact inferInstance; exact rfl))); exact rfl; (first | exact (of_decide_eq_true rfl) | decide | (simp; done) | (simp; omega)))) goApp ?_
  refine rpv [] [] ?_
  refine rpv [5] [] ?_
  refine Run.pv [4, 6] [4] rfl (fun vs => by apply ltr_pk; exact goPk; (refine ltr ?_; apply LT_frz; apply lt_append; exact rfl; exact rfl; (first | omega | (simp; omega)))) goApp ?_
  refine Run.tok [] [] rfl (fun vs => by apply ltr_pk; exact goPk; (refine ltr ?_; apply lt_lit (f := payC); (repeat (first | exact Elems.nil | (apply Elems.cons; exact rfl; exact inferInstance; exact rfl))); exact rfl; (first | exact (of_decide_eq_true rfl) | decide | (simp; done) | (simp; omega)))) goApp ?_
  refine rpv [] [] ?_
  refine rpv [9] [] ?_
  refine Run.pv [8, 10] [8] rfl (fun vs => by apply ltr_pk; exact goPk; (refine ltr ?_; apply LT_frz; apply lt_append; exact rfl; exact rfl; (first | omega | (simp; omega)))) goApp ?_
  refine Run.pv [3, 7, 11] [] rfl (fun vs => by apply ltr_pk; exact goPk; (refine ltr ?_; apply lt_build; apply Parts.cons (av := .sl 1 iC ([] ++ f.ids)); exact rfl; exact rfl; exact inferInstance; exact rfl; exact (of_decide_eq_true rfl); apply Parts.cons (av := .sl 2 quC ([] ++ f.qs)); exact rfl; exact rfl; exact inferInstance; exact rfl; exact (of_decide_eq_true rfl); apply Parts.cons (av := .sl 3 payC ([] ++ f.ps)); exact rfl; exact rfl; exact inferInstance; exact rfl; exact (of_decide_eq_true rfl); exact Parts.nil)) goApp ?_
  refine Run.tok [] [] rfl (fun vs => by apply ltr_pk; exact goPk; exact goLtr) goApp ?_
  refine ⟨⟨by kernel_rfl, by kernel_rfl⟩, fun vs => ?_⟩
  refine WL_to [(1, .val pf), (2, .val p), (18, .agg [.sl 1 iC ([] ++ f.ids), .sl 2 quC ([] ++ f.qs), .val (.slice none 0 0), .sl 3 payC ([] ++ f.ps)]), (3, .val (vs 13))] [.box (vs 13) [.val (.slice none 0 0), .val (.slice none 0 0), .val (.slice none 0 0), .val (.slice none 0 0)] 27, .box p [.val (.slice none 0 0), .val (.slice none 0 0), .val (.slice none 0 0), .val (.slice none 0 0)] 27, .box pf (flC f) 27] (by kernel_rfl) (by kernel_rfl) ?_
  generalize vs 13 = q
  (refine goSt ?_; (repeat (refine goAl ?_; intro p hp; refine goSt ?_)))
  (refine goSt ?_; (repeat (refine goAl ?_; intro p hp; refine goSt ?_)))
  refine W_loopJ (fun (b : Nat × Value) => ⟨[(1, .val pf), (2, .val p), (3, .val q), (20, .sl 4 biC f.bs), (21, .val (.int .i64 f.bs.length)), (22, .val (.int .i64 b.1))], [.row b.2 66 4 biC (f.bs.take b.1), .box q [.sl 1 iC f.ids, .sl 2 quC f.qs, .val b.2, .sl 3 payC f.ps] 27, .box p [.val (.slice none 0 0), .val (.slice none 0 0), .val (.slice none 0 0), .val (.slice none 0 0)] 27]⟩) (fun b => b.1 ≤ f.bs.length) (fun b => f.bs.length - b.1) (0, .slice none 0 0) (fun _ _ st => st_sub2 (st_nil 66 4 biC st) (by exact goSubr) (by exact goSubp)) (Nat.zero_le _) ?_
  rintro ⟨k, v⟩ hk
  dsimp only at hk ⊢
  (refine goSt ?_; (repeat (refine goAl ?_; intro p hp; refine goSt ?_)))
  refine w_cond rfl (fun hlt => ?_) (fun hlt => ?_)
  · have hlt' : k < f.bs.length := by simpa using hlt
    have hm := hS.st _ (List.getElem_mem hlt')
    have htk : f.bs.take (k + 1) = f.bs.take k ++ [f.bs[k]] := List.take_succ_eq_append_getElem hlt'
    (refine goSt ?_; (repeat (refine goAl ?_; intro p hp; refine goSt ?_)))
    (apply wl_lit stC; exact inferInstance; exact inferInstance; exact inferInstance; (repeat (first | exact Elems.nil | (apply Elems.cons; exact rfl; exact inferInstance; exact rfl))); exact rfl; (first | exact (of_decide_eq_true rfl) | decide | (simp; done) | (simp; omega)); exact rfl)
    intro v1
    (refine goSt ?_; (repeat (refine goAl ?_; intro p hp; refine goSt ?_)))
    (first | (apply wl_append; exact rfl; exact rfl; exact goRm; exact inferInstance; exact inferInstance; (first | omega | (simp; omega)); exact rfl) | (apply wl_appendN; exact rfl; exact rfl; exact inferInstance; exact inferInstance; (first | omega | (simp; omega)); exact rfl))
    intro v2
    (apply WL_frz 29; exact rfl; exact goRm)
    (refine goSt ?_; (repeat (refine goAl ?_; intro p hp; refine goSt ?_)))
    refine WL_as 33 (.agg (biC f.bs[k])) rfl ?_
    (apply wl_litF biC; exact inferInstance; exact inferInstance; exact inferInstance; (repeat (first | exact Elems.nil | (apply Elems.cons; exact rfl; exact inferInstance; exact rfl))); exact rfl; (first | exact (of_decide_eq_true rfl) | decide | (simp; done) | (simp; omega)); exact rfl)
    (first | (apply wl_append; exact rfl; exact rfl; exact goRm; exact inferInstance; exact inferInstance; (first | omega | (simp; omega)); exact rfl) | (apply wl_appendN; exact rfl; exact rfl; exact inferInstance; exact inferInstance; (first | omega | (simp; omega)); exact rfl))
    intro v'
    rw [← htk]
    refine WL_one At.here (fun hone => ?_)
    (refine goSt ?_; (repeat (refine goAl ?_; intro p hp; refine goSt ?_)))
    (refine ⟨(k + 1, v'), fun _ _ st => st_sub2 st ?_ ?_, ?_, ?_⟩; exact goSubr; exact goSubp)
    · dsimp only; omega
    · dsimp only; omega
  · have hkk : k = f.bs.length := by simp at hlt; omega
    subst hkk
    rw [List.take_length]
    (refine goSt ?_; (repeat (refine goAl ?_; intro p hp; refine goSt ?_)))
    (apply WL_frzA 38 2; exact rfl; exact rfl; exact goRm)
    refine WL_as 38 (.agg (flC f)) rfl ?_
    (refine goSt ?_; (repeat (refine goAl ?_; intro p hp; refine goSt ?_)))
    (apply resN; exact rfl; exact rfl; exact goAtm; exact inferInstance; exact rfl; exact ⟨rfl, rfl⟩)
end Go.Proofs.YtihonljdanjfmaaDoor.Sw
namespace Go.Proofs.YtihonljdanjfmaaDoor.Sw
open Go.RowKit Go Go.Shelf Go.Proofs
theorem sml_small {f : Flo} (h : greatF f = false) : Sml f := by
  obtain ⟨h1, h2, h3, h4, h5⟩ := sml_of h
  exact ⟨by omega, by omega, by omega, by omega, fun b hb => by have := h5 b hb; omega⟩
end Go.Proofs.YtihonljdanjfmaaDoor.Sw
namespace Go.Proofs.YtihonljdanjfmaaDoor.Sw
open Go.RowKit Go Go.Shelf Go.Proofs
open Go.Proofs.YtihonljdanjfmaaDoor.Gr (treeR pick Zr lf)
theorem cl_same {L M : List (Nat × Nat)} (h : ∀ p, p ∈ M → p ∈ L) {P : Nat → Bool} (k : Gr.Cl L P) : Gr.Cl M P := fun p hp => k p (h p hp)
theorem zr_same {n : Nat} {L M : List (Nat × Nat)} {x : Nat → Int} (h : ∀ p, p ∈ L ↔ p ∈ M) : Zr n L x ↔ Zr n M x :=
  ⟨fun k P hP => k P (cl_same (fun p hp => (h p).1 hp) hP), fun k P hP => k P (cl_same (fun p hp => (h p).2 hp) hP)⟩
theorem pr_same (sp : Nat → Nat → Bool) (n : Nat) (p : Nat × Nat) : p ∈ prP sp n ↔ p ∈ prR sp n n := by
  rw [prP_mem, prR_mem (Nat.le_refl _)]
  constructor
  · rintro ⟨h1, h2, h3⟩; exact ⟨by omega, h1, h2, h3⟩
  · rintro ⟨_, h1, h2, h3⟩; exact ⟨h1, h2, h3⟩
theorem fewTo_nil {α : Type} {g : Nat → List α} : ∀ {m : Nat}, fewTo g m = [] ↔ ∀ k, k < m → g k = []
  | 0 => by simp [fewTo]
  | m + 1 => by
    have ih := fewTo_nil (g := g) (m := m)
    rw [fewTo]
    cases h : fewTo g m with
    | nil =>
      rw [if_pos (by rfl)]
      constructor
      · intro e k hk
        by_cases hkm : k = m
        · rw [hkm]; exact e
        · exact ih.1 h k (by omega)
      · intro h2; exact h2 m (by omega)
    | cons x t =>
      rw [if_neg (by simp)]
      constructor
      · intro e; cases e
      · intro h2
        have := ih.2 fun k hk => h2 k (by omega)
        rw [h] at this; exact this
theorem allR_ne {f : Flo} {k : Nat} : allR f k ≠ [] ↔ ∃ s, s < 2 ^ (prR (spk f) f.ids.length f.ids.length).length ∧ (pick (prR (spk f) f.ids.length f.ids.length) s).length = k ∧ ∃ out, treeR f.ids (pick (prR (spk f) f.ids.length f.ids.length) s) (owed8 f) = some out := by
  unfold allR allTo
  constructor
  · intro h
    obtain ⟨out, ho⟩ := List.exists_mem_of_ne_nil _ h
    obtain ⟨s, hs, hx⟩ := List.mem_filterMap.1 ho
    split at hx
    · rename_i hk; exact ⟨s, List.mem_range.1 hs, hk, out, hx⟩
    · cases hx
  · rintro ⟨s, hs, hk, out, hx⟩ he
    have : out ∈ ([] : List (List Pay)) := by
      rw [← he]
      exact List.mem_filterMap.2 ⟨s, List.mem_range.2 hs, by rw [if_pos hk]; exact hx⟩
    cases this
theorem canB_iff {f : Flo} (hF : FloF f) : canB f (owed8 f) = true ↔ fewTo (allR f) 6 ≠ [] := by
  unfold canB
  rw [evB_iff (fun p hp => by have := prP_mem.1 hp; omega), zr_same (pr_same (spk f) f.ids.length), ← Gr.can_iff (prR_ok _ _) hF.ids (owed8_len f)]
  constructor
  · rintro ⟨s, h1, h2, h3⟩ hn
    exact allR_ne.2 ⟨s, h1, rfl, h3⟩ (fewTo_nil.1 hn _ h2)
  · intro h
    obtain ⟨k, hk⟩ := Classical.not_forall.1 fun ha => h (fewTo_nil.2 ha)
    obtain ⟨hk6, hne⟩ : k < 6 ∧ allR f k ≠ [] := by
      by_cases h6 : k < 6
      · exact ⟨h6, fun e => hk fun _ => e⟩
      · exact absurd (fun h => absurd h h6) hk
    obtain ⟨s, h1, h2, h3⟩ := allR_ne.1 hne
    exact ⟨s, h1, by omega, h3⟩
theorem can_eq (f : Flo) : can8R f = canR f := by
  unfold can8R canR askR
  by_cases hok : floOk f = true
  · have h := canB_iff (flo_f hok)
    rw [if_pos hok, if_pos hok]
    cases hf : fewTo (allR f) 6 with
    | nil =>
      have : canB f (owed8 f) = false := by rw [← Bool.not_eq_true, h, hf]; simp
      rw [this]; rfl
    | cons x t =>
      have : canB f (owed8 f) = true := by rw [h, hf]; simp
      rw [this]; rfl
  · rw [if_neg hok, if_neg hok]; rfl
theorem shaR_len {f : Flo} (hS : Sml f) (m : Int) : (shaR f m).1.length ≤ 1000 := by
  have := hS.ids
  unfold shaR
  split
  · split
    · rw [shares_len]; exact this
    · exact Nat.zero_le _
  · exact Nat.zero_le _
theorem netR_len {f : Flo} (hS : Sml f) : (netR f).1.length ≤ 1000 := by
  have := hS.ids
  unfold netR
  split
  · rw [owed8_len]; exact this
  · exact Nat.zero_le _
set_option maxRecDepth 20000 in
theorem check8_con (f : Flo) (hS : Sml f) : Con Tryd.prog 23 [.agg (flC f)] [] (Is (.val (.int .i64 (errF f))) []) := by
  have C := floors_con f hS
  unfold errF
  generalize floOk f = b at C ⊢
  refine con_of Tryd.func23 rfl (enters_of Tryd.func23 (by kernel_rfl) rfl) rfl ?_; intro n w0 F0 G0
  (refine goSt ?_; (repeat (refine goAl ?_; intro p hp; refine goSt ?_)))
  (first | (apply wl_call (C); exact rfl; exact rfl) | (apply wl_callR (C); exact rfl; exact goAtm; exact rfl))
  (refine goSt ?_; (repeat (refine goAl ?_; intro p hp; refine goSt ?_)))
  cases b with
  | true =>
    (refine goSt ?_; (repeat (refine goAl ?_; intro p hp; refine goSt ?_)))
    (apply res1; exact rfl; exact rfl; exact ⟨rfl, rfl⟩)
  | false =>
    (refine goSt ?_; (repeat (refine goAl ?_; intro p hp; refine goSt ?_)))
    (apply res1; exact rfl; exact rfl; exact ⟨rfl, rfl⟩)
set_option maxRecDepth 40000 in
set_option maxHeartbeats 4000000 in
theorem floorTells_con (f : Flo) (m : Int) : Con Tryd.prog 4 [.agg (flC f), .val (.int .i64 m)] [tab8] (Is (.val (.bool true)) []) := by
  refine con_of Tryd.func4 rfl (enters_of Tryd.func4 (by kernel_rfl) rfl) rfl ?_; intro n w0 F0 G0
  (refine goSt ?_; (repeat (refine goAl ?_; intro p hp; refine goSt ?_)))
  (first | (apply wl_call (great8_con f); exact rfl; exact rfl) | (apply wl_callR (great8_con f); exact rfl; exact goAtm; exact rfl))
  (refine goSt ?_; (repeat (refine goAl ?_; intro p hp; refine goSt ?_)))
  refine w_cond rfl (fun hg => ?_) (fun hg => ?_)
  · (refine goSt ?_; (repeat (refine goAl ?_; intro p hp; refine goSt ?_)))
    (apply res1; exact rfl; exact rfl; exact ⟨rfl, rfl⟩)
  · have hS := sml_small hg
    have hrl := shaR_len hS m
    have hnl := netR_len hS
    have CC := Can8_con f hS
    rw [can_eq] at CC
    have C1 := Shares_con f m hS
    have C2 := Shares8_con f m hS
    have C3 := Net_con f hS
    have C4 := Net8_con f hS
    have C5 := Can_con f hS
    generalize shaR f m = sh at *
    generalize netR f = nt at *
    generalize canR f = cn at *
    (refine goSt ?_; (repeat (refine goAl ?_; intro p hp; refine goSt ?_)))
    (first | (apply wl_call (twin8_con f hS); exact rfl; exact rfl) | (apply wl_callR (twin8_con f hS); exact rfl; exact goAtm; exact rfl))
    (refine goSt ?_; (repeat (refine goAl ?_; intro p hp; refine goSt ?_)))
    (first | (apply wl_call (C1); exact rfl; exact rfl) | (apply wl_callR (C1); exact rfl; exact goAtm; exact rfl))
    (refine goSt ?_; (repeat (refine goAl ?_; intro p hp; refine goSt ?_)))
    (first | (apply wl_call (C2); exact rfl; exact rfl) | (apply wl_callR (C2); exact rfl; exact goAtm; exact rfl))
    (refine goSt ?_; (repeat (refine goAl ?_; intro p hp; refine goSt ?_)))
    (first | (apply wl_call (C3); exact rfl; exact rfl) | (apply wl_callR (C3); exact rfl; exact goAtm; exact rfl))
    (refine goSt ?_; (repeat (refine goAl ?_; intro p hp; refine goSt ?_)))
    (first | (apply wl_call (C4); exact rfl; exact rfl) | (apply wl_callR (C4); exact rfl; exact goAtm; exact rfl))
    (refine goSt ?_; (repeat (refine goAl ?_; intro p hp; refine goSt ?_)))
    (first | (apply wl_call (C5); exact rfl; exact rfl) | (apply wl_callR (C5); exact rfl; exact goAtm; exact rfl))
    (refine goSt ?_; (repeat (refine goAl ?_; intro p hp; refine goSt ?_)))
    (first | (apply wl_call (CC); exact rfl; exact rfl) | (apply wl_callR (CC); exact rfl; exact goAtm; exact rfl))
    (refine goSt ?_; (repeat (refine goAl ?_; intro p hp; refine goSt ?_)))
    refine W_run 40 [54, 55, 56, 57, 58, 59, 60, 61, 62, 63, 64, 65, 66, 67, 68, 69, 70, 71, 72, 73, 74, 75, 76, 77, 78, 79, 80, 81, 82, 83, 84, 85, 86, 87, 88, 89, 90, 91, 92, 93] [0, 1, 2, 3, 4, 5, 6, 7, 8, 9, 10, 11, 12, 13, 14, 15, 16, 17, 18, 19, 20, 21, 22, 23, 24, 25, 26, 27, 28, 29, 30, 31, 32, 33, 34, 35, 36, 37, 38, 39] Cut.nil rfl goFlt mixedS (by kernel_rfl) rfl ?_
    refine rpv [] [] ?_
    refine Run.pv [0] [] rfl (fun vs => by apply ltr_pk; exact goPk; (apply ltr_callR ((check_con f hS)); exact rfl; exact goAtm)) goApp ?_
    refine rpv [] [] ?_
    refine Run.pv [2] [] rfl (fun vs => by apply ltr_pk; exact goPk; (refine ltr ?_; refine lt_call ?_ ((check8_con f hS)); exact rfl)) goApp ?_
    refine Run.pv [1, 3] [] rfl (fun vs => by apply ltr_pk; exact goPk; (refine ltr ?_; apply LT_bool true; apply lt_eql; exact rfl; exact rfl; simp)) goApp ?_
    refine rpv [4] [] ?_
    refine Run.yes [5] [] rfl rfl (fun vs => by apply look_pk; exact goPk; exact rfl) (fun vs => by apply ltr_pk; exact goPk; exact goLtr) goApp ?_
    refine Run.yes [5] [] rfl rfl (fun vs => by apply look_pk; exact goPk; exact rfl) (fun vs => by apply ltr_pk; exact goPk; exact goLtr) goApp ?_
    refine Run.yes [5, 6, 7] [] rfl rfl (fun vs => by apply look_pk; exact goPk; exact rfl) (fun vs => by apply ltr_pk; exact goPk; (refine ltr ?_; apply LT_bool true; refine lt_call ?_ (sameInts8_con sh.1 sh.1 (by omega) (by omega)); exact rfl; simp)) goApp ?_
    refine rpv [5, 8] [] ?_
    refine rpv [9] [] ?_
    refine Run.yes [10] [] rfl rfl (fun vs => by apply look_pk; exact goPk; exact rfl) (fun vs => by apply ltr_pk; exact goPk; exact goLtr) goApp ?_
    refine Run.yes [10] [] rfl rfl (fun vs => by apply look_pk; exact goPk; exact rfl) (fun vs => by apply ltr_pk; exact goPk; exact goLtr) goApp ?_
    refine Run.yes [10, 11, 12] [] rfl rfl (fun vs => by apply look_pk; exact goPk; exact rfl) (fun vs => by apply ltr_pk; exact goPk; (refine ltr ?_; apply LT_bool true; apply lt_eql; exact rfl; exact rfl; simp)) goApp ?_
    refine rpv [10, 13] [] ?_
    refine rpv [14] [] ?_
    refine Run.yes [15] [] rfl rfl (fun vs => by apply look_pk; exact goPk; exact rfl) (fun vs => by apply ltr_pk; exact goPk; exact goLtr) goApp ?_
    refine Run.yes [15] [] rfl rfl (fun vs => by apply look_pk; exact goPk; exact rfl) (fun vs => by apply ltr_pk; exact goPk; exact goLtr) goApp ?_
    refine Run.yes [15, 16, 17] [] rfl rfl (fun vs => by apply look_pk; exact goPk; exact rfl) (fun vs => by apply ltr_pk; exact goPk; (refine ltr ?_; apply LT_bool true; refine lt_call ?_ (sameInts8_con nt.1 nt.1 (by omega) (by omega)); exact rfl; simp)) goApp ?_
    refine rpv [15, 18] [] ?_
    refine rpv [19] [] ?_
    refine Run.yes [20] [] rfl rfl (fun vs => by apply look_pk; exact goPk; exact rfl) (fun vs => by apply ltr_pk; exact goPk; exact goLtr) goApp ?_
    refine Run.yes [20] [] rfl rfl (fun vs => by apply look_pk; exact goPk; exact rfl) (fun vs => by apply ltr_pk; exact goPk; exact goLtr) goApp ?_
    refine Run.yes [20, 21, 22] [] rfl rfl (fun vs => by apply look_pk; exact goPk; exact rfl) (fun vs => by apply ltr_pk; exact goPk; (refine ltr ?_; apply LT_bool true; apply lt_eql; exact rfl; exact rfl; simp)) goApp ?_
    refine rpv [20, 23] [] ?_
    refine rpv [24] [] ?_
    refine Run.yes [25] [] rfl rfl (fun vs => by apply look_pk; exact goPk; exact rfl) (fun vs => by apply ltr_pk; exact goPk; exact goLtr) goApp ?_
    refine Run.yes [25] [] rfl rfl (fun vs => by apply look_pk; exact goPk; exact rfl) (fun vs => by apply ltr_pk; exact goPk; exact goLtr) goApp ?_
    refine Run.yes [25, 26, 27] [] rfl rfl (fun vs => by apply look_pk; exact goPk; exact rfl) (fun vs => by apply ltr_pk; exact goPk; (refine ltr ?_; apply LT_bool true; apply lt_eqlB; exact Tryd.underlying4; exact rfl; exact rfl; simp)) goApp ?_
    refine rpv [25, 28] [] ?_
    refine rpv [29] [] ?_
    refine Run.yes [30] [] rfl rfl (fun vs => by apply look_pk; exact goPk; exact rfl) (fun vs => by apply ltr_pk; exact goPk; exact goLtr) goApp ?_
    refine Run.yes [30] [] rfl rfl (fun vs => by apply look_pk; exact goPk; exact rfl) (fun vs => by apply ltr_pk; exact goPk; exact goLtr) goApp ?_
    refine Run.yes [30, 31, 32] [] rfl rfl (fun vs => by apply look_pk; exact goPk; exact rfl) (fun vs => by apply ltr_pk; exact goPk; (refine ltr ?_; apply LT_bool true; apply lt_eql; exact rfl; exact rfl; simp)) goApp ?_
    refine rpv [30, 33] [] ?_
    refine rpv [34] [] ?_
    refine Run.yes [35] [] rfl rfl (fun vs => by apply look_pk; exact goPk; exact rfl) (fun vs => by apply ltr_pk; exact goPk; exact goLtr) goApp ?_
    refine Run.yes [35] [] rfl rfl (fun vs => by apply look_pk; exact goPk; exact rfl) (fun vs => by apply ltr_pk; exact goPk; exact goLtr) goApp ?_
    refine Run.yes [35, 36, 37] [] rfl rfl (fun vs => by apply look_pk; exact goPk; exact rfl) (fun vs => by apply ltr_pk; exact goPk; (refine ltr ?_; apply LT_bool true; refine lt_call ?_ (same8_con f f hS hS); exact rfl; simp)) goApp ?_
    refine rpv [35, 38] [] ?_
    refine ⟨⟨by kernel_rfl, by kernel_rfl⟩, fun vs => ?_⟩
    apply WL_auto [39]
    · exact goPk
    · exact goNrm
    · kernel_rfl
    · kernel_rfl
    (refine goSt ?_; (repeat (refine goAl ?_; intro p hp; refine goSt ?_)))
    (apply res1; exact rfl; exact rfl; exact ⟨rfl, rfl⟩)
end Go.Proofs.YtihonljdanjfmaaDoor.Sw
namespace Go.Proofs.YtihonljdanjfmaaDoor
open Go.Proofs.YtihonljdanjfmaaDoor.Sw Go Go.ChangeShapes Go.WideShapes Go.ChangeAt Go.RowKit
set_option maxRecDepth 100000 in
theorem floorTells_lifted (os : Os) (started : os.Started) (H : Type) (enc : TypeId × Value → H) :
    ReturnsInHanded {} Tryd.checked os 4 .any (fun w args => (Rows.floorTellsSpec.pre enc Tryd.prog Tryd.f4 [] false w args ∧ laidMetH Tryd.prog laidL w) ∧ sizedMet enc Tryd.prog Tryd.f4 (OpenSpec.ofChange Rows.floorTellsSpec) false w args)
      (Rows.floorTellsSpec.post enc Tryd.prog Tryd.f4 false true false false) := by
  refine returnsInHanded_of_change_and (C := Tryd.checked) (X := fun w _ => laidMetH Tryd.prog laidL w) (fun _ _ _ hh h => h.of_heap hh) own started (by kernel_rfl) Tryd.func4
    (ChangeSpec.witness_shaped (enc := enc) (C := Tryd.checked) (os := os) (X := fun w _ => laidMetH Tryd.prog laidL w) false (World.doorLaid Tryd.prog 400 os) #[.agg #[.slice none 0 0, .slice none 0 0, .slice none 0 0, .slice none 0 0], .int .i64 0] 8 rfl (World.shaped_of_RefB (by kernel_rfl) (by kernel_rfl)) (by kernel_rfl) (by kernel_rfl) (by kernel_rfl) (door_met os _)) ?_
  intro W base args ds gs before hval0 hW _ _ hL _
  have hval : ∀ (j : Nat) t v, Tryd.f4.params[j]? = some t → args[j]? = some v → Value.okWide Tryd.prog W .any base t v := hval0
  have hW' := hW
  obtain ⟨p, q, hA0, hV, rfl, hfz, hnd⟩ := hW
  have hA : DataW.TrodAll enc Tryd.prog W 0 (fun _ => true) true Tryd.f4.params.toList args.toList ds p := hA0
  rw [Tryd.params4] at hA hval
  obtain ⟨v0, vs0, d0, ds0, p0, q0, hargs, rfl, rfl, h0, r0⟩ := trodAll_cons hA
  obtain ⟨v1, vs1, d1, ds1, p1, q1, rfl, rfl, rfl, h1, r1⟩ := trodAll_cons r0
  obtain ⟨rfl, rfl, rfl⟩ := trodAll_nil r1
  obtain rfl : args = #[v0, v1] := by cases args; simp_all
  obtain ⟨rfl, rfl⟩ := trodVars_none hV
  have k0 := h0
  have lt0 : ∀ x ∈ p0, x.block < W.heap.size := by obtain ⟨m, hm⟩ := k0; exact DataW.trod_lt m _ _ _ hm
  have k1 := h1
  have lt1 : ∀ x ∈ p1, x.block < W.heap.size := by obtain ⟨m, hm⟩ := k1; exact DataW.trod_lt m _ _ _ hm
  obtain ⟨x0, f0⟩ := arg_agg reads_f Tryd.underlying27 (hval 0 27 v0 rfl rfl) h0
  obtain ⟨x1, f1, wk1⟩ := arg_int Tryd.underlying3 (hval 1 3 v1 rfl rfl) h1
  clear hA0 hval0
  have walk : Calls Tryd.prog 4 #[v0, v1] W fun e w' => e = .returned (.bool true) ∧ Below W.heap.size W w' := by
    exact law_of (vs := [v0, v1]) (floorTells_con x0 x1) (tab_of8 (List.mem_cons_self ..) hL) ⟨f0, f1, trivial⟩
  refine walk.mono fun e W' ⟨he, bel⟩ => ?_
  subst he
  exact ⟨_, rfl, _, _, _, [], _, [], hW', trodAll_mk1 (shut_bool Tryd.underlying4 _), (trodAll_cons_mk (Below.trod laidOut (by kernel_rfl) (of_decide_eq_true (by kernel_rfl)) k0 bel lt0) (trodAll_cons_mk (Below.trod laidOut (by kernel_rfl) (of_decide_eq_true (by kernel_rfl)) k1 bel lt1) trodAll_mk0)), rfl, bel.frame _, fun h => by cases h⟩
theorem floorTells_holds : Rows.FloorTellsSaid :=
  OpenClaim.holds_of_wide 4 Tryd.f4 rfl rfl rfl rfl rfl rfl rfl ⟨rfl, rfl, rfl, rfl, rfl⟩ rfl rfl rfl rfl rfl (by kernel_rfl) Tryd.func4 (by kernel_rfl)
    (of_decide_eq_true (by kernel_rfl)) (by unfold Func.isWrapper; first | (rw [if_pos (by decide +kernel)]; kernel_rfl) | (rw [if_neg (by decide +kernel)]; exact ⟨rfl, rfl⟩))
    (fun os started H enc _ => floorTells_lifted os started H enc)
theorem floorTells_plain (f : FuncId) (fn : Func) (hf : Tryd.pinned.checked.prog.funcNamed "aguador/aguadorlaw08.FloorTells" = some f) (hfn : Tryd.pinned.checked.prog.funcs[f]? = some fn) :
    false = Tryd.pinned.checked.prog.looks [] ∧ ∀ (j : Nat) t, fn.params[j]? = some t → Tryd.pinned.checked.prog.wantsStandIn t = false := by
  obtain rfl : f = 4 := Option.some.inj ((show Tryd.prog.funcNamed "aguador/aguadorlaw08.FloorTells" = some 4 by kernel_rfl).symm.trans hf) |>.symm
  obtain rfl : fn = Tryd.f4 := (Option.some.inj (Tryd.func4.symm.trans hfn)).symm
  refine ⟨by kernel_rfl, fun j t ht => ?_⟩
  rw [Tryd.params4] at ht
  have hm : t ∈ [27, 3] := by simpa using Array.mem_of_getElem? ht
  have hall : ([27, 3].all fun u => !Tryd.prog.wantsStandIn u) = true := by kernel_rfl
  exact (show Tryd.prog.wantsStandIn t = false by simpa using List.all_eq_true.1 hall t hm)
/-- The card. -/
theorem floorTells_card : Rows.FloorTellsCardSaid :=
  Claim7.holds_tied_plain_at .later [] _ _ _ _ floorTells_holds (fun _ h => by cases h) (by kernel_rfl) (fun _ h => by cases h) floorTells_row_tie rfl ⟨rfl, rfl⟩ (by kernel_rfl) rfl floorTells_plain (by kernel_rfl)
#print axioms floorTells_card
end Go.Proofs.YtihonljdanjfmaaDoor
