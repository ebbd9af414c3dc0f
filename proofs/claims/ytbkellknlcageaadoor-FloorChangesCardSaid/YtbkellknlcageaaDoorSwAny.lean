/- A region that draws its order, over what is known of a frame: each operation once, whatever order comes up. -/
import Derived.Test.YtbkellknlcageaaDoorSwOps
import Derived.Test.YtbkellknlcageaaDoorFst
namespace Go.Proofs.YtbkellknlcageaaDoor.Sw
open Go.RowKit Go

theorem hsP.permL {G : Nat → Option Obj} {w : World} {hs ks : List HA} (p : hs.Perm ks) : ∀ {F : List Nat}, hsP hs G F w → hsP ks G F w := by
  induction p with
  | nil => exact fun h => h
  | cons x p ih => exact fun ⟨F1, F2, e, h1, h2⟩ => ⟨F1, F2, e, h1, ih h2⟩
  | swap x y l =>
    rintro F ⟨F1, F2, e, h1, F3, F4, e2, h3, h4⟩
    exact ⟨F3, F1 ++ F4, e.trans ((e2.append_left F1).trans (by rw [← List.append_assoc, ← List.append_assoc]; exact List.perm_append_comm.append_right F4)), h3, F1, F4, .refl _, h1, h4⟩
  | trans p q ih1 ih2 => exact fun h => ih2 (ih1 h)

/-- What an operation leaves: a value known by what it reads as, or a value by name, with what is owned by it. -/
inductive Out where
  | pv (av : AV)
  | tok (prod : Value → List HA)
  | fx (j : Nat) (h : Value → List HA)
/-- Whatever it is. -/
def AV.any : AV := ⟨fun _ _ => True, fun _ h => h⟩
def Out.post : Out → (Nat → Value) → AV → List HA → Prop
  | .pv av, _ => Is av []
  | .tok prod, _ => fun x y => ∃ u, x = .val u ∧ y = prod u
  | .fx j h, vs => fun _ y => y = h (vs j)
def Out.reg : Out → Value → AV
  | .pv av, _ => av
  | .tok _, v => .val v
  | .fx _ _, _ => .any
def Out.prod : Out → (Nat → Value) → Nat → List HA
  | .pv _, _, _ => []
  | .tok prod, vs, t => prod (vs t)
  | .fx j h, vs, _ => h (vs j)
structure Sp where
  deps : List Nat
  cons : List Nat
  out : Out
  rd : List Nat
instance : Inhabited Sp := ⟨⟨[], [], .tok fun _ => [], []⟩⟩

def dstN (ops : Array Oper) (j : Nat) : Nat := ((ops[j]?).bind (·.dst)).getD (1000000 + j)
/-- Registers but these. -/
def rmR (ds : List Nat) : List (Nat × AV) → List (Nat × AV)
  | [] => []
  | (j, av) :: t => bif ds.elem j then rmR ds t else (j, av) :: rmR ds t
theorem rmR_look {ds : List Nat} : ∀ {rs : List (Nat × AV)} {i : Nat} {av : AV}, look (rmR ds rs) i = some av → look rs i = some av ∧ i ∉ ds
  | [], _, _, e => by simp [rmR, look] at e
  | (j, x) :: t, i, av, e => by
    unfold rmR at e
    cases hc : ds.elem j with
    | true =>
      rw [hc] at e
      obtain ⟨h1, h2⟩ := rmR_look (rs := t) (by simpa using e)
      refine ⟨?_, h2⟩
      have hne : Nat.beq j i = false := by
        cases hb : Nat.beq j i with
        | false => rfl
        | true => obtain rfl := Nat.eq_of_beq_eq_true hb; exact absurd (by simpa using hc) h2
      simp only [look, hne, cond_false]; exact h1
    | false =>
      rw [hc] at e
      simp only [cond_false, look] at e ⊢
      cases hb : Nat.beq j i with
      | true =>
        rw [hb] at e
        obtain rfl := Nat.eq_of_beq_eq_true hb
        simp only [cond_true] at e ⊢
        exact ⟨e, by simpa using hc⟩
      | false =>
        rw [hb] at e
        obtain ⟨h1, h2⟩ := rmR_look (rs := t) (by simpa using e)
        exact ⟨by simpa using h1, h2⟩

section
variable (ops : Array Oper) (m : Nat) (sp : List Sp) (hs0 : List HA)
/-- What lies at a token: an operation's, or one of what was owned before (from 1000 on). -/
def cont (vs : Nat → Value) (t : Nat) : List HA := bif Nat.ble 1000 t then (hs0[t - 1000]?).toList else (sp[t]?.getD default).out.prod vs t
def regsI (vs : Nat → Value) (l : List Nat) (rsB : List (Nat × AV)) : List (Nat × AV) :=
  match l with
  | [] => rsB
  | j :: l => (dstN ops j, (sp[j]?.getD default).out.reg (vs j)) :: regsI vs l rsB
/-- The form is as it must be. -/
def anyOK (r : Nat) : Bool :=
  decide (sp.length = m) && decide (m ≤ ops.size) && decide (m ≤ 1000) &&
  ((List.range m).all fun i =>
    (match ops[i]? with | some o => (match (sp[i]?.getD default).out with | .fx j _ => decide (j < m) && ancP ops 8 i j | _ => o.dst.isSome) && o.after.toList.all (fun e => !Region.binds .any e || decide (e.on < i)) | none => false) &&
    ((sp[i]?.getD default).deps.all fun j => decide (j < m) && ancP ops 8 i j) &&
    ((sp[i]?.getD default).cons.all fun t => (decide (1000 ≤ t) && decide (t < 1000 + r)) || (decide (t < m) && ancP ops 8 i t)) &&
    decide ((sp[i]?.getD default).cons.Nodup) &&
    ((List.range m).all fun k => decide (i = k) || (!decide (dstN ops i = dstN ops k) && (sp[i]?.getD default).cons.all fun t => !(sp[k]?.getD default).cons.contains t))) &&
  ((List.range ops.size).all fun i => decide (i < m) || ((List.range m).all fun j => ancP ops 8 i j)) &&
  ((List.range m).all fun i => decide ((sp[i]?.getD default).rd.Nodup) && (sp[i]?.getD default).rd.all fun t => decide (1000 ≤ t) && decide (t < 1000 + r) && !(sp[i]?.getD default).cons.contains t && ((List.range m).all fun k => !(sp[k]?.getD default).cons.contains t || ancP ops 8 k i))
def pref (k n : Nat) : Array Bool := (Array.range n).map fun i => decide (i < k)
def tailOK : Bool := (List.range ops.size).all fun k => decide (k < m) || decide (Region.ready .any ops (pref k ops.size) = [k])
end

section
variable {c : Cx} {ops : Array Oper} {m : Nat} {sp : List Sp} {hs0 hsR : List HA} {rsB : List (Nat × AV)} {Q : Exit → S → Prop}
def Pres (sp : List Sp) (m r : Nat) (D : Array Bool) (t : Nat) : Prop := ((1000 ≤ t ∧ t < 1000 + r) ∨ (t < m ∧ D.getD t false = true)) ∧ ∀ i, i < m → D.getD i false = true → t ∉ (sp[i]?.getD default).cons
def vsOf (ops : Array Oper) (a : Act) (j : Nat) : Value := a.tmps.getD (dstN ops j) undef
/-- What an operation does while these things abide. -/
def LTr (P : Program) (o : Oper) (rs : List (Nat × AV)) (hsR cons : List HA) (post : AV → List HA → Prop) : Prop := LT P o rs (cons ++ hsR) (fun x y => ∃ y', y = y' ++ hsR ∧ post x y')
/-- .. or what it leaves where its guard says no. -/
def LTg (P : Program) (ops : Array Oper) (o : Oper) (rs : List (Nat × AV)) (hsR cons : List HA) (post : AV → List HA → Prop) : Prop :=
  (o.guard = none ∧ LTr P o rs hsR cons post) ∨ (∃ j b dj bv, o.guard = some (j, b) ∧ gdst ops j = some dj ∧ look rs dj = some (.val (.bool bv)) ∧ ((bv = b ∧ LTr P o rs hsR cons post) ∨ (bv ≠ b ∧ cons = [] ∧ post (.val undef) [])))
  ∨ ∃ j b dj, o.guard = some (j, b) ∧ gdst ops j = some dj ∧ look rs dj = some (.val undef) ∧ cons = [] ∧ post (.val undef) []
theorem yielded_of' {rs : List (Nat × AV)} {ops : Array Oper} {a : Act} {G : Nat → Option Obj} (hR : RegOK rs G a) {j dj : Nat} {b : Bool} (hj : gdst ops j = some dj) (hl : look rs dj = some (.val (.bool b))) : yielded ops a.tmps j = some b := by
  have h1 : a.tmps.getD dj undef = .bool b := hR _ _ hl
  unfold gdst at hj
  have h2 : a.tmps[dj]? = some (.bool b) := by
    rw [Array.getD_eq_getD_getElem?] at h1
    cases h : a.tmps[dj]? with
    | none => rw [h] at h1; simp [undef] at h1
    | some v => rw [h] at h1; exact congrArg some h1
  simp [yielded, hj, h2]
theorem yielded_un {rs : List (Nat × AV)} {ops : Array Oper} {a : Act} {G : Nat → Option Obj} (hR : RegOK rs G a) {j dj : Nat} (hj : gdst ops j = some dj) (hl : look rs dj = some (.val undef)) : yielded ops a.tmps j = none := by
  have h1 : a.tmps.getD dj undef = undef := hR _ _ hl
  unfold gdst at hj
  rw [Array.getD_eq_getD_getElem?] at h1
  cases h : a.tmps[dj]? with
  | none => simp [yielded, hj, h]
  | some v => rw [h] at h1; simp at h1; subst h1; simp [yielded, hj, h, undef]
def Rel (c : Cx) (ops : Array Oper) (m : Nat) (sp : List Sp) (hs0 hsR : List HA) (rsB : List (Nat × AV)) (D : Array Bool) (a : Act) (w : World) : Prop :=
  ∃ (G : Nat → Option Obj) (F : List Nat) (ts : List Nat), ts.Nodup ∧ (∀ t, t ∈ ts ↔ Pres sp m hs0.length D t) ∧ Inv G F (ts.flatMap (cont sp hs0 (vsOf ops a)) ++ hsR) w ∧ Fr c.w0 w c.F0 F c.G0 G ∧ RegOK rsB G a ∧ a.tmps.size = c.nt ∧ Mk c G F w a.defers ∧
    ∀ j, j < m → D.getD j false = true → ((sp[j]?.getD default).out.reg (vsOf ops a j)).P G (vsOf ops a j)
theorem perm_cut {ts ct : List Nat} (h1 : ts.Nodup) (h2 : ct.Nodup) (h3 : ∀ t ∈ ct, t ∈ ts) : ts.Perm (ct ++ ts.filter fun t => !ct.elem t) := by
  refine List.perm_iff_count.2 fun a => ?_
  rw [List.count_append]
  by_cases hc : a ∈ ct
  · rw [List.count_eq_zero_of_not_mem (a := a) (l := ts.filter _) (by simp [hc]), h1.count, h2.count, if_pos (h3 a hc), if_pos hc]
  · rw [List.count_eq_zero_of_not_mem hc, Nat.zero_add]
    by_cases ht : a ∈ ts
    · have hf : (ts.filter fun t => !ct.elem t).Nodup := List.Pairwise.filter _ h1
      rw [h1.count, if_pos ht, hf.count, if_pos (by simp [ht, hc])]
    · rw [List.count_eq_zero_of_not_mem ht, List.count_eq_zero_of_not_mem (by simp [ht])]
theorem regsI_ok {a : Act} {G : Nat → Option Obj} (hB : RegOK rsB G a) : ∀ (l : List Nat), (∀ j ∈ l, ((sp[j]?.getD default).out.reg (vsOf ops a j)).P G (vsOf ops a j)) → RegOK (regsI ops sp (vsOf ops a) l rsB) G a
  | [], _ => hB
  | j :: l, h => fun i av e => by
    simp only [regsI, look] at e
    cases hb : Nat.beq (dstN ops j) i with
    | true =>
      rw [hb] at e
      obtain rfl := Nat.eq_of_beq_eq_true hb
      simp only [cond_true, Option.some.injEq] at e
      subst e
      exact h j (by simp)
    | false => rw [hb] at e; exact regsI_ok hB l (fun k hk => h k (by simp [hk])) i av (by simpa using e)

theorem flatMap_same {α β : Type} {f g : α → List β} : ∀ (l : List α), (∀ x ∈ l, f x = g x) → l.flatMap f = l.flatMap g
  | [], _ => rfl
  | x :: l, h => by rw [List.flatMap_cons, List.flatMap_cons, h x (by simp), flatMap_same l fun y hy => h y (by simp [hy])]
theorem rel_step (hok : anyOK ops m sp hs0.length = true) (hB : ∀ i av, look rsB i = some av → ∀ j, j < m → dstN ops j ≠ i) (hd : ∀ j, j < m → okD ((ops[j]?).bind (·.dst)) c.nt = true)
    (hlt : ∀ i o, i < m → ops[i]? = some o → ∀ vs, LTg c.P ops o (regsI ops sp vs (sp[i]?.getD default).deps rsB) ((sp[i]?.getD default).rd.flatMap (cont sp hs0 vs) ++ hsR) ((sp[i]?.getD default).cons.flatMap (cont sp hs0 vs)) ((sp[i]?.getD default).out.post vs))
    {D : Array Bool} {i : Nat} {o : Oper} (hi : i < m) (ho : ops[i]? = some o) (hDi : D.getD i false = false) (hDn : i < D.size) (hcl : ∀ k, D.getD k false = true → ∀ j, ancP ops 8 k j = true → D.getD j false = true) (hanc : ∀ j, ancP ops 8 i j = true → D.getD j false = true) {a : Act} {w : World} (h : Rel c ops m sp hs0 hsR rsB D a w) :
    wpOpIn c.F c.n c.P ops (Post c Q) i (Rel c ops m sp hs0 hsR rsB (D.setIfInBounds i true)) a w := by
  unfold anyOK at hok
  simp only [Bool.and_eq_true, decide_eq_true_eq] at hok
  obtain ⟨⟨⟨⟨⟨hsp, hm⟩, hm2⟩, hops⟩, _⟩, hrdOK⟩ := hok
  have hall := fun k (hk : k < m) => List.all_eq_true.1 hops k (List.mem_range.2 hk)
  simp only [Bool.and_eq_true, decide_eq_true_eq] at hall
  obtain ⟨⟨⟨⟨hg, hdeps⟩, hcons⟩, hnd⟩, hpair⟩ := hall i hi
  simp only [ho, Bool.and_eq_true] at hg
  obtain ⟨hds, _⟩ := hg
  have hdd : (ops[i]?).bind (·.dst) = o.dst := by rw [ho]; rfl
  generalize hdN : dstN ops i = dd
  have hdist : ∀ k, k < m → k ≠ i → dstN ops k ≠ dd ∧ ∀ t ∈ (sp[i]?.getD default).cons, t ∉ (sp[k]?.getD default).cons := fun k hk hne => by
    have := List.all_eq_true.1 hpair k (List.mem_range.2 hk)
    simp only [Bool.or_eq_true, decide_eq_true_eq, Bool.and_eq_true, Bool.not_eq_true', decide_eq_false_iff_not, List.all_eq_true, List.contains_eq_mem] at this
    rcases this with h | ⟨h1, h2⟩
    · exact absurd h.symm hne
    · exact ⟨fun e => h1 (hdN.trans e.symm), fun t ht => by simpa using h2 t ht⟩
  obtain ⟨G, F, ts, hnd1, hpr, hI, hF, hR, hsz, hdf, hav⟩ := h
  have hct : ∀ t ∈ (sp[i]?.getD default).cons, t ∈ ts := fun t ht => by
    refine (hpr t).2 ⟨?_, fun k hk hDk hin => ?_⟩
    · have := List.all_eq_true.1 hcons t ht
      simp only [Bool.or_eq_true, Bool.and_eq_true, decide_eq_true_eq] at this
      rcases this with h | h
      · exact .inl h
      · exact .inr ⟨h.1, hanc t h.2⟩
    · have hne : k ≠ i := fun e => by subst e; rw [hDi] at hDk; cases hDk
      exact (hdist k hk hne).2 t ht hin
  have hperm := perm_cut hnd1 hnd hct
  have hrd := List.all_eq_true.1 hrdOK i (List.mem_range.2 hi)
  simp only [Bool.and_eq_true, decide_eq_true_eq, List.all_eq_true, Bool.not_eq_true', Bool.or_eq_true] at hrd
  obtain ⟨hrdn, hrda⟩ := hrd
  have hrt : ∀ t ∈ (sp[i]?.getD default).rd, t ∈ ts.filter fun t => !(sp[i]?.getD default).cons.elem t := fun t ht => by
    obtain ⟨⟨⟨k1, k2⟩, k3⟩, k4⟩ := hrda t ht
    refine List.mem_filter.2 ⟨(hpr t).2 ⟨.inl ⟨k1, k2⟩, fun k hk hDk hin => ?_⟩, by simpa using k3⟩
    rcases k4 k (List.mem_range.2 hk) with h | h
    · simp [hin] at h
    · have := hcl k hDk i h
      rw [hDi] at this; cases this
  have hperm2 := perm_cut (List.Pairwise.filter _ hnd1) hrdn hrt
  generalize hRD : (sp[i]?.getD default).rd.flatMap (cont sp hs0 (vsOf ops a)) = RD
  generalize hR2 : ((ts.filter fun t => !(sp[i]?.getD default).cons.elem t).filter fun t => !(sp[i]?.getD default).rd.elem t) = rest2 at hperm2
  have hp3 : (ts.filter fun t => !(sp[i]?.getD default).cons.elem t).flatMap (cont sp hs0 (vsOf ops a)) |>.Perm (RD ++ rest2.flatMap (cont sp hs0 (vsOf ops a))) := by
    have := hperm2.flatMap_right (cont sp hs0 (vsOf ops a))
    rwa [List.flatMap_append, hRD] at this
  have hI2 : Inv G F (((sp[i]?.getD default).cons.flatMap (cont sp hs0 (vsOf ops a)) ++ (RD ++ hsR)) ++ rest2.flatMap (cont sp hs0 (vsOf ops a))) w :=
    ⟨hI.gin, hI.nd, hI.own, by
      refine hsP.permL ?_ hI.hs
      refine ((hperm.flatMap_right (cont sp hs0 (vsOf ops a))).append_right hsR).trans ?_
      rw [List.flatMap_append, List.append_assoc, List.append_assoc]
      refine List.Perm.append_left _ ((hp3.append_right hsR).trans ?_)
      rw [List.append_assoc, List.append_assoc]
      exact List.Perm.append_left _ List.perm_append_comm⟩
  obtain ⟨F1, hc, hback⟩ := Inv.frame hI2
  have hRI : RegOK (regsI ops sp (vsOf ops a) (sp[i]?.getD default).deps rsB) G a := regsI_ok hR _ fun j hj => by
    have := List.all_eq_true.1 hdeps j hj
    simp only [Bool.and_eq_true, decide_eq_true_eq] at this
    exact hav j this.1 (hanc j this.2)
  have fin : ∀ (v : Value) (av : AV) (prod : List HA) (G' : Nat → Option Obj) (F1' : List Nat) (w' : World), (sp[i]?.getD default).out.post (vsOf ops a) av prod → Fr w w' F1 F1' G G' → Inv G' F1' (prod ++ (RD ++ hsR)) w' → av.P G' v → Rel c ops m sp hs0 hsR rsB (D.setIfInBounds i true) (a.put o.dst v) w' := by
    intro v av prod G' F1' w' hp hfr hi' hv
    obtain ⟨F', hI3, hfr3⟩ := hback hfr hi'
    have hdi := hd i hi
    rw [hdd] at hdi
    have hvi : (∀ j h, (sp[i]?.getD default).out ≠ .fx j h) → vsOf ops (a.put o.dst v) i = v := fun hnf => by
      have hsome : o.dst.isSome = true := by
        revert hds hnf
        cases (sp[i]?.getD default).out with
        | fx j h => intro _ h'; exact absurd rfl (h' j h)
        | _ => exact fun h _ => h
      obtain ⟨e, he⟩ := Option.isSome_iff_exists.1 hsome
      have hde : dstN ops i = e := by unfold dstN; rw [hdd, he]; rfl
      rw [he] at hdi
      have hlt' : e < a.tmps.size := by rw [hsz]; simpa only [okD, Nat.blt_eq] using hdi
      unfold vsOf; rw [hde, he]; simp [Act.put, Array.getD, hlt']
    have hvk : ∀ k, dstN ops k ≠ dd → vsOf ops (a.put o.dst v) k = vsOf ops a k := fun k hk => by
      cases he : o.dst with
      | none => rfl
      | some e =>
        have hde : dd = e := by rw [← hdN]; unfold dstN; rw [hdd, he]; rfl
        unfold vsOf
        simp only [Act.put, Array.getD_eq_getD_getElem?, Array.getElem?_setIfInBounds, if_neg (show ¬ e = dstN ops k from fun h => hk (by rw [hde, h]))]
    have hjn : ∀ t, t < m → (t = i ∨ D.getD t false = true) → ∀ j h, (sp[t]?.getD default).out = .fx j h → j < m ∧ dstN ops j ≠ dd := fun t ht htd j h e => by
      have h0 := (hall t ht).1.1.1.1
      cases hot : ops[t]? with
      | none => rw [hot] at h0; cases h0
      | some ot =>
        simp only [hot, e, Bool.and_eq_true, decide_eq_true_eq] at h0
        have hj := h0.1.2
        have hDj : D.getD j false = true := by
          rcases htd with rfl | htd
          · exact hanc j hj
          · exact hcl t htd j hj
        exact ⟨h0.1.1, (hdist j h0.1.1 (fun e' => by subst e'; rw [hDi] at hDj; cases hDj)).1⟩
    have hnew : ∀ t, t < m → t ≠ i → D.getD t false = true → cont sp hs0 (vsOf ops (a.put o.dst v)) t = cont sp hs0 (vsOf ops a) t := fun t ht hne htd => by
      unfold cont
      cases e : (sp[t]?.getD default).out with
      | pv x => rfl
      | tok p => simp only [Out.prod]; rw [hvk t (hdist t ht hne).1]
      | fx j h => simp only [Out.prod]; rw [hvk j (hjn t ht (.inr htd) j h e).2]
    have hbase : ∀ t, 1000 ≤ t → cont sp hs0 (vsOf ops (a.put o.dst v)) t = cont sp hs0 (vsOf ops a) t := fun t ht => by
      unfold cont; rw [show Nat.ble 1000 t = true by rw [Nat.ble_eq]; exact ht]; rfl
    have hits : i ∉ ts := fun hin => by
      rcases ((hpr i).1 hin).1 with h | h
      · omega
      · rw [hDi] at h; cases h.2
    have hDs : ∀ k, (D.setIfInBounds i true).getD k false = true ↔ (k = i ∨ D.getD k false = true) := fun k => by
      by_cases hk : k = i
      · subst hk; simp [Array.getD_eq_getD_getElem?, hDn]
      · rw [getD_set_ne false (Ne.symm hk)]; simp [hk]
    refine ⟨G', F', i :: ts.filter (fun t => !(sp[i]?.getD default).cons.elem t), List.nodup_cons.2 ⟨fun h => hits (List.mem_filter.1 h).1, List.Pairwise.filter _ hnd1⟩, fun t => ?_, ⟨hI3.gin, hI3.nd, hI3.own, ?_⟩, hF.trans hfr3, ?_, ?_, ?_, fun j hj hDj => ?_⟩
    · have hno : ∀ k, k < m → (k = i ∨ D.getD k false = true) → i ∉ (sp[k]?.getD default).cons := fun k hk hDk hin => by
        have hck := List.all_eq_true.1 (hall k hk).1.1.2 i hin
        simp only [Bool.or_eq_true, Bool.and_eq_true, decide_eq_true_eq] at hck
        rcases hck with h | h
        · omega
        · have : D.getD i false = true := by
            rcases hDk with rfl | hDk
            · exact hanc _ h.2
            · exact hcl k hDk _ h.2
          rw [hDi] at this; cases this
      rw [List.mem_cons, List.mem_filter, hpr t]
      constructor
      · rintro (rfl | ⟨⟨h1, h2⟩, h3⟩)
        · exact ⟨.inr ⟨hi, (hDs _).2 (.inl rfl)⟩, fun k hk hDk hin => hno k hk ((hDs k).1 hDk) hin⟩
        · refine ⟨h1.imp id fun h => ⟨h.1, (hDs _).2 (.inr h.2)⟩, fun k hk hDk hin => ?_⟩
          rcases (hDs k).1 hDk with rfl | hDk
          · simp [hin] at h3
          · exact h2 k hk hDk hin
      · rintro ⟨h1, h2⟩
        by_cases hti : t = i
        · exact .inl hti
        · refine .inr ⟨⟨h1.imp id fun h => ⟨h.1, ((hDs _).1 h.2).resolve_left hti⟩, fun k hk hDk => h2 k hk ((hDs _).2 (.inr hDk))⟩, ?_⟩
          have := h2 i hi ((hDs _).2 (.inl rfl))
          simpa using this
    · have e1 : cont sp hs0 (vsOf ops (a.put o.dst v)) i = prod := by
        unfold cont
        rw [show Nat.ble 1000 i = false by rw [← Bool.not_eq_true, Nat.ble_eq]; omega]
        revert hv; revert hp
        cases e : (sp[i]?.getD default).out with
        | pv x => rintro ⟨rfl, rfl⟩ _; rfl
        | tok p =>
          rintro ⟨u, rfl, rfl⟩ hv
          have hv' : v = u := hv
          subst hv'
          simp only [Out.prod, cond_false]
          rw [hvi (fun j h h' => by rw [e] at h'; cases h')]
        | fx j h =>
          rintro hp _
          simp only [Out.prod, cond_false]
          rw [hvk j (hjn i hi (.inl rfl) j h e).2]
          exact hp.symm
      have e2 : ((ts.filter fun t => !(sp[i]?.getD default).cons.elem t).flatMap (cont sp hs0 (vsOf ops (a.put o.dst v)))) = ((ts.filter fun t => !(sp[i]?.getD default).cons.elem t).flatMap (cont sp hs0 (vsOf ops a))) := by
        refine flatMap_same _ fun t ht => ?_
        have ht' := (List.mem_filter.1 ht).1
        rcases ((hpr t).1 ht').1 with h | h
        · exact hbase t h.1
        · exact hnew t h.1 (fun e => hits (e ▸ ht')) h.2
      rw [List.flatMap_cons, e1, e2, List.append_assoc]
      refine hsP.permL ?_ hI3.hs
      rw [List.append_assoc]
      refine List.Perm.append_left _ ?_
      refine List.Perm.trans ?_ (hp3.symm.append_right hsR)
      rw [List.append_assoc, List.append_assoc]
      exact List.Perm.append_left _ List.perm_append_comm
    · intro k av' e
      have hk := hR k av' e
      have hne : dd ≠ k := fun e' => hB k av' e i hi (hdN.trans e')
      have : (a.put o.dst v).tmps.getD k undef = a.tmps.getD k undef := by
        cases he : o.dst with
        | none => rfl
        | some e' =>
          have hde : dd = e' := by rw [← hdN]; unfold dstN; rw [hdd, he]; rfl
          simp only [Act.put, Array.getD_eq_getD_getElem?, Array.getElem?_setIfInBounds, if_neg (show ¬ e' = k from fun h => hne (hde.trans h))]
      rw [this]; exact av'.mono hfr3.gle hk
    · rw [(size_put a _ v).1, hsz]
    · rw [(size_put a _ v).2]; exact hdf.step hfr3
    · rcases (hDs j).1 hDj with rfl | hDj2
      · revert hv; revert hp
        cases e : (sp[j]?.getD default).out with
        | pv x =>
          rintro ⟨rfl, rfl⟩ hv
          rw [hvi (fun j' h h' => by rw [e] at h'; cases h')]; exact hv
        | tok p =>
          rintro ⟨u, rfl, rfl⟩ hv
          rw [hvi (fun j' h h' => by rw [e] at h'; cases h')]; exact (show (AV.val v).P G' v from rfl)
        | fx j' h => intro _ _; exact trivial
      · by_cases hji : j = i
        · subst hji; rw [hDi] at hDj2; cases hDj2
        · rw [hvk j (hdist j hj hji).1]; exact (AV.mono _ hfr3.gle (hav j hj hDj2))
  unfold wpOpIn
  simp only [ho]
  have go : LTr c.P o (regsI ops sp (vsOf ops a) (sp[i]?.getD default).deps rsB) (RD ++ hsR) ((sp[i]?.getD default).cons.flatMap (cont sp hs0 (vsOf ops a))) ((sp[i]?.getD default).out.post (vsOf ops a)) → o.wpIn c.F c.n c.P a w (Rel c ops m sp hs0 hsR rsB (D.setIfInBounds i true)) (Post c Q) := fun h => by
    refine h.go c.F c.n c.wd a w G F1 _ _ hRI hc fun v av prod' G' F1' w' ⟨prod, hpe, hp⟩ hfr hi' hv => ?_
    subst hpe
    exact fin v av prod G' F1' w' hp hfr hi' hv
  have hlti := hlt i o hi ho (vsOf ops a)
  rw [hRD] at hlti
  rcases hlti with ⟨hg, h⟩ | ⟨j, b, dj, bv, hg, hj, hl, h⟩ | ⟨j, b, dj, hg, hj, hl, hcn, hp⟩
  · rw [if_pos (by simp [Region.wanted, hg])]
    exact go h
  · have hy := yielded_of' hRI hj hl
    rcases h with ⟨rfl, h⟩ | ⟨hb, hcn, hp⟩
    · rw [if_pos (by simp [Region.wanted, hg, hy])]
      exact go h
    · rw [if_neg (by simp [Region.wanted, hg, hy, hb])]
      refine ⟨fun f _ => c.wd.fn f, fin undef (.val undef) [] G F1 w hp (Fr.refl _ _ _) ?_ rfl⟩
      rw [hcn] at hc; exact hc
  · have hy := yielded_un hRI hj hl
    rw [if_neg (by simp [Region.wanted, hg, hy])]
    refine ⟨fun f _ => c.wd.fn f, fin undef (.val undef) [] G F1 w hp (Fr.refl _ _ _) ?_ rfl⟩
    rw [hcn] at hc; exact hc
theorem pref_getD (k n i : Nat) (d : Bool) (h : i < n) : (pref k n).getD i d = decide (i < k) := by
  unfold pref; simp [Array.getD_eq_getD_getElem?, h]
theorem ready_all (D : Array Bool) (h : ∀ j, j < ops.size → D.getD j true = true) : Region.ready .any ops D = [] := by
  cases hr : Region.ready .any ops D with
  | nil => rfl
  | cons x xs =>
    have hx : x ∈ Region.ready .any ops D := by rw [hr]; simp
    obtain ⟨h1, o, ho, _⟩ := mem_ready.1 hx
    rw [h x (Array.getElem?_eq_some_iff.1 ho).1] at h1
    cases h1
theorem tail_list (hto : tailOK ops m = true) : ∀ (j k : Nat), ops.size ≤ k + j → k ≤ ops.size → m ≤ k → ∀ (a : Act) (w : World), wpListIn c.F c.n c.P ops (Post c Q) (ops.toList.drop k) a w → wpAnyIn c.F c.n c.P .any ops (Post c Q) j (pref k ops.size) a w
  | 0, k, hk, hk2, hm, a, w, h => by
    have hk' : k = ops.size := by omega
    subst hk'
    refine ⟨ready_all _ fun j hj => by rw [pref_getD _ _ _ _ hj]; simpa using hj, ?_⟩
    rw [List.drop_of_length_le (by simp)] at h
    exact h
  | j + 1, k, hk, hk2, hm, a, w, h => by
    by_cases hlt : k < ops.size
    case neg =>
      have hk' : k = ops.size := by omega
      subst hk'
      have hr := ready_all (ops := ops) (pref ops.size ops.size) fun j hj => by rw [pref_getD _ _ _ _ hj]; simpa using hj
      rw [List.drop_of_length_le (by simp)] at h
      exact ⟨fun _ => h, fun i hi => by rw [hr] at hi; cases hi⟩
    have hr : Region.ready .any ops (pref k ops.size) = [k] := by
      have := List.all_eq_true.1 hto k (List.mem_range.2 hlt)
      simp only [Bool.or_eq_true, decide_eq_true_eq] at this
      exact this.resolve_left (by omega)
    refine ⟨fun h0 => (by rw [hr] at h0; cases h0), fun i hi => ?_⟩
    rw [hr, List.mem_singleton] at hi
    subst hi
    have hd : ops.toList.drop i = ops[i] :: ops.toList.drop (i + 1) := by
      rw [List.drop_eq_getElem_cons (by simpa using hlt)]; simp
    rw [hd] at h
    unfold wpListIn at h
    unfold wpOpIn
    simp only [Array.getElem?_eq_getElem hlt]
    have hset : (pref i ops.size).setIfInBounds i true = pref (i + 1) ops.size := by
      refine Array.ext (by simp [pref]) fun x h1 h2 => ?_
      have hx2 : x < ops.size := by simpa [pref] using h2
      have e1 : ((pref i ops.size).setIfInBounds i true).getD x false = ((pref i ops.size).setIfInBounds i true)[x] := by rw [Array.getD_eq_getD_getElem?, Array.getElem?_eq_getElem h1]; rfl
      have e2 : (pref (i + 1) ops.size).getD x false = (pref (i + 1) ops.size)[x] := by simp [Array.getD_eq_getD_getElem?, h2]
      rw [← e1, ← e2, pref_getD _ _ _ _ hx2]
      by_cases hx : i = x
      · subst hx; simp [Array.getD_eq_getD_getElem?, pref, hlt]
      · rw [getD_set_ne false hx, pref_getD _ _ _ _ hx2, decide_eq_decide]; omega
    have key : ∀ a w, wpListIn c.F c.n c.P ops (Post c Q) (ops.toList.drop (i + 1)) a w → wpAnyIn c.F c.n c.P .any ops (Post c Q) j ((pref i ops.size).setIfInBounds i true) a w := fun a w h => by
      rw [hset]; exact tail_list hto j (i + 1) (by omega) (by omega) (by omega) a w h
    split
    · rename_i hw; rw [if_pos hw] at h; exact Oper.wpIn_mono key h
    · rename_i hw; rw [if_neg hw] at h; exact ⟨h.1, key _ _ h.2⟩
/-- What is left at the end. -/
def finalT (m r : Nat) (sp : List Sp) : List Nat := (List.range m ++ (List.range r).map (1000 + ·)).filter fun t => !((List.range m).flatMap fun i => (sp[i]?.getD (default : Sp)).cons).elem t
theorem closed_anc {D : Array Bool} (h : Closed ops D) {k : Nat} (hk : D.getD k false = true) {j : Nat} (hj : ancP ops 8 k j = true) : D.getD j false = true := by
  cases ho : ops[k]? with
  | none =>
    unfold ancP waits at hj
    simp [ho] at hj
  | some o => exact ancP_listed h 8 k o ho (fun e he hb => h k o ho hk e he hb) hj
theorem any_main (hok : anyOK ops m sp hs0.length = true) (hto : tailOK ops m = true) (hB : ∀ i av, look rsB i = some av → ∀ j, j < m → dstN ops j ≠ i) (hd : ∀ j, j < m → okD ((ops[j]?).bind (·.dst)) c.nt = true)
    (hlt' : ∀ i o, i < m → ops[i]? = some o → ∀ vs, LTg c.P ops o (regsI ops sp vs (sp[i]?.getD default).deps rsB) ((sp[i]?.getD default).rd.flatMap (cont sp hs0 vs) ++ hsR) ((sp[i]?.getD default).cons.flatMap (cont sp hs0 vs)) ((sp[i]?.getD default).out.post vs))
    (k : ∀ vs, WL c ops (ops.toList.drop m) ⟨regsI ops sp vs (List.range m) rsB, (finalT m hs0.length sp).flatMap (cont sp hs0 vs) ++ hsR⟩ Q) :
    ∀ (fuel : Nat) (D : Array Bool) (a : Act) (w : World), D.size = ops.size → Closed ops D → (∀ j, D.getD j false = true → j < m) → (ops.size - m) + ((List.range m).filter fun j => !D.getD j false).length ≤ fuel → Rel c ops m sp hs0 hsR rsB D a w → wpAnyIn c.F c.n c.P .any ops (Post c Q) fuel D a w := by
  have hok' := hok
  unfold anyOK at hok'
  simp only [Bool.and_eq_true, decide_eq_true_eq] at hok'
  obtain ⟨⟨⟨⟨⟨hsp, hm⟩, hm2⟩, hops⟩, htl⟩, _⟩ := hok'
  have fin : ∀ (fuel : Nat) (D : Array Bool) (a : Act) (w : World), D.size = ops.size → (∀ j, D.getD j false = true → j < m) → (∀ j, j < m → D.getD j false = true) → ops.size - m ≤ fuel → Rel c ops m sp hs0 hsR rsB D a w → wpAnyIn c.F c.n c.P .any ops (Post c Q) fuel D a w := by
    intro fuel D a w hs hb hall hf hR
    have hD : D = pref m ops.size := by
      refine Array.ext (by simp [pref, hs]) fun x h1 h2 => ?_
      have e1 : D.getD x false = D[x] := by simp [Array.getD_eq_getD_getElem?, h1]
      have e2 : (pref m ops.size)[x] = decide (x < m) := by simp [pref]
      rw [e2, ← e1]
      by_cases hx : x < m
      · rw [hall x hx]; simp [hx]
      · have : D.getD x false = false := by
          cases hd : D.getD x false with
          | false => rfl
          | true => exact absurd (hb x hd) hx
        rw [this]; simp [hx]
    obtain ⟨G, F, ts, hnd1, hpr, hI, hF, hR, hsz, hdf, hav⟩ := hR
    rw [hD]
    refine tail_list hto fuel m (by omega) hm (Nat.le_refl _) a w ((k (vsOf ops a)).out a w ⟨G, F, ⟨hI.gin, hI.nd, hI.own, ?_⟩, hF, regsI_ok hR _ fun j hj => hav j (List.mem_range.1 hj) (hall j (List.mem_range.1 hj)), hsz, hdf⟩)
    refine hsP.permL ((List.Perm.flatMap_right _ ?_).append_right _) hI.hs
    have hndf : (finalT m hs0.length sp).Nodup := by
      refine List.Pairwise.filter _ (List.nodup_append.2 ⟨List.nodup_range, ?_, ?_⟩)
      · exact List.Pairwise.map _ (fun a b h e => h (by omega)) List.nodup_range
      · intro x hx y hy e
        rw [List.mem_range] at hx
        obtain ⟨z, _, rfl⟩ := List.mem_map.1 hy
        omega
    refine List.perm_iff_count.2 fun x => ?_
    rw [hnd1.count, hndf.count]
    have : x ∈ ts ↔ x ∈ finalT m hs0.length sp := by
      rw [hpr x]
      unfold finalT Pres
      simp only [List.mem_filter, List.mem_append, List.mem_range, List.mem_map, Bool.not_eq_true', List.elem_eq_mem, decide_eq_false_iff_not, List.mem_flatMap, not_exists, not_and]
      constructor
      · rintro ⟨h1, h2⟩
        refine ⟨?_, fun y hy hin => h2 y hy (hall y hy) hin⟩
        rcases h1 with h | h
        · exact .inr ⟨x - 1000, by omega, by omega⟩
        · exact .inl h.1
      · rintro ⟨h1, h2⟩
        refine ⟨?_, fun y hy _ hin => h2 y hy hin⟩
        rcases h1 with h | ⟨z, hz, rfl⟩
        · exact .inr ⟨h, hall x h⟩
        · exact .inl ⟨by omega, by omega⟩
    simp only [this]
  intro fuel
  induction fuel with
  | zero =>
    intro D a w hs hc hb hf hR
    refine fin 0 D a w hs hb (fun j hj => ?_) (by omega) hR
    cases hd : D.getD j false with
    | true => rfl
    | false =>
      have : j ∈ (List.range m).filter fun j => !D.getD j false := List.mem_filter.2 ⟨List.mem_range.2 hj, by simp [hd]⟩
      have := List.length_pos_of_mem this
      omega
  | succ fuel ih =>
    intro D a w hs hc hb hf hR
    by_cases hall : ∀ j, j < m → D.getD j false = true
    · exact fin _ D a w hs hb hall (by omega) hR
    · have hrm : ∀ i ∈ Region.ready .any ops D, i < m := fun i hi => by
        obtain ⟨h1, o, ho, h2⟩ := mem_ready.1 hi
        have hlt := (Array.getElem?_eq_some_iff.1 ho).1
        by_cases him : i < m
        · exact him
        · exfalso
          refine hall fun j hj => ?_
          have := List.all_eq_true.1 htl i (List.mem_range.2 hlt)
          simp only [Bool.or_eq_true, decide_eq_true_eq] at this
          have := List.all_eq_true.1 (this.resolve_left him) j (List.mem_range.2 hj)
          exact ancP_listed hc 8 i o ho (fun e he hb => h2 e he hb) this
      refine ⟨fun h0 => ?_, fun i hi => ?_⟩
      · exfalso
        refine hall fun j => ?_
        induction j using Nat.strongRecOn with
        | _ j ihj =>
          intro hj
          cases hd : D.getD j false with
          | true => rfl
          | false =>
            exfalso
            have hja := List.all_eq_true.1 hops j (List.mem_range.2 hj)
            simp only [Bool.and_eq_true] at hja
            have hje := hja.1.1.1.1
            cases ho : ops[j]? with
            | none => rw [ho] at hje; cases hje
            | some o =>
              simp only [ho, Bool.and_eq_true, List.all_eq_true, Bool.or_eq_true, Bool.not_eq_true', decide_eq_true_eq] at hje
              have hlt := (Array.getElem?_eq_some_iff.1 ho).1
              have hmem : j ∈ Region.ready .any ops D := mem_ready.2 ⟨by simp only [Array.getD_eq_getD_getElem?, Array.getElem?_eq_getElem (show j < D.size by omega)] at hd ⊢; exact hd, o, ho, fun e he hb => by
                have h3 := hje.2 e (Array.mem_toList_iff.2 he)
                rw [hb] at h3
                have h4 : e.on < j := by rcases h3 with h3 | h3; cases h3; exact h3
                exact ihj e.on h4 (by omega)⟩
              rw [h0] at hmem
              cases hmem
      · have him := hrm i hi
        obtain ⟨h1, o, ho, h2⟩ := mem_ready.1 hi
        have hlt := (Array.getElem?_eq_some_iff.1 ho).1
        have hDi : D.getD i false = false := getD_ft h1
        have hanc : ∀ j, ancP ops 8 i j = true → D.getD j false = true := fun j hj => ancP_listed hc 8 i o ho (fun e he hb => h2 e he hb) hj
        have hDs : ∀ k, (D.setIfInBounds i true).getD k false = true ↔ (k = i ∨ D.getD k false = true) := fun k => by
          by_cases hk : k = i
          · subst hk; simp [Array.getD_eq_getD_getElem?, hs, hlt]
          · rw [getD_set_ne false (Ne.symm hk)]; simp [hk]
        refine wpOpIn_mono (fun a' w' h' => ?_) (rel_step (Q := Q) hok hB hd hlt' him ho hDi (by omega) (fun k hk j hj => closed_anc hc hk hj) hanc hR)
        refine ih _ a' w' (by simpa using hs) (fun j oj hoj hj e he hb => ?_) (fun j hj => ?_) ?_ h'
        · rcases (hDs j).1 hj with rfl | hj
          · rw [ho] at hoj; obtain rfl := Option.some.inj hoj
            exact (hDs _).2 (.inr (h2 e he hb))
          · exact (hDs _).2 (.inr (hc j oj hoj hj e he hb))
        · rcases (hDs j).1 hj with rfl | hj
          · exact him
          · exact hb j hj
        · have hlen : (i :: (List.range m).filter fun j => !(D.setIfInBounds i true).getD j false).length ≤ ((List.range m).filter fun j => !D.getD j false).length := by
            refine sub_len (List.nodup_cons.2 ⟨fun h => ?_, List.Pairwise.filter _ List.nodup_range⟩) fun x hx => ?_
            · have := (List.mem_filter.1 h).2
              rw [(hDs i).2 (.inl rfl)] at this; cases this
            · rcases List.mem_cons.1 hx with rfl | hx
              · exact List.mem_filter.2 ⟨List.mem_range.2 him, by simp [hDi]⟩
              · obtain ⟨h3, h4⟩ := List.mem_filter.1 hx
                refine List.mem_filter.2 ⟨h3, ?_⟩
                cases hd : D.getD x false with
                | false => rfl
                | true => rw [(hDs x).2 (.inr hd)] at h4; cases h4
          simp only [List.length_cons] at hlen
          omega
/-- What each operation owes. -/
def Lts (P : Program) (ops : Array Oper) (sp : List Sp) (hs0 hsR : List HA) (rsB : List (Nat × AV)) : List Oper → List Sp → Prop
  | o :: l, s :: ss => (∀ vs, LTg P ops o (regsI ops sp vs s.deps rsB) (s.rd.flatMap (cont sp hs0 vs) ++ hsR) (s.cons.flatMap (cont sp hs0 vs)) (s.out.post vs)) ∧ Lts P ops sp hs0 hsR rsB l ss
  | _, [] => True
  | [], _ :: _ => False
theorem Lts.get {P : Program} : ∀ {l : List Oper} {ss : List Sp}, Lts P ops sp hs0 hsR rsB l ss → ∀ {i : Nat} {o : Oper} {s : Sp}, l[i]? = some o → ss[i]? = some s → ∀ vs, LTg P ops o (regsI ops sp vs s.deps rsB) (s.rd.flatMap (cont sp hs0 vs) ++ hsR) (s.cons.flatMap (cont sp hs0 vs)) (s.out.post vs)
  | _ :: _, _ :: _, h, 0, _, _, e1, e2 => by simp at e1 e2; subst e1 e2; exact h.1
  | _ :: _, _ :: _, h, i + 1, _, _, e1, e2 => Lts.get h.2 (i := i) (by simpa using e1) (by simpa using e2)
  | _, [], _, _, _, _, _, e2 => by simp at e2
  | [], _ :: _, h, _, _, _, _, _ => h.elim
theorem base_get : ∀ (l : List HA), (List.range l.length).flatMap (fun z => (l[z]?).toList) = l
  | [] => rfl
  | h :: t => by
    rw [List.length_cons, List.range_succ_eq_map, List.flatMap_cons, List.flatMap_map]
    simp only [List.getElem?_cons_zero, Option.toList_some, List.getElem?_cons_succ, List.singleton_append]
    rw [base_get t]
theorem base_all (vs : Nat → Value) : ((List.range hs0.length).map (1000 + ·)).flatMap (cont sp hs0 vs) = hs0 := by
  rw [List.flatMap_map]
  refine (flatMap_same _ fun z _ => ?_).trans (base_get hs0)
  unfold cont
  rw [show Nat.ble 1000 (1000 + z) = true by rw [Nat.ble_eq]; omega, Nat.add_sub_cancel_left]
  rfl
/-- hs taken apart. -/
inductive Cut : List HA → List HA → List HA → Prop
  | nil {hs : List HA} : Cut hs [] hs
  | cons {hs r a b : List HA} {h : HA} (k : Rm hs h r) (m : Cut r a b) : Cut hs (h :: a) b
theorem Cut.sel {hs a b : List HA} (k : Cut hs a b) : ∀ {G F w}, hsP hs G F w → hsP (a ++ b) G F w := by
  induction k with
  | nil => exact fun h => h
  | cons k m ih =>
    intro G F w h
    obtain ⟨F1, F2, e, h1, h2⟩ := k.sel h
    exact ⟨F1, F2, e, h1, ih h2⟩
theorem W_any {id : Nat} {l : List Oper} {rs : List (Nat × AV)} {hs : List HA} (m : Nat) (sp : List Sp) (hcut : Cut hs hs0 hsR) (hm : c.P.follows .mixedOrders = true) (hok : anyOK l.toArray m sp hs0.length = true) (hto : tailOK l.toArray m = true)
    (hd : ((List.range m).all fun j => okD ((l.toArray[j]?).bind (·.dst)) c.nt) = true)
    (hlt : Lts c.P l.toArray sp hs0 hsR (rmR ((List.range m).map (dstN l.toArray)) rs) l sp)
    (k : ∀ vs, WL c l.toArray (l.drop m) ⟨regsI l.toArray sp vs (List.range m) (rmR ((List.range m).map (dstN l.toArray)) rs), (finalT m hs0.length sp).flatMap (cont sp hs0 vs) ++ hsR⟩ Q) : W c (.region id l.toArray true) ⟨rs, hs⟩ Q := ⟨fun a w st => by
  obtain ⟨G, F, hI, hF, hR, hsz, hdf⟩ := st
  have hok' := hok
  unfold anyOK at hok'
  simp only [Bool.and_eq_true, decide_eq_true_eq] at hok'
  obtain ⟨⟨⟨⟨⟨hsp, hmz⟩, hm2⟩, hops⟩, htl⟩, hrdOK⟩ := hok'
  refine wpIn_region_any hm (any_main (m := m) (sp := sp) (hs0 := hs0) (hsR := hsR) (rsB := rmR ((List.range m).map (dstN l.toArray)) rs) hok hto (fun i av e j hj hij => ?_) (fun j hj => List.all_eq_true.1 hd j (List.mem_range.2 hj)) (fun i o hi ho vs => ?_) (by simpa using k) _ _ _ _ (by simp) ?_ (fun j hj => ?_) ?_ ?_)
  · exact (rmR_look e).2 (List.mem_map.2 ⟨j, List.mem_range.2 hj, hij⟩)
  · have hs : sp[i]? = some sp[i] := List.getElem?_eq_getElem (by omega)
    have := hlt.get (i := i) (o := o) (s := sp[i]) (by simpa using ho) hs vs
    rw [hs]; exact this
  · intro j o ho hj
    simp only [Array.getD_eq_getD_getElem?] at hj
    by_cases h : j < l.toArray.size
    · simp [show j < l.length by simpa using h] at hj
    · simp [show ¬ j < l.length by simpa using h] at hj
  · simp only [Array.getD_eq_getD_getElem?] at hj
    by_cases h : j < l.length
    · simp [h] at hj
    · simp [h] at hj
  · have h1 := List.length_filter_le (fun j => !(Array.replicate l.toArray.size false).getD j false) (List.range m)
    rw [List.length_range] at h1
    omega
  · have hno : ∀ j, (Array.replicate l.toArray.size false).getD j false = true → False := fun j hj => by
      simp only [Array.getD_eq_getD_getElem?] at hj
      by_cases h : j < l.length
      · simp [h] at hj
      · simp [h] at hj
    refine ⟨G, F, (List.range hs0.length).map (1000 + ·), List.Pairwise.map _ (fun a b h e => h (by omega)) List.nodup_range, fun t => ?_, ⟨hI.gin, hI.nd, hI.own, ?_⟩, ⟨hF.os, hF.tape, hF.output, hF.size, hF.same, hF.newF, hF.gle, hF.newG⟩, fun i av e => hR i av (rmR_look e).1, hsz, hdf, fun j hj hj2 => (hno j hj2).elim⟩
    · simp only [List.mem_map, List.mem_range]
      constructor
      · rintro ⟨z, hz, rfl⟩
        exact ⟨.inl ⟨by omega, by omega⟩, fun i _ hi => (hno i hi).elim⟩
      · rintro ⟨h1, _⟩
        rcases h1 with h | h
        · exact ⟨t - 1000, by omega, by omega⟩
        · exact (hno _ h.2).elim
    · rw [base_all]; exact hsP.loc (w := w) (fun _ _ => rfl) (hcut.sel hI.hs)⟩
end
/-- The same things owned, written out. -/
inductive Nrm : List HA → List HA → Prop
  | nil : Nrm [] []
  | cons {h : HA} {t t' : List HA} (k : Nrm t t') : Nrm (h :: t) (h :: t')
theorem Nrm.eq {a b : List HA} (h : Nrm a b) : a = b := by
  induction h with
  | nil => rfl
  | cons _ ih => rw [ih]
theorem WL_nrm {c : Cx} {rs rs' : List (Nat × AV)} {hs hs' : List HA} {Q : Exit → S → Prop} {ops : Array Oper} {tl : List Oper} (h : Nrm hs hs') (h2 : SubR rs' rs) (k : WL c ops tl ⟨rs', hs'⟩ Q) : WL c ops tl ⟨rs, hs⟩ Q := by
  obtain rfl := h.eq
  exact ⟨fun a w st => k.out a w (st_sub st h2)⟩
theorem WL_nrm1 {c : Cx} {rs : List (Nat × AV)} {hs hs' : List HA} {Q : Exit → S → Prop} {ops : Array Oper} {tl : List Oper} (h : Nrm hs hs') (k : WL c ops tl ⟨rs, hs'⟩ Q) : WL c ops tl ⟨rs, hs⟩ Q := by
  obtain rfl := h.eq
  exact k
/-- What abides abides. -/
theorem LT.frame {P : Program} {o : Oper} {rs : List (Nat × AV)} {cons rest : List HA} {post : AV → List HA → Prop} (h : LT P o rs cons post) : LT P o rs (cons ++ rest) (fun x y => ∃ y', y = y' ++ rest ∧ post x y') := by
  refine ⟨?_⟩
  intro F n hF a w G Fp K Q hR hI hk
  obtain ⟨F1, h1, h2⟩ := Inv.frame hI
  refine h.go F n hF a w G F1 K Q hR h1 fun v av prod G' F' w' hp hfr hi hv => ?_
  obtain ⟨F'', h3, h4⟩ := h2 hfr hi
  exact hk v av _ G' F'' w' ⟨prod, rfl, hp⟩ h4 h3 hv
theorem ltr {P : Program} {o : Oper} {rs : List (Nat × AV)} {hsR cons : List HA} {post : AV → List HA → Prop} (h : LT P o rs cons post) : LTr P o rs hsR cons post := h.frame
theorem ltr_rd {P : Program} {o : Oper} {rs : List (Nat × AV)} {hsR : List HA} {av : AV} {h : HA} {f : HA → List HA} (hl : LT P o rs [h] (Is av [h])) (hat : At hsR h f) : LTr P o rs hsR [] (Is av []) := by
  refine ⟨?_⟩
  intro F n hF a w G Fp K Q hR hI hk
  obtain ⟨rest, hs⟩ := hat.sel
  have hI' : Inv G Fp ([h] ++ rest) w := ⟨hI.gin, hI.nd, hI.own, (hs h _ _ _).1 (by rw [hat.self]; exact hI.hs)⟩
  obtain ⟨F1, h1, h2⟩ := Inv.frame hI'
  refine hl.go F n hF a w G F1 K Q hR h1 fun v av' prod G' F' w' ⟨e1, e2⟩ hfr hi hv => ?_
  subst e1 e2
  obtain ⟨F'', h3, h4⟩ := h2 hfr hi
  refine hk v _ hsR G' F'' w' ⟨[], rfl, rfl, rfl⟩ h4 ⟨h3.gin, h3.nd, h3.own, ?_⟩ hv
  have := (hs h G' F'' w').2 h3.hs
  rwa [hat.self] at this
/-- Whether a number is among these. -/
def memN : List Nat → Nat → Bool
  | [], _ => false
  | d :: ds, i => bif Nat.beq d i then true else memN ds i
theorem memN_iff : ∀ {ds : List Nat} {i : Nat}, memN ds i = ds.elem i
  | [], _ => rfl
  | d :: ds, i => by
    unfold memN
    rw [List.elem_cons, memN_iff (ds := ds)]
    cases h : Nat.beq d i with
    | true => obtain rfl := Nat.eq_of_beq_eq_true h; simp
    | false =>
      have : d ≠ i := fun e => by subst e; rw [Nat.beq_refl] at h; cases h
      have h2 : (i == d) = false := by simpa using Ne.symm this
      rw [h2]; rfl
/-- Registers but these, written out. -/
inductive Flt (ds : List Nat) : List (Nat × AV) → List (Nat × AV) → Prop
  | nil : Flt ds [] []
  | keep {j : Nat} {av : AV} {t t' : List (Nat × AV)} (h : memN ds j = false) (k : Flt ds t t') : Flt ds ((j, av) :: t) ((j, av) :: t')
  | drop {j : Nat} {av : AV} {t t' : List (Nat × AV)} (h : memN ds j = true) (k : Flt ds t t') : Flt ds ((j, av) :: t) t'
theorem Flt.eq {ds : List Nat} {rs rsB : List (Nat × AV)} (h : Flt ds rs rsB) : rmR ds rs = rsB := by
  induction h with
  | nil => rfl
  | keep h k ih => rw [memN_iff] at h; unfold rmR; rw [h, ih]; rfl
  | drop h k ih => rw [memN_iff] at h; unfold rmR; rw [h, ih]; rfl
def nthN : List Nat → Nat → Nat
  | [], _ => 0
  | d :: _, 0 => d
  | _ :: ds, i + 1 => nthN ds i
def regsD (ds : List Nat) (sp : List Sp) (vs : Nat → Value) : List Nat → List (Nat × AV) → List (Nat × AV)
  | [], rsB => rsB
  | j :: l, rsB => (nthN ds j, (sp[j]?.getD default).out.reg (vs j)) :: regsD ds sp vs l rsB
theorem nthN_map {f : Nat → Nat} : ∀ (l : List Nat) (j : Nat) (h : j < l.length), nthN (l.map f) j = f l[j]
  | _ :: _, 0, _ => rfl
  | _ :: l, j + 1, h => nthN_map l j (by simpa using h)
theorem regsD_eq {ops : Array Oper} {m : Nat} {sp : List Sp} {vs : Nat → Value} {rsB : List (Nat × AV)} : ∀ {l : List Nat}, (∀ j ∈ l, j < m) → regsD ((List.range m).map (dstN ops)) sp vs l rsB = regsI ops sp vs l rsB
  | [], _ => rfl
  | j :: l, h => by
    have hj := h j (by simp)
    simp only [regsD, regsI]
    rw [regsD_eq fun k hk => h k (by simp [hk]), nthN_map _ j (by simpa using hj), List.getElem_range]
/-- The operations one by one, each with what is known of those before it. -/
def Run (P : Program) (ops : Array Oper) (ds : List Nat) (hs0 hsR : List HA) (rsB : List (Nat × AV)) (K : List Sp → Prop) : List Sp → List Oper → Prop
  | acc, [] => K acc
  | acc, o :: l => ∃ s : Sp, (∀ vs, LTg P ops o (regsD ds acc vs s.deps rsB) (s.rd.flatMap (cont acc hs0 vs) ++ hsR) (s.cons.flatMap (cont acc hs0 vs)) (s.out.post vs)) ∧ Run P ops ds hs0 hsR rsB K (acc ++ [s]) l
/-- One more at the end, written out. -/
inductive App : List Sp → Sp → List Sp → Prop
  | nil {s : Sp} : App [] s [s]
  | cons {x s : Sp} {l l' : List Sp} (k : App l s l') : App (x :: l) s (x :: l')
theorem App.eq {a b : List Sp} {s : Sp} (h : App a s b) : b = a ++ [s] := by
  induction h with
  | nil => rfl
  | cons _ ih => rw [ih]; rfl
theorem Run.pv {P : Program} {ops : Array Oper} {ds : List Nat} {hs0 hsR : List HA} {rsB : List (Nat × AV)} {K : List Sp → Prop} {acc : List Sp} {o : Oper} {l : List Oper} (deps cons : List Nat) {av : AV} (hg : o.guard = none)
    (h : ∀ vs, LTr P o (regsD ds acc vs deps rsB) hsR (cons.flatMap (cont acc hs0 vs)) (Is av [])) {acc' : List Sp} (ha : App acc ⟨deps, cons, .pv av, []⟩ acc') (k : Run P ops ds hs0 hsR rsB K acc' l) : Run P ops ds hs0 hsR rsB K acc (o :: l) := ⟨⟨deps, cons, .pv av, []⟩, fun vs => .inl ⟨hg, h vs⟩, ha.eq ▸ k⟩
theorem Run.tok {P : Program} {ops : Array Oper} {ds : List Nat} {hs0 hsR : List HA} {rsB : List (Nat × AV)} {K : List Sp → Prop} {acc : List Sp} {o : Oper} {l : List Oper} (deps cons : List Nat) {prod : Value → List HA} (hg : o.guard = none)
    (h : ∀ vs, LTr P o (regsD ds acc vs deps rsB) hsR (cons.flatMap (cont acc hs0 vs)) (fun x y => ∃ u, x = .val u ∧ y = prod u)) {acc' : List Sp} (ha : App acc ⟨deps, cons, .tok prod, []⟩ acc') (k : Run P ops ds hs0 hsR rsB K acc' l) : Run P ops ds hs0 hsR rsB K acc (o :: l) := ⟨⟨deps, cons, .tok prod, []⟩, fun vs => .inl ⟨hg, h vs⟩, ha.eq ▸ k⟩
theorem Run.noU {P : Program} {ops : Array Oper} {ds : List Nat} {hs0 hsR : List HA} {rsB : List (Nat × AV)} {K : List Sp → Prop} {acc : List Sp} {o : Oper} {l : List Oper} (deps cons : List Nat) {j dj : Nat} {b : Bool} (hg : o.guard = some (j, b)) (hj : gdst ops j = some dj) (hl : ∀ vs, look (regsD ds acc vs deps rsB) dj = some (.val undef))
    {acc' : List Sp} (ha : App acc ⟨deps, [], .pv (.val undef), []⟩ acc') (k : Run P ops ds hs0 hsR rsB K acc' l) : Run P ops ds hs0 hsR rsB K acc (o :: l) := ⟨⟨deps, [], .pv (.val undef), []⟩, fun vs => .inr (.inr ⟨j, b, dj, hg, hj, hl vs, rfl, rfl, rfl⟩), ha.eq ▸ k⟩
/-- A store, on what an earlier operation of the region laid. -/
theorem Run.fx {P : Program} {ops : Array Oper} {ds : List Nat} {hs0 hsR : List HA} {rsB : List (Nat × AV)} {K : List Sp → Prop} {acc : List Sp} {o : Oper} {l : List Oper} (deps cons : List Nat) (j : Nat) (h : Value → List HA) (hg : o.guard = none)
    (hl : ∀ vs, LTr P o (regsD ds acc vs deps rsB) hsR (cons.flatMap (cont acc hs0 vs)) (fun _ y => y = h (vs j))) {acc' : List Sp} (ha : App acc ⟨deps, cons, .fx j h, []⟩ acc') (k : Run P ops ds hs0 hsR rsB K acc' l) : Run P ops ds hs0 hsR rsB K acc (o :: l) := ⟨⟨deps, cons, .fx j h, []⟩, fun vs => .inl ⟨hg, hl vs⟩, ha.eq ▸ k⟩
theorem LT.fx {P : Program} {o : Oper} {rs : List (Nat × AV)} {cons prod q : List HA} (k : LT P o rs cons (Is (.val undef) prod)) (h : prod = q) : LT P o rs cons (fun _ y => y = q) := ⟨fun F n hF a w G Fp K Q hR hI hk => k.go F n hF a w G Fp K Q hR hI fun v av prod' G' F' w' hp => hk v av prod' G' F' w' (hp.2.trans h)⟩
/-- An operation that reads what was owned before, which others may take after it. -/
theorem Run.rd {P : Program} {ops : Array Oper} {ds : List Nat} {hs0 hsR : List HA} {rsB : List (Nat × AV)} {K : List Sp → Prop} {acc : List Sp} {o : Oper} {l : List Oper} (deps cons rd : List Nat) {av : AV} (hg : o.guard = none)
    (h : ∀ vs, LTr P o (regsD ds acc vs deps rsB) (rd.flatMap (cont acc hs0 vs) ++ hsR) (cons.flatMap (cont acc hs0 vs)) (Is av [])) {acc' : List Sp} (ha : App acc ⟨deps, cons, .pv av, rd⟩ acc') (k : Run P ops ds hs0 hsR rsB K acc' l) : Run P ops ds hs0 hsR rsB K acc (o :: l) := ⟨⟨deps, cons, .pv av, rd⟩, fun vs => .inl ⟨hg, h vs⟩, ha.eq ▸ k⟩
/-- A guarded operation, its guard known. -/
theorem Run.yes {P : Program} {ops : Array Oper} {ds : List Nat} {hs0 hsR : List HA} {rsB : List (Nat × AV)} {K : List Sp → Prop} {acc : List Sp} {o : Oper} {l : List Oper} (deps cons : List Nat) {av : AV} {j dj : Nat} {b : Bool} (hg : o.guard = some (j, b)) (hj : gdst ops j = some dj) (hl : ∀ vs, look (regsD ds acc vs deps rsB) dj = some (.val (.bool b)))
    (h : ∀ vs, LTr P o (regsD ds acc vs deps rsB) hsR (cons.flatMap (cont acc hs0 vs)) (Is av [])) {acc' : List Sp} (ha : App acc ⟨deps, cons, .pv av, []⟩ acc') (k : Run P ops ds hs0 hsR rsB K acc' l) : Run P ops ds hs0 hsR rsB K acc (o :: l) := ⟨⟨deps, cons, .pv av, []⟩, fun vs => .inr (.inl ⟨j, b, dj, b, hg, hj, hl vs, .inl ⟨rfl, h vs⟩⟩), ha.eq ▸ k⟩
theorem Run.no {P : Program} {ops : Array Oper} {ds : List Nat} {hs0 hsR : List HA} {rsB : List (Nat × AV)} {K : List Sp → Prop} {acc : List Sp} {o : Oper} {l : List Oper} (deps cons : List Nat) {j dj : Nat} {b bv : Bool} (hg : o.guard = some (j, b)) (hj : gdst ops j = some dj) (hl : ∀ vs, look (regsD ds acc vs deps rsB) dj = some (.val (.bool bv))) (hb : (bv == b) = false)
    {acc' : List Sp} (ha : App acc ⟨deps, [], .pv (.val undef), []⟩ acc') (k : Run P ops ds hs0 hsR rsB K acc' l) : Run P ops ds hs0 hsR rsB K acc (o :: l) := ⟨⟨deps, [], .pv (.val undef), []⟩, fun vs => .inr (.inl ⟨j, b, dj, bv, hg, hj, hl vs, .inr ⟨fun e => (by subst e; simp at hb), rfl, rfl, rfl⟩⟩), ha.eq ▸ k⟩
theorem Run.done {P : Program} {ops : Array Oper} {ds : List Nat} {hs0 hsR : List HA} {rsB : List (Nat × AV)} {K : List Sp → Prop} : ∀ {l : List Oper} {acc : List Sp}, Run P ops ds hs0 hsR rsB K acc l →
    ∃ sp, sp.length = acc.length + l.length ∧ sp.take acc.length = acc ∧ K sp ∧ ∀ i o s, acc.length ≤ i → l[i - acc.length]? = some o → sp[i]? = some s → ∀ vs, LTg P ops o (regsD ds (sp.take i) vs s.deps rsB) (s.rd.flatMap (cont (sp.take i) hs0 vs) ++ hsR) (s.cons.flatMap (cont (sp.take i) hs0 vs)) (s.out.post vs)
  | [], acc, h => ⟨acc, by simp, by simp, h, fun i o s _ e => by simp at e⟩
  | o :: l, acc, ⟨s, h1, h2⟩ => by
    obtain ⟨sp, e1, e2, hk, h3⟩ := Run.done h2
    simp only [List.length_append, List.length_singleton] at e1 e2 h3
    have e3 : sp.take acc.length = acc := by
      have := congrArg (List.take acc.length) e2
      rw [List.take_take, Nat.min_eq_left (by omega)] at this
      rw [this]; simp
    refine ⟨sp, by rw [e1, List.length_cons]; omega, e3, hk, fun i o' s' hi ho hs => ?_⟩
    by_cases hia : i = acc.length
    · subst hia
      simp at ho
      subst ho
      have : sp[acc.length]? = some s := by
        have h4 : (sp.take (acc.length + 1))[acc.length]? = some s := by rw [e2]; simp
        rw [List.getElem?_take, if_pos (by omega)] at h4
        exact h4
      rw [this] at hs
      obtain rfl := Option.some.inj hs
      rw [e3]; exact h1
    · refine h3 i o' s' (by omega) ?_ hs
      rw [show i - acc.length = (i - (acc.length + 1)) + 1 by omega, List.getElem?_cons_succ] at ho
      exact ho
theorem ancP_lt {ops : Array Oper} {m : Nat} (hops : ∀ i o, i < m → ops[i]? = some o → ∀ e ∈ o.after, Region.binds .any e = true → e.on < i) : ∀ (f i j : Nat), i < m → ancP ops f i j = true → j < i
  | 0, _, _, _, h => by cases h
  | f + 1, i, j, hi, h => by
    unfold ancP waits at h
    cases ho : ops[i]? with
    | none => simp [ho] at h
    | some o =>
      simp only [ho, Bool.or_eq_true] at h
      rcases h with h | h
      · obtain ⟨e, he, h2⟩ := Array.any_eq_true'.1 h
        simp only [Bool.and_eq_true, beq_iff_eq] at h2
        rw [← h2.2]; exact hops i o hi ho e he h2.1
      · rw [List.any_eq_true] at h
        obtain ⟨e, he, h2⟩ := h
        simp only [Bool.and_eq_true] at h2
        have h3 := hops i o hi ho e (Array.mem_toList_iff.1 he) h2.2.1
        exact Nat.lt_trans (ancP_lt hops f e.on j (by omega) h2.2.2) h3
theorem regsI_take {ops : Array Oper} {sp : List Sp} {i : Nat} {vs : Nat → Value} {rsB : List (Nat × AV)} : ∀ {l : List Nat}, (∀ j ∈ l, j < i) → regsI ops (sp.take i) vs l rsB = regsI ops sp vs l rsB
  | [], _ => rfl
  | j :: l, h => by
    simp only [regsI]
    rw [regsI_take fun k hk => h k (by simp [hk]), List.getElem?_take, if_pos (h j (by simp))]
/-- A region that draws its order. -/
theorem W_run {c : Cx} {hs0 hsR : List HA} {Q : Exit → S → Prop} {id : Nat} {l : List Oper} {rs : List (Nat × AV)} {hs : List HA} {rsB : List (Nat × AV)} (m : Nat) (ds ft : List Nat) (hcut : Cut hs hs0 hsR) (hds : (List.range m).map (dstN l.toArray) = ds) (hflt : Flt ds rs rsB) (hm : c.P.follows .mixedOrders = true) (hto : tailOK l.toArray m = true)
    (hd : ((List.range m).all fun j => okD ((l.toArray[j]?).bind (·.dst)) c.nt) = true)
    (h : Run c.P l.toArray ds hs0 hsR rsB (fun sp => (anyOK l.toArray m sp hs0.length = true ∧ finalT m hs0.length sp = ft) ∧ ∀ vs, WL c l.toArray (l.drop m) ⟨regsD ds sp vs (List.range m) rsB, ft.flatMap (cont sp hs0 vs) ++ hsR⟩ Q) [] (l.take m)) : W c (.region id l.toArray true) ⟨rs, hs⟩ Q := by
  subst hds
  obtain rfl := hflt.eq
  obtain ⟨sp, e1, _, ⟨⟨hok, hft⟩, k⟩, h3⟩ := h.done
  subst hft
  have hok' := hok
  unfold anyOK at hok'
  simp only [Bool.and_eq_true, decide_eq_true_eq] at hok'
  obtain ⟨⟨⟨⟨⟨hsp, hmz⟩, hm2⟩, hops⟩, htl⟩, hrdOK⟩ := hok'
  have hall := fun i (hi : i < m) => List.all_eq_true.1 hops i (List.mem_range.2 hi)
  simp only [Bool.and_eq_true, decide_eq_true_eq] at hall
  have hback : ∀ i o, i < m → l.toArray[i]? = some o → ∀ e ∈ o.after, Region.binds .any e = true → e.on < i := fun i o hi ho e he hb => by
    have := (hall i hi).1.1.1.1
    rw [ho] at this
    simp only [Bool.and_eq_true, List.all_eq_true, Bool.or_eq_true, Bool.not_eq_true', decide_eq_true_eq] at this
    rcases this.2 e (Array.mem_toList_iff.2 he) with h | h
    · rw [hb] at h; cases h
    · exact h
  refine W_any m sp hcut hm hok hto hd ?_ (fun vs => by rw [← regsD_eq fun j hj => List.mem_range.1 hj]; exact k vs)
  have key : ∀ (n i : Nat) (l' : List Oper) (sp' : List Sp), i + n = m → l.drop i = l' → sp.drop i = sp' → Lts c.P l.toArray sp hs0 hsR (rmR ((List.range m).map (dstN l.toArray)) rs) l' sp' := by
    intro n
    induction n with
    | zero =>
      intro i l' sp' hi hl hs
      have : sp' = [] := by rw [← hs]; exact List.drop_of_length_le (by omega)
      subst this
      cases l' <;> exact trivial
    | succ n ih =>
      intro i l' sp' hi hl hs
      have hil : i < l.length := by have : l.toArray.size = l.length := by simp
                                    omega
      have his : i < sp.length := by omega
      rw [List.drop_eq_getElem_cons hil] at hl
      rw [List.drop_eq_getElem_cons his] at hs
      subst hl hs
      refine ⟨fun vs => ?_, ih (i + 1) _ _ (by omega) rfl rfl⟩
      have h4 := h3 i l[i] sp[i] (Nat.zero_le _) (by simp only [List.length_nil, Nat.sub_zero, List.getElem?_take]; rw [if_pos (by omega)]; exact List.getElem?_eq_getElem hil) (List.getElem?_eq_getElem his) vs
      have him : i < m := by omega
      have hsi : sp[i]?.getD default = sp[i] := by rw [List.getElem?_eq_getElem his]; rfl
      have hdeps := (hall i him).1.1.1.2
      have hcons := (hall i him).1.1.2
      rw [hsi] at hdeps hcons
      have q1 : ∀ j ∈ sp[i].deps, j < i := fun j hj => by
        have := List.all_eq_true.1 hdeps j hj
        simp only [Bool.and_eq_true, decide_eq_true_eq] at this
        exact ancP_lt hback 8 i j him this.2
      have q2 : ∀ t ∈ sp[i].cons, cont (sp.take i) hs0 vs t = cont sp hs0 vs t := fun t ht => by
        have := List.all_eq_true.1 hcons t ht
        simp only [Bool.or_eq_true, Bool.and_eq_true, decide_eq_true_eq] at this
        unfold cont
        rcases this with h5 | h5
        · rw [show Nat.ble 1000 t = true by rw [Nat.ble_eq]; exact h5.1]; rfl
        · have hti := ancP_lt hback 8 i t him h5.2
          rw [List.getElem?_take, if_pos hti]
      have q3 : ∀ t ∈ sp[i].rd, cont (sp.take i) hs0 vs t = cont sp hs0 vs t := fun t ht => by
        have := List.all_eq_true.1 hrdOK i (List.mem_range.2 him)
        rw [hsi] at this
        simp only [Bool.and_eq_true, decide_eq_true_eq, List.all_eq_true] at this
        have h5 := (this.2 t ht).1.1.1
        unfold cont
        rw [show Nat.ble 1000 t = true by rw [Nat.ble_eq]; exact h5]; rfl
      rw [regsD_eq fun j hj => Nat.lt_trans (q1 j hj) him, regsI_take q1, flatMap_same _ q2, flatMap_same _ q3] at h4
      exact h4
  exact key m 0 _ _ (by omega) (by simp) (by simp)
section
variable {P : Program} {rs : List (Nat × AV)} {hsR : List HA} {d : Option Nat} {ty : TypeId} {pos : String} {af : Array Edge} {g : Option (Nat × Bool)} {x : Operand} {t tb : TypeId} {p : Value} {j : Nat} {cs : List AV} {f : HA → List HA}
theorem ltr_load1 {av : AV} (hx : Pt rs x p j) (hat : At hsR (.box p cs tb) f) (hc : cs[j]? = some av) [Ty1 P t] : LTr P ⟨d, .load t x, ty, pos, af, g⟩ rs hsR [] (Is av []) := ltr_rd (lt_load1 hx hc) hat
theorem ltr_loadN {n : Nat} (hx : Pt rs x p 0) (hat : At hsR (.box p cs tb) f) [TyN P t n] (hc : cs.length = n) : LTr P ⟨d, .load t x, ty, pos, af, g⟩ rs hsR [] (Is (.agg cs) []) := ltr_rd (lt_loadN hx hc) hat
theorem ltr_field {fd off : Nat} (hx : opv rs x = some (.val p)) (hat : At hsR (.box p cs tb) f) [TyF P t fd off] : LTr P ⟨d, .fieldAddr t x fd, ty, pos, af, g⟩ rs hsR [] (Is (.at p off) []) := ltr_rd (lt_fieldVal hx) hat
end
end Go.Proofs.YtbkellknlcageaaDoor.Sw
