/- Proofs for the seat's cards: SwAny, App, SwOps2, SwOps3, SwR, SwF, Ty, Pmap. No condition of its own. -/
import Derived.Maps.AppendAt
import Derived.Deep.AppendLies
import Derived.OwnWalk
import Derived.LoopNIn
import Derived.Test.YthddoikmgpgakaaDoorProg
import Derived.Outline
import Derived.RangeFuncNested
import Derived.Shelf.Abstract
import Derived.Deep.QuietTactic
import Derived.BigQuiet
import Derived.Deep.RegionHeld3
import Derived.WalkSmall
import Derived.Laws.EntriesVeiled
import Derived.DeepKeys4
import Derived.Maps.OwnIn
import Derived.Test.YthddoikmgpgakaaDoorNa1
set_option linter.unusedVariables false
set_option linter.unusedSimpArgs false
set_option maxRecDepth 40000
set_option maxHeartbeats 32000000
namespace Go.Proofs.YthddoikmgpgakaaDoor.Sw
open Go.RowKit Go
theorem hsP.permL {G : Nat → Option Obj} {w : World} {hs ks : List HA} (p : hs.Perm ks) : ∀ {F : List Nat}, hsP hs G F w → hsP ks G F w := by
 induction p with
 | nil => exact fun h => h
 | cons x p ih => exact fun ⟨F1, F2, e, h1, h2⟩ => ⟨F1, F2, e, h1, ih h2⟩
 | swap x y l =>
  rintro F ⟨F1, F2, e, h1, F3, F4, e2, h3, h4⟩
  exact ⟨F3, F1 ++ F4, e.trans ((e2.append_left F1).trans (by rw [← List.append_assoc, ← List.append_assoc]; exact List.perm_append_comm.append_right F4)), h3, F1, F4, .refl _, h1, h4⟩
 | trans p q ih1 ih2 => exact fun h => ih2 (ih1 h)
inductive Out where
 | pv (av : AV)
 | tok (prod : Value → List HA)
 | fx (j : Nat) (h : Value → List HA)
 | tk (r : Value → AV) (prod : Value → List HA)
 | fy (j k : Nat) (h : Value → Value → List HA)
def AV.any : AV := ⟨fun _ _ => True, fun _ h => h⟩
def AV.both (av : AV) (u : Value) : AV := ⟨fun G v => v = u ∧ av.P G v, fun h k => ⟨k.1, av.mono h k.2⟩⟩
def Out.post : Out → (Nat → Value) → AV → List HA → Prop
 | .pv av, _ => Is av []
 | .tok prod, _ => fun x y => ∃ u, x = .val u ∧ y = prod u
 | .fx j h, vs => fun _ y => y = h (vs j)
 | .tk r prod, _ => fun x y => ∃ u, x = .both (r u) u ∧ y = prod u
 | .fy j k h, vs => fun _ y => y = h (vs j) (vs k)
def Out.reg : Out → Value → AV
 | .pv av, _ => av
 | .tok _, v => .val v
 | .fx _ _, _ => .any
 | .tk r _, v => .both (r v) v
 | .fy _ _ _, _ => .any
def Out.prod : Out → (Nat → Value) → Nat → List HA
 | .pv _, _, _ => []
 | .tok prod, vs, t => prod (vs t)
 | .fx j h, vs, _ => h (vs j)
 | .tk _ prod, vs, t => prod (vs t)
 | .fy j k h, vs, _ => h (vs j) (vs k)
structure Sp where
 deps : List Nat
 cons : List Nat
 out : Out
 rd : List Nat
instance : Inhabited Sp := ⟨⟨[], [], .tok fun _ => [], []⟩⟩
def dstN (ops : Array Oper) (j : Nat) : Nat := ((ops[j]?).bind (·.dst)).getD (1000000 + j)
def rmR (ds : List Nat) : List (Nat × AV) → List (Nat × AV)
 | [] => []
 | (j, av) :: t => bif ds.elem j then rmR ds t else (j, av) :: rmR ds t
theorem rmR_look {ds : List Nat} : ∀ {rs : List (Nat × AV)} {i : Nat} {av : AV}, look (rmR ds rs) i = some av → look rs i = some av ∧ i ∉ ds
 | [], _, _, e => by simp [rmR, look] at e
 | (j, x) :: t, i, av, e => by
  unfold rmR at e
  cases hc : ds.elem j with
  | true =>
   rw [hc] at e
   obtain ⟨h1, h2⟩ := rmR_look (rs := t) (by simpa using e)
   refine ⟨?_, h2⟩
   have hne : Nat.beq j i = false := by
    cases hb : Nat.beq j i with
    | false => rfl
    | true => obtain rfl := Nat.eq_of_beq_eq_true hb; exact absurd (by simpa using hc) h2
   simp only [look, hne, cond_false]; exact h1
  | false =>
   rw [hc] at e
   simp only [cond_false, look] at e ⊢
   cases hb : Nat.beq j i with
   | true =>
    rw [hb] at e
    obtain rfl := Nat.eq_of_beq_eq_true hb
    simp only [cond_true] at e ⊢
    exact ⟨e, by simpa using hc⟩
   | false =>
    rw [hb] at e
    obtain ⟨h1, h2⟩ := rmR_look (rs := t) (by simpa using e)
    exact ⟨by simpa using h1, h2⟩
section
variable (ops : Array Oper) (m : Nat) (sp : List Sp) (hs0 : List HA)
def cont (vs : Nat → Value) (t : Nat) : List HA := bif Nat.ble 1000 t then (hs0[t - 1000]?).toList else (sp[t]?.getD default).out.prod vs t
def regsI (vs : Nat → Value) (l : List Nat) (rsB : List (Nat × AV)) : List (Nat × AV) :=
 match l with
 | [] => rsB
 | j :: l => (dstN ops j, (sp[j]?.getD default).out.reg (vs j)) :: regsI vs l rsB
def anyOK (r : Nat) : Bool :=
 decide (sp.length = m) && decide (m ≤ ops.size) && decide (m ≤ 1000) &&
 ((List.range m).all fun i =>
   (match ops[i]? with | some o => (match (sp[i]?.getD default).out with | .fx j _ => decide (j < m) && ancP ops 8 i j | .fy j k _ => (decide (j < m) && ancP ops 8 i j) && (decide (k < m) && ancP ops 8 i k) | _ => o.dst.isSome) && o.after.toList.all (fun e => !Region.binds .any e || decide (e.on < i)) | none => false) &&
   ((sp[i]?.getD default).deps.all fun j => decide (j < m) && ancP ops 8 i j) &&
   ((sp[i]?.getD default).cons.all fun t => (decide (1000 ≤ t) && decide (t < 1000 + r)) || (decide (t < m) && ancP ops 8 i t)) &&
   decide ((sp[i]?.getD default).cons.Nodup) &&
   ((List.range m).all fun k => decide (i = k) || (!decide (dstN ops i = dstN ops k) && (sp[i]?.getD default).cons.all fun t => !(sp[k]?.getD default).cons.contains t))) &&
 ((List.range ops.size).all fun i => decide (i < m) || ((List.range m).all fun j => ancP ops 8 i j)) &&
 ((List.range m).all fun i => decide ((sp[i]?.getD default).rd.Nodup) && (sp[i]?.getD default).rd.all fun t => decide (1000 ≤ t) && decide (t < 1000 + r) && !(sp[i]?.getD default).cons.contains t && ((List.range m).all fun k => !(sp[k]?.getD default).cons.contains t || ancP ops 8 k i))
def pref (k n : Nat) : Array Bool := (Array.range n).map fun i => decide (i < k)
def tailOK : Bool := (List.range ops.size).all fun k => decide (k < m) || decide (Region.ready .any ops (pref k ops.size) = [k])
end
section
variable {c : Cx} {ops : Array Oper} {m : Nat} {sp : List Sp} {hs0 hsR : List HA} {rsB : List (Nat × AV)} {Q : Exit → S → Prop}
def Pres (sp : List Sp) (m r : Nat) (D : Array Bool) (t : Nat) : Prop := ((1000 ≤ t ∧ t < 1000 + r) ∨ (t < m ∧ D.getD t false = true)) ∧ ∀ i, i < m → D.getD i false = true → t ∉ (sp[i]?.getD default).cons
def vsOf (ops : Array Oper) (a : Act) (j : Nat) : Value := a.tmps.getD (dstN ops j) undef
def LTr (P : Program) (o : Oper) (rs : List (Nat × AV)) (hsR cons : List HA) (post : AV → List HA → Prop) : Prop := LT P o rs (cons ++ hsR) (fun x y => ∃ y', y = y' ++ hsR ∧ post x y')
def LTg (P : Program) (ops : Array Oper) (o : Oper) (rs : List (Nat × AV)) (hsR cons : List HA) (post : AV → List HA → Prop) : Prop :=
 (o.guard = none ∧ LTr P o rs hsR cons post) ∨ (∃ j b dj bv, o.guard = some (j, b) ∧ gdst ops j = some dj ∧ look rs dj = some (.val (.bool bv)) ∧ ((bv = b ∧ LTr P o rs hsR cons post) ∨ (bv ≠ b ∧ cons = [] ∧ post (.val undef) [])))
 ∨ ∃ j b dj, o.guard = some (j, b) ∧ gdst ops j = some dj ∧ look rs dj = some (.val undef) ∧ cons = [] ∧ post (.val undef) []
theorem yielded_of' {rs : List (Nat × AV)} {ops : Array Oper} {a : Act} {G : Nat → Option Obj} (hR : RegOK rs G a) {j dj : Nat} {b : Bool} (hj : gdst ops j = some dj) (hl : look rs dj = some (.val (.bool b))) : yielded ops a.tmps j = some b := by
 have h1 : a.tmps.getD dj undef = .bool b := hR _ _ hl
 unfold gdst at hj
 have h2 : a.tmps[dj]? = some (.bool b) := by
  rw [Array.getD_eq_getD_getElem?] at h1
  cases h : a.tmps[dj]? with
  | none => rw [h] at h1; simp [undef] at h1
  | some v => rw [h] at h1; exact congrArg some h1
 simp [yielded, hj, h2]
theorem yielded_un {rs : List (Nat × AV)} {ops : Array Oper} {a : Act} {G : Nat → Option Obj} (hR : RegOK rs G a) {j dj : Nat} (hj : gdst ops j = some dj) (hl : look rs dj = some (.val undef)) : yielded ops a.tmps j = none := by
 have h1 : a.tmps.getD dj undef = undef := hR _ _ hl
 unfold gdst at hj
 rw [Array.getD_eq_getD_getElem?] at h1
 cases h : a.tmps[dj]? with
 | none => simp [yielded, hj, h]
 | some v => rw [h] at h1; simp at h1; subst h1; simp [yielded, hj, h, undef]
def Rel (c : Cx) (ops : Array Oper) (m : Nat) (sp : List Sp) (hs0 hsR : List HA) (rsB : List (Nat × AV)) (D : Array Bool) (a : Act) (w : World) : Prop :=
 ∃ (G : Nat → Option Obj) (F : List Nat) (ts : List Nat), ts.Nodup ∧ (∀ t, t ∈ ts ↔ Pres sp m hs0.length D t) ∧ Inv G F (ts.flatMap (cont sp hs0 (vsOf ops a)) ++ hsR) w ∧ Fr c.w0 w c.F0 F c.G0 G ∧ RegOK rsB G a ∧ a.tmps.size = c.nt ∧ Mk c G F w a.defers ∧
  ∀ j, j < m → D.getD j false = true → ((sp[j]?.getD default).out.reg (vsOf ops a j)).P G (vsOf ops a j)
theorem perm_cut {ts ct : List Nat} (h1 : ts.Nodup) (h2 : ct.Nodup) (h3 : ∀ t ∈ ct, t ∈ ts) : ts.Perm (ct ++ ts.filter fun t => !ct.elem t) := by
 refine List.perm_iff_count.2 fun a => ?_
 rw [List.count_append]
 by_cases hc : a ∈ ct
 ·rw [List.count_eq_zero_of_not_mem (a := a) (l := ts.filter _) (by simp [hc]), h1.count, h2.count, if_pos (h3 a hc), if_pos hc]
 ·rw [List.count_eq_zero_of_not_mem hc, Nat.zero_add]
  by_cases ht : a ∈ ts
  ·have hf : (ts.filter fun t => !ct.elem t).Nodup := List.Pairwise.filter _ h1
   rw [h1.count, if_pos ht, hf.count, if_pos (by simp [ht, hc])]
  ·rw [List.count_eq_zero_of_not_mem ht, List.count_eq_zero_of_not_mem (by simp [ht])]
theorem regsI_ok {a : Act} {G : Nat → Option Obj} (hB : RegOK rsB G a) : ∀ (l : List Nat), (∀ j ∈ l, ((sp[j]?.getD default).out.reg (vsOf ops a j)).P G (vsOf ops a j)) → RegOK (regsI ops sp (vsOf ops a) l rsB) G a
 | [], _ => hB
 | j :: l, h => fun i av e => by
  simp only [regsI, look] at e
  cases hb : Nat.beq (dstN ops j) i with
  | true =>
   rw [hb] at e
   obtain rfl := Nat.eq_of_beq_eq_true hb
   simp only [cond_true, Option.some.injEq] at e
   subst e
   exact h j (by simp)
  | false => rw [hb] at e; exact regsI_ok hB l (fun k hk => h k (by simp [hk])) i av (by simpa using e)
theorem flatMap_same {α β : Type} {f g : α → List β} : ∀ (l : List α), (∀ x ∈ l, f x = g x) → l.flatMap f = l.flatMap g
 | [], _ => rfl
 | x :: l, h => by rw [List.flatMap_cons, List.flatMap_cons, h x (by simp), flatMap_same l fun y hy => h y (by simp [hy])]
theorem rel_step (hok : anyOK ops m sp hs0.length = true) (hB : ∀ i av, look rsB i = some av → ∀ j, j < m → dstN ops j ≠ i) (hd : ∀ j, j < m → okD ((ops[j]?).bind (·.dst)) c.nt = true)
  (hlt : ∀ i o, i < m → ops[i]? = some o → ∀ vs, LTg c.P ops o (regsI ops sp vs (sp[i]?.getD default).deps rsB) ((sp[i]?.getD default).rd.flatMap (cont sp hs0 vs) ++ hsR) ((sp[i]?.getD default).cons.flatMap (cont sp hs0 vs)) ((sp[i]?.getD default).out.post vs))
  {D : Array Bool} {i : Nat} {o : Oper} (hi : i < m) (ho : ops[i]? = some o) (hDi : D.getD i false = false) (hDn : i < D.size) (hcl : ∀ k, D.getD k false = true → ∀ j, ancP ops 8 k j = true → D.getD j false = true) (hanc : ∀ j, ancP ops 8 i j = true → D.getD j false = true) {a : Act} {w : World} (h : Rel c ops m sp hs0 hsR rsB D a w) :
  wpOpIn c.F c.n c.P ops (Post c Q) i (Rel c ops m sp hs0 hsR rsB (D.setIfInBounds i true)) a w := by
 unfold anyOK at hok
 simp only [Bool.and_eq_true, decide_eq_true_eq] at hok
 obtain ⟨⟨⟨⟨⟨hsp, hm⟩, hm2⟩, hops⟩, _⟩, hrdOK⟩ := hok
 have hall := fun k (hk : k < m) => List.all_eq_true.1 hops k (List.mem_range.2 hk)
 simp only [Bool.and_eq_true, decide_eq_true_eq] at hall
 obtain ⟨⟨⟨⟨hg, hdeps⟩, hcons⟩, hnd⟩, hpair⟩ := hall i hi
 simp only [ho, Bool.and_eq_true] at hg
 obtain ⟨hds, _⟩ := hg
 have hdd : (ops[i]?).bind (·.dst) = o.dst := by rw [ho]; rfl
 generalize hdN : dstN ops i = dd
 have hdist : ∀ k, k < m → k ≠ i → dstN ops k ≠ dd ∧ ∀ t ∈ (sp[i]?.getD default).cons, t ∉ (sp[k]?.getD default).cons := fun k hk hne => by
  have := List.all_eq_true.1 hpair k (List.mem_range.2 hk)
  simp only [Bool.or_eq_true, decide_eq_true_eq, Bool.and_eq_true, Bool.not_eq_true', decide_eq_false_iff_not, List.all_eq_true, List.contains_eq_mem] at this
  rcases this with h | ⟨h1, h2⟩
  ·exact absurd h.symm hne
  ·exact ⟨fun e => h1 (hdN.trans e.symm), fun t ht => by simpa using h2 t ht⟩
 obtain ⟨G, F, ts, hnd1, hpr, hI, hF, hR, hsz, hdf, hav⟩ := h
 have hct : ∀ t ∈ (sp[i]?.getD default).cons, t ∈ ts := fun t ht => by
  refine (hpr t).2 ⟨?_, fun k hk hDk hin => ?_⟩
  ·have := List.all_eq_true.1 hcons t ht
   simp only [Bool.or_eq_true, Bool.and_eq_true, decide_eq_true_eq] at this
   rcases this with h | h
   ·exact .inl h
   ·exact .inr ⟨h.1, hanc t h.2⟩
  ·have hne : k ≠ i := fun e => by subst e; rw [hDi] at hDk; cases hDk
   exact (hdist k hk hne).2 t ht hin
 have hperm := perm_cut hnd1 hnd hct
 have hrd := List.all_eq_true.1 hrdOK i (List.mem_range.2 hi)
 simp only [Bool.and_eq_true, decide_eq_true_eq, List.all_eq_true, Bool.not_eq_true', Bool.or_eq_true] at hrd
 obtain ⟨hrdn, hrda⟩ := hrd
 have hrt : ∀ t ∈ (sp[i]?.getD default).rd, t ∈ ts.filter fun t => !(sp[i]?.getD default).cons.elem t := fun t ht => by
  obtain ⟨⟨⟨k1, k2⟩, k3⟩, k4⟩ := hrda t ht
  refine List.mem_filter.2 ⟨(hpr t).2 ⟨.inl ⟨k1, k2⟩, fun k hk hDk hin => ?_⟩, by simpa using k3⟩
  rcases k4 k (List.mem_range.2 hk) with h | h
  ·simp [hin] at h
  ·have := hcl k hDk i h
   rw [hDi] at this; cases this
 have hperm2 := perm_cut (List.Pairwise.filter _ hnd1) hrdn hrt
 generalize hRD : (sp[i]?.getD default).rd.flatMap (cont sp hs0 (vsOf ops a)) = RD
 generalize hR2 : ((ts.filter fun t => !(sp[i]?.getD default).cons.elem t).filter fun t => !(sp[i]?.getD default).rd.elem t) = rest2 at hperm2
 have hp3 : (ts.filter fun t => !(sp[i]?.getD default).cons.elem t).flatMap (cont sp hs0 (vsOf ops a)) |>.Perm (RD ++ rest2.flatMap (cont sp hs0 (vsOf ops a))) := by
  have := hperm2.flatMap_right (cont sp hs0 (vsOf ops a))
  rwa [List.flatMap_append, hRD] at this
 have hI2 : Inv G F (((sp[i]?.getD default).cons.flatMap (cont sp hs0 (vsOf ops a)) ++ (RD ++ hsR)) ++ rest2.flatMap (cont sp hs0 (vsOf ops a))) w :=
  ⟨hI.gin, hI.nd, hI.own, by
   refine hsP.permL ?_ hI.hs
   refine ((hperm.flatMap_right (cont sp hs0 (vsOf ops a))).append_right hsR).trans ?_
   rw [List.flatMap_append, List.append_assoc, List.append_assoc]
   refine List.Perm.append_left _ ((hp3.append_right hsR).trans ?_)
   rw [List.append_assoc, List.append_assoc]
   exact List.Perm.append_left _ List.perm_append_comm⟩
 obtain ⟨F1, hc, hback⟩ := Inv.frame hI2
 have hRI : RegOK (regsI ops sp (vsOf ops a) (sp[i]?.getD default).deps rsB) G a := regsI_ok hR _ fun j hj => by
  have := List.all_eq_true.1 hdeps j hj
  simp only [Bool.and_eq_true, decide_eq_true_eq] at this
  exact hav j this.1 (hanc j this.2)
 have fin : ∀ (v : Value) (av : AV) (prod : List HA) (G' : Nat → Option Obj) (F1' : List Nat) (w' : World), (sp[i]?.getD default).out.post (vsOf ops a) av prod → Fr w w' F1 F1' G G' → Inv G' F1' (prod ++ (RD ++ hsR)) w' → av.P G' v → Rel c ops m sp hs0 hsR rsB (D.setIfInBounds i true) (a.put o.dst v) w' := by
  intro v av prod G' F1' w' hp hfr hi' hv
  obtain ⟨F', hI3, hfr3⟩ := hback hfr hi'
  have hdi := hd i hi
  rw [hdd] at hdi
  have hsm : ∀ {q : Out}, (sp[i]?.getD default).out = q → (match q with | .fx _ _ => True | .fy _ _ _ => True | _ => o.dst.isSome = true) := by
   intro q e
   subst e
   revert hds
   cases (sp[i]?.getD default).out <;> intro h <;> first | trivial | exact h
  have hvi : o.dst.isSome = true → vsOf ops (a.put o.dst v) i = v := fun hsome => by
   obtain ⟨e, he⟩ := Option.isSome_iff_exists.1 hsome
   have hde : dstN ops i = e := by unfold dstN; rw [hdd, he]; rfl
   rw [he] at hdi
   have hlt' : e < a.tmps.size := by rw [hsz]; simpa only [okD, Nat.blt_eq] using hdi
   unfold vsOf; rw [hde, he]; simp [Act.put, Array.getD, hlt']
  have hvk : ∀ k, dstN ops k ≠ dd → vsOf ops (a.put o.dst v) k = vsOf ops a k := fun k hk => by
   cases he : o.dst with
   | none => rfl
   | some e =>
    have hde : dd = e := by rw [← hdN]; unfold dstN; rw [hdd, he]; rfl
    unfold vsOf
    simp only [Act.put, Array.getD_eq_getD_getElem?, Array.getElem?_setIfInBounds, if_neg (show ¬ e = dstN ops k from fun h => hk (by rw [hde, h]))]
  have hjn : ∀ t, t < m → (t = i ∨ D.getD t false = true) → ∀ j h, (sp[t]?.getD default).out = .fx j h → j < m ∧ dstN ops j ≠ dd := fun t ht htd j h e => by
   have h0 := (hall t ht).1.1.1.1
   cases hot : ops[t]? with
   | none => rw [hot] at h0; cases h0
   | some ot =>
    simp only [hot, e, Bool.and_eq_true, decide_eq_true_eq] at h0
    have hj := h0.1.2
    have hDj : D.getD j false = true := by
     rcases htd with rfl | htd
     ·exact hanc j hj
     ·exact hcl t htd j hj
    exact ⟨h0.1.1, (hdist j h0.1.1 (fun e' => by subst e'; rw [hDi] at hDj; cases hDj)).1⟩
  have hjn2 : ∀ t, t < m → (t = i ∨ D.getD t false = true) → ∀ j k h, (sp[t]?.getD default).out = .fy j k h → dstN ops j ≠ dd ∧ dstN ops k ≠ dd := fun t ht htd j k h e => by
   have h0 := (hall t ht).1.1.1.1
   cases hot : ops[t]? with
   | none => rw [hot] at h0; cases h0
   | some ot =>
    simp only [hot, e, Bool.and_eq_true, decide_eq_true_eq] at h0
    have go : ∀ j, j < m → ancP ops 8 t j = true → dstN ops j ≠ dd := fun j hjm hj => by
     have hDj : D.getD j false = true := by
      rcases htd with rfl | htd
      ·exact hanc j hj
      ·exact hcl t htd j hj
     exact (hdist j hjm (fun e' => by subst e'; rw [hDi] at hDj; cases hDj)).1
    exact ⟨go j h0.1.1.1 h0.1.1.2, go k h0.1.2.1 h0.1.2.2⟩
  have hnew : ∀ t, t < m → t ≠ i → D.getD t false = true → cont sp hs0 (vsOf ops (a.put o.dst v)) t = cont sp hs0 (vsOf ops a) t := fun t ht hne htd => by
   unfold cont
   cases e : (sp[t]?.getD default).out with
   | pv x => rfl
   | tok p => simp only [Out.prod]; rw [hvk t (hdist t ht hne).1]
   | tk r p => simp only [Out.prod]; rw [hvk t (hdist t ht hne).1]
   | fx j h => simp only [Out.prod]; rw [hvk j (hjn t ht (.inr htd) j h e).2]
   | fy j k h => simp only [Out.prod]; rw [hvk j (hjn2 t ht (.inr htd) j k h e).1, hvk k (hjn2 t ht (.inr htd) j k h e).2]
  have hbase : ∀ t, 1000 ≤ t → cont sp hs0 (vsOf ops (a.put o.dst v)) t = cont sp hs0 (vsOf ops a) t := fun t ht => by
   unfold cont; rw [show Nat.ble 1000 t = true by rw [Nat.ble_eq]; exact ht]; rfl
  have hits : i ∉ ts := fun hin => by
   rcases ((hpr i).1 hin).1 with h | h
   ·omega
   ·rw [hDi] at h; cases h.2
  have hDs : ∀ k, (D.setIfInBounds i true).getD k false = true ↔ (k = i ∨ D.getD k false = true) := fun k => by
   by_cases hk : k = i
   ·subst hk; simp [Array.getD_eq_getD_getElem?, hDn]
   ·rw [getD_set_ne false (Ne.symm hk)]; simp [hk]
  refine ⟨G', F', i :: ts.filter (fun t => !(sp[i]?.getD default).cons.elem t), List.nodup_cons.2 ⟨fun h => hits (List.mem_filter.1 h).1, List.Pairwise.filter _ hnd1⟩, fun t => ?_, ⟨hI3.gin, hI3.nd, hI3.own, ?_⟩, hF.trans hfr3, ?_, ?_, ?_, fun j hj hDj => ?_⟩
  ·have hno : ∀ k, k < m → (k = i ∨ D.getD k false = true) → i ∉ (sp[k]?.getD default).cons := fun k hk hDk hin => by
    have hck := List.all_eq_true.1 (hall k hk).1.1.2 i hin
    simp only [Bool.or_eq_true, Bool.and_eq_true, decide_eq_true_eq] at hck
    rcases hck with h | h
    ·omega
    ·have : D.getD i false = true := by
      rcases hDk with rfl | hDk
      ·exact hanc _ h.2
      ·exact hcl k hDk _ h.2
     rw [hDi] at this; cases this
   rw [List.mem_cons, List.mem_filter, hpr t]
   constructor
   ·rintro (rfl | ⟨⟨h1, h2⟩, h3⟩)
    ·exact ⟨.inr ⟨hi, (hDs _).2 (.inl rfl)⟩, fun k hk hDk hin => hno k hk ((hDs k).1 hDk) hin⟩
    ·refine ⟨h1.imp id fun h => ⟨h.1, (hDs _).2 (.inr h.2)⟩, fun k hk hDk hin => ?_⟩
     rcases (hDs k).1 hDk with rfl | hDk
     ·simp [hin] at h3
     ·exact h2 k hk hDk hin
   ·rintro ⟨h1, h2⟩
    by_cases hti : t = i
    ·exact .inl hti
    ·refine .inr ⟨⟨h1.imp id fun h => ⟨h.1, ((hDs _).1 h.2).resolve_left hti⟩, fun k hk hDk => h2 k hk ((hDs _).2 (.inr hDk))⟩, ?_⟩
     have := h2 i hi ((hDs _).2 (.inl rfl))
     simpa using this
  ·have e1 : cont sp hs0 (vsOf ops (a.put o.dst v)) i = prod := by
    unfold cont
    rw [show Nat.ble 1000 i = false by rw [← Bool.not_eq_true, Nat.ble_eq]; omega]
    revert hv; revert hp
    cases e : (sp[i]?.getD default).out with
    | pv x => rintro ⟨rfl, rfl⟩ _; rfl
    | tok p =>
     rintro ⟨u, rfl, rfl⟩ hv
     have hv' : v = u := hv
     subst hv'
     simp only [Out.prod, cond_false]
     rw [hvi (hsm e)]
    | tk r p =>
     rintro ⟨u, rfl, rfl⟩ hv
     have hv' : v = u := hv.1
     subst hv'
     simp only [Out.prod, cond_false]
     rw [hvi (hsm e)]
    | fx j h =>
     rintro hp _
     simp only [Out.prod, cond_false]
     rw [hvk j (hjn i hi (.inl rfl) j h e).2]
     exact hp.symm
    | fy j k h =>
     rintro hp _
     simp only [Out.prod, cond_false]
     rw [hvk j (hjn2 i hi (.inl rfl) j k h e).1, hvk k (hjn2 i hi (.inl rfl) j k h e).2]
     exact hp.symm
   have e2 : ((ts.filter fun t => !(sp[i]?.getD default).cons.elem t).flatMap (cont sp hs0 (vsOf ops (a.put o.dst v)))) = ((ts.filter fun t => !(sp[i]?.getD default).cons.elem t).flatMap (cont sp hs0 (vsOf ops a))) := by
    refine flatMap_same _ fun t ht => ?_
    have ht' := (List.mem_filter.1 ht).1
    rcases ((hpr t).1 ht').1 with h | h
    ·exact hbase t h.1
    ·exact hnew t h.1 (fun e => hits (e ▸ ht')) h.2
   rw [List.flatMap_cons, e1, e2, List.append_assoc]
   refine hsP.permL ?_ hI3.hs
   rw [List.append_assoc]
   refine List.Perm.append_left _ ?_
   refine List.Perm.trans ?_ (hp3.symm.append_right hsR)
   rw [List.append_assoc, List.append_assoc]
   exact List.Perm.append_left _ List.perm_append_comm
  ·intro k av' e
   have hk := hR k av' e
   have hne : dd ≠ k := fun e' => hB k av' e i hi (hdN.trans e')
   have : (a.put o.dst v).tmps.getD k undef = a.tmps.getD k undef := by
    cases he : o.dst with
    | none => rfl
    | some e' =>
     have hde : dd = e' := by rw [← hdN]; unfold dstN; rw [hdd, he]; rfl
     simp only [Act.put, Array.getD_eq_getD_getElem?, Array.getElem?_setIfInBounds, if_neg (show ¬ e' = k from fun h => hne (hde.trans h))]
   rw [this]; exact av'.mono hfr3.gle hk
  ·rw [(size_put a _ v).1, hsz]
  ·rw [(size_put a _ v).2]; exact hdf.step hfr3
  ·rcases (hDs j).1 hDj with rfl | hDj2
   ·revert hv; revert hp
    cases e : (sp[j]?.getD default).out with
    | pv x =>
     rintro ⟨rfl, rfl⟩ hv
     rw [hvi (hsm e)]; exact hv
    | tok p =>
     rintro ⟨u, rfl, rfl⟩ hv
     rw [hvi (hsm e)]; exact (show (AV.val v).P G' v from rfl)
    | tk r p =>
     rintro ⟨u, rfl, rfl⟩ hv
     have hv' : v = u := hv.1
     subst hv'
     rw [hvi (hsm e)]; exact hv
    | fx j' h => intro _ _; exact trivial
    | fy j' k' h => intro _ _; exact trivial
   ·by_cases hji : j = i
    ·subst hji; rw [hDi] at hDj2; cases hDj2
    ·rw [hvk j (hdist j hj hji).1]; exact (AV.mono _ hfr3.gle (hav j hj hDj2))
 unfold wpOpIn
 simp only [ho]
 have go : LTr c.P o (regsI ops sp (vsOf ops a) (sp[i]?.getD default).deps rsB) (RD ++ hsR) ((sp[i]?.getD default).cons.flatMap (cont sp hs0 (vsOf ops a))) ((sp[i]?.getD default).out.post (vsOf ops a)) → o.wpIn c.F c.n c.P a w (Rel c ops m sp hs0 hsR rsB (D.setIfInBounds i true)) (Post c Q) := fun h => by
  refine h.go c.F c.n c.wd a w G F1 _ _ hRI hc fun v av prod' G' F1' w' ⟨prod, hpe, hp⟩ hfr hi' hv => ?_
  subst hpe
  exact fin v av prod G' F1' w' hp hfr hi' hv
 have hlti := hlt i o hi ho (vsOf ops a)
 rw [hRD] at hlti
 rcases hlti with ⟨hg, h⟩ | ⟨j, b, dj, bv, hg, hj, hl, h⟩ | ⟨j, b, dj, hg, hj, hl, hcn, hp⟩
 ·rw [if_pos (by simp [Region.wanted, hg])]
  exact go h
 ·have hy := yielded_of' hRI hj hl
  rcases h with ⟨rfl, h⟩ | ⟨hb, hcn, hp⟩
  ·rw [if_pos (by simp [Region.wanted, hg, hy])]
   exact go h
  ·rw [if_neg (by simp [Region.wanted, hg, hy, hb])]
   refine ⟨fun f _ => c.wd.fn f, fin undef (.val undef) [] G F1 w hp (Fr.refl _ _ _) ?_ rfl⟩
   rw [hcn] at hc; exact hc
 ·have hy := yielded_un hRI hj hl
  rw [if_neg (by simp [Region.wanted, hg, hy])]
  refine ⟨fun f _ => c.wd.fn f, fin undef (.val undef) [] G F1 w hp (Fr.refl _ _ _) ?_ rfl⟩
  rw [hcn] at hc; exact hc
theorem pref_getD (k n i : Nat) (d : Bool) (h : i < n) : (pref k n).getD i d = decide (i < k) := by
 unfold pref; simp [Array.getD_eq_getD_getElem?, h]
theorem ready_all (D : Array Bool) (h : ∀ j, j < ops.size → D.getD j true = true) : Region.ready .any ops D = [] := by
 cases hr : Region.ready .any ops D with
 | nil => rfl
 | cons x xs =>
  have hx : x ∈ Region.ready .any ops D := by rw [hr]; simp
  obtain ⟨h1, o, ho, _⟩ := mem_ready.1 hx
  rw [h x (Array.getElem?_eq_some_iff.1 ho).1] at h1
  cases h1
theorem tail_list (hto : tailOK ops m = true) : ∀ (j k : Nat), ops.size ≤ k + j → k ≤ ops.size → m ≤ k → ∀ (a : Act) (w : World), wpListIn c.F c.n c.P ops (Post c Q) (ops.toList.drop k) a w → wpAnyIn c.F c.n c.P .any ops (Post c Q) j (pref k ops.size) a w
 | 0, k, hk, hk2, hm, a, w, h => by
  have hk' : k = ops.size := by omega
  subst hk'
  refine ⟨ready_all _ fun j hj => by rw [pref_getD _ _ _ _ hj]; simpa using hj, ?_⟩
  rw [List.drop_of_length_le (by simp)] at h
  exact h
 | j + 1, k, hk, hk2, hm, a, w, h => by
  by_cases hlt : k < ops.size
  case neg =>
   have hk' : k = ops.size := by omega
   subst hk'
   have hr := ready_all (ops := ops) (pref ops.size ops.size) fun j hj => by rw [pref_getD _ _ _ _ hj]; simpa using hj
   rw [List.drop_of_length_le (by simp)] at h
   exact ⟨fun _ => h, fun i hi => by rw [hr] at hi; cases hi⟩
  have hr : Region.ready .any ops (pref k ops.size) = [k] := by
   have := List.all_eq_true.1 hto k (List.mem_range.2 hlt)
   simp only [Bool.or_eq_true, decide_eq_true_eq] at this
   exact this.resolve_left (by omega)
  refine ⟨fun h0 => (by rw [hr] at h0; cases h0), fun i hi => ?_⟩
  rw [hr, List.mem_singleton] at hi
  subst hi
  have hd : ops.toList.drop i = ops[i] :: ops.toList.drop (i + 1) := by
   rw [List.drop_eq_getElem_cons (by simpa using hlt)]; simp
  rw [hd] at h
  unfold wpListIn at h
  unfold wpOpIn
  simp only [Array.getElem?_eq_getElem hlt]
  have hset : (pref i ops.size).setIfInBounds i true = pref (i + 1) ops.size := by
   refine Array.ext (by simp [pref]) fun x h1 h2 => ?_
   have hx2 : x < ops.size := by simpa [pref] using h2
   have e1 : ((pref i ops.size).setIfInBounds i true).getD x false = ((pref i ops.size).setIfInBounds i true)[x] := by rw [Array.getD_eq_getD_getElem?, Array.getElem?_eq_getElem h1]; rfl
   have e2 : (pref (i + 1) ops.size).getD x false = (pref (i + 1) ops.size)[x] := by simp [Array.getD_eq_getD_getElem?, h2]
   rw [← e1, ← e2, pref_getD _ _ _ _ hx2]
   by_cases hx : i = x
   ·subst hx; simp [Array.getD_eq_getD_getElem?, pref, hlt]
   ·rw [getD_set_ne false hx, pref_getD _ _ _ _ hx2, decide_eq_decide]; omega
  have key : ∀ a w, wpListIn c.F c.n c.P ops (Post c Q) (ops.toList.drop (i + 1)) a w → wpAnyIn c.F c.n c.P .any ops (Post c Q) j ((pref i ops.size).setIfInBounds i true) a w := fun a w h => by
   rw [hset]; exact tail_list hto j (i + 1) (by omega) (by omega) (by omega) a w h
  split
  ·rename_i hw; rw [if_pos hw] at h; exact Oper.wpIn_mono key h
  ·rename_i hw; rw [if_neg hw] at h; exact ⟨h.1, key _ _ h.2⟩
def finalT (m r : Nat) (sp : List Sp) : List Nat := (List.range m ++ (List.range r).map (1000 + ·)).filter fun t => !((List.range m).flatMap fun i => (sp[i]?.getD (default : Sp)).cons).elem t
theorem closed_anc {D : Array Bool} (h : Closed ops D) {k : Nat} (hk : D.getD k false = true) {j : Nat} (hj : ancP ops 8 k j = true) : D.getD j false = true := by
 cases ho : ops[k]? with
 | none =>
  unfold ancP waits at hj
  simp [ho] at hj
 | some o => exact ancP_listed h 8 k o ho (fun e he hb => h k o ho hk e he hb) hj
theorem any_main (hok : anyOK ops m sp hs0.length = true) (hto : tailOK ops m = true) (hB : ∀ i av, look rsB i = some av → ∀ j, j < m → dstN ops j ≠ i) (hd : ∀ j, j < m → okD ((ops[j]?).bind (·.dst)) c.nt = true)
  (hlt' : ∀ i o, i < m → ops[i]? = some o → ∀ vs, LTg c.P ops o (regsI ops sp vs (sp[i]?.getD default).deps rsB) ((sp[i]?.getD default).rd.flatMap (cont sp hs0 vs) ++ hsR) ((sp[i]?.getD default).cons.flatMap (cont sp hs0 vs)) ((sp[i]?.getD default).out.post vs))
  (k : ∀ vs, WL c ops (ops.toList.drop m) ⟨regsI ops sp vs (List.range m) rsB, (finalT m hs0.length sp).flatMap (cont sp hs0 vs) ++ hsR⟩ Q) :
  ∀ (fuel : Nat) (D : Array Bool) (a : Act) (w : World), D.size = ops.size → Closed ops D → (∀ j, D.getD j false = true → j < m) → (ops.size - m) + ((List.range m).filter fun j => !D.getD j false).length ≤ fuel → Rel c ops m sp hs0 hsR rsB D a w → wpAnyIn c.F c.n c.P .any ops (Post c Q) fuel D a w := by
 have hok' := hok
 unfold anyOK at hok'
 simp only [Bool.and_eq_true, decide_eq_true_eq] at hok'
 obtain ⟨⟨⟨⟨⟨hsp, hm⟩, hm2⟩, hops⟩, htl⟩, _⟩ := hok'
 have fin : ∀ (fuel : Nat) (D : Array Bool) (a : Act) (w : World), D.size = ops.size → (∀ j, D.getD j false = true → j < m) → (∀ j, j < m → D.getD j false = true) → ops.size - m ≤ fuel → Rel c ops m sp hs0 hsR rsB D a w → wpAnyIn c.F c.n c.P .any ops (Post c Q) fuel D a w := by
  intro fuel D a w hs hb hall hf hR
  have hD : D = pref m ops.size := by
   refine Array.ext (by simp [pref, hs]) fun x h1 h2 => ?_
   have e1 : D.getD x false = D[x] := by simp [Array.getD_eq_getD_getElem?, h1]
   have e2 : (pref m ops.size)[x] = decide (x < m) := by simp [pref]
   rw [e2, ← e1]
   by_cases hx : x < m
   ·rw [hall x hx]; simp [hx]
   ·have : D.getD x false = false := by
     cases hd : D.getD x false with
     | false => rfl
     | true => exact absurd (hb x hd) hx
    rw [this]; simp [hx]
  obtain ⟨G, F, ts, hnd1, hpr, hI, hF, hR, hsz, hdf, hav⟩ := hR
  rw [hD]
  refine tail_list hto fuel m (by omega) hm (Nat.le_refl _) a w ((k (vsOf ops a)).out a w ⟨G, F, ⟨hI.gin, hI.nd, hI.own, ?_⟩, hF, regsI_ok hR _ fun j hj => hav j (List.mem_range.1 hj) (hall j (List.mem_range.1 hj)), hsz, hdf⟩)
  refine hsP.permL ((List.Perm.flatMap_right _ ?_).append_right _) hI.hs
  have hndf : (finalT m hs0.length sp).Nodup := by
   refine List.Pairwise.filter _ (List.nodup_append.2 ⟨List.nodup_range, ?_, ?_⟩)
   ·exact List.Pairwise.map _ (fun a b h e => h (by omega)) List.nodup_range
   ·intro x hx y hy e
    rw [List.mem_range] at hx
    obtain ⟨z, _, rfl⟩ := List.mem_map.1 hy
    omega
  refine List.perm_iff_count.2 fun x => ?_
  rw [hnd1.count, hndf.count]
  have : x ∈ ts ↔ x ∈ finalT m hs0.length sp := by
   rw [hpr x]
   unfold finalT Pres
   simp only [List.mem_filter, List.mem_append, List.mem_range, List.mem_map, Bool.not_eq_true', List.elem_eq_mem, decide_eq_false_iff_not, List.mem_flatMap, not_exists, not_and]
   constructor
   ·rintro ⟨h1, h2⟩
    refine ⟨?_, fun y hy hin => h2 y hy (hall y hy) hin⟩
    rcases h1 with h | h
    ·exact .inr ⟨x - 1000, by omega, by omega⟩
    ·exact .inl h.1
   ·rintro ⟨h1, h2⟩
    refine ⟨?_, fun y hy _ hin => h2 y hy hin⟩
    rcases h1 with h | ⟨z, hz, rfl⟩
    ·exact .inr ⟨h, hall x h⟩
    ·exact .inl ⟨by omega, by omega⟩
  simp only [this]
 intro fuel
 induction fuel with
 | zero =>
  intro D a w hs hc hb hf hR
  refine fin 0 D a w hs hb (fun j hj => ?_) (by omega) hR
  cases hd : D.getD j false with
  | true => rfl
  | false =>
   have : j ∈ (List.range m).filter fun j => !D.getD j false := List.mem_filter.2 ⟨List.mem_range.2 hj, by simp [hd]⟩
   have := List.length_pos_of_mem this
   omega
 | succ fuel ih =>
  intro D a w hs hc hb hf hR
  by_cases hall : ∀ j, j < m → D.getD j false = true
  ·exact fin _ D a w hs hb hall (by omega) hR
  ·have hrm : ∀ i ∈ Region.ready .any ops D, i < m := fun i hi => by
    obtain ⟨h1, o, ho, h2⟩ := mem_ready.1 hi
    have hlt := (Array.getElem?_eq_some_iff.1 ho).1
    by_cases him : i < m
    ·exact him
    ·exfalso
     refine hall fun j hj => ?_
     have := List.all_eq_true.1 htl i (List.mem_range.2 hlt)
     simp only [Bool.or_eq_true, decide_eq_true_eq] at this
     have := List.all_eq_true.1 (this.resolve_left him) j (List.mem_range.2 hj)
     exact ancP_listed hc 8 i o ho (fun e he hb => h2 e he hb) this
   refine ⟨fun h0 => ?_, fun i hi => ?_⟩
   ·exfalso
    refine hall fun j => ?_
    induction j using Nat.strongRecOn with
    | _ j ihj =>
     intro hj
     cases hd : D.getD j false with
     | true => rfl
     | false =>
      exfalso
      have hja := List.all_eq_true.1 hops j (List.mem_range.2 hj)
      simp only [Bool.and_eq_true] at hja
      have hje := hja.1.1.1.1
      cases ho : ops[j]? with
      | none => rw [ho] at hje; cases hje
      | some o =>
       simp only [ho, Bool.and_eq_true, List.all_eq_true, Bool.or_eq_true, Bool.not_eq_true', decide_eq_true_eq] at hje
       have hlt := (Array.getElem?_eq_some_iff.1 ho).1
       have hmem : j ∈ Region.ready .any ops D := mem_ready.2 ⟨by simp only [Array.getD_eq_getD_getElem?, Array.getElem?_eq_getElem (show j < D.size by omega)] at hd ⊢; exact hd, o, ho, fun e he hb => by
        have h3 := hje.2 e (Array.mem_toList_iff.2 he)
        rw [hb] at h3
        have h4 : e.on < j := by rcases h3 with h3 | h3; cases h3; exact h3
        exact ihj e.on h4 (by omega)⟩
       rw [h0] at hmem
       cases hmem
   ·have him := hrm i hi
    obtain ⟨h1, o, ho, h2⟩ := mem_ready.1 hi
    have hlt := (Array.getElem?_eq_some_iff.1 ho).1
    have hDi : D.getD i false = false := getD_ft h1
    have hanc : ∀ j, ancP ops 8 i j = true → D.getD j false = true := fun j hj => ancP_listed hc 8 i o ho (fun e he hb => h2 e he hb) hj
    have hDs : ∀ k, (D.setIfInBounds i true).getD k false = true ↔ (k = i ∨ D.getD k false = true) := fun k => by
     by_cases hk : k = i
     ·subst hk; simp [Array.getD_eq_getD_getElem?, hs, hlt]
     ·rw [getD_set_ne false (Ne.symm hk)]; simp [hk]
    refine wpOpIn_mono (fun a' w' h' => ?_) (rel_step (Q := Q) hok hB hd hlt' him ho hDi (by omega) (fun k hk j hj => closed_anc hc hk hj) hanc hR)
    refine ih _ a' w' (by simpa using hs) (fun j oj hoj hj e he hb => ?_) (fun j hj => ?_) ?_ h'
    ·rcases (hDs j).1 hj with rfl | hj
     ·rw [ho] at hoj; obtain rfl := Option.some.inj hoj
      exact (hDs _).2 (.inr (h2 e he hb))
     ·exact (hDs _).2 (.inr (hc j oj hoj hj e he hb))
    ·rcases (hDs j).1 hj with rfl | hj
     ·exact him
     ·exact hb j hj
    ·have hlen : (i :: (List.range m).filter fun j => !(D.setIfInBounds i true).getD j false).length ≤ ((List.range m).filter fun j => !D.getD j false).length := by
      refine sub_len (List.nodup_cons.2 ⟨fun h => ?_, List.Pairwise.filter _ List.nodup_range⟩) fun x hx => ?_
      ·have := (List.mem_filter.1 h).2
       rw [(hDs i).2 (.inl rfl)] at this; cases this
      ·rcases List.mem_cons.1 hx with rfl | hx
       ·exact List.mem_filter.2 ⟨List.mem_range.2 him, by simp [hDi]⟩
       ·obtain ⟨h3, h4⟩ := List.mem_filter.1 hx
        refine List.mem_filter.2 ⟨h3, ?_⟩
        cases hd : D.getD x false with
        | false => rfl
        | true => rw [(hDs x).2 (.inr hd)] at h4; cases h4
     simp only [List.length_cons] at hlen
     omega
def Lts (P : Program) (ops : Array Oper) (sp : List Sp) (hs0 hsR : List HA) (rsB : List (Nat × AV)) : List Oper → List Sp → Prop
 | o :: l, s :: ss => (∀ vs, LTg P ops o (regsI ops sp vs s.deps rsB) (s.rd.flatMap (cont sp hs0 vs) ++ hsR) (s.cons.flatMap (cont sp hs0 vs)) (s.out.post vs)) ∧ Lts P ops sp hs0 hsR rsB l ss
 | _, [] => True
 | [], _ :: _ => False
theorem Lts.get {P : Program} : ∀ {l : List Oper} {ss : List Sp}, Lts P ops sp hs0 hsR rsB l ss → ∀ {i : Nat} {o : Oper} {s : Sp}, l[i]? = some o → ss[i]? = some s → ∀ vs, LTg P ops o (regsI ops sp vs s.deps rsB) (s.rd.flatMap (cont sp hs0 vs) ++ hsR) (s.cons.flatMap (cont sp hs0 vs)) (s.out.post vs)
 | _ :: _, _ :: _, h, 0, _, _, e1, e2 => by simp at e1 e2; subst e1 e2; exact h.1
 | _ :: _, _ :: _, h, i + 1, _, _, e1, e2 => Lts.get h.2 (i := i) (by simpa using e1) (by simpa using e2)
 | _, [], _, _, _, _, _, e2 => by simp at e2
 | [], _ :: _, h, _, _, _, _, _ => h.elim
theorem base_get : ∀ (l : List HA), (List.range l.length).flatMap (fun z => (l[z]?).toList) = l
 | [] => rfl
 | h :: t => by
  rw [List.length_cons, List.range_succ_eq_map, List.flatMap_cons, List.flatMap_map]
  simp only [List.getElem?_cons_zero, Option.toList_some, List.getElem?_cons_succ, List.singleton_append]
  rw [base_get t]
theorem base_all (vs : Nat → Value) : ((List.range hs0.length).map (1000 + ·)).flatMap (cont sp hs0 vs) = hs0 := by
 rw [List.flatMap_map]
 refine (flatMap_same _ fun z _ => ?_).trans (base_get hs0)
 unfold cont
 rw [show Nat.ble 1000 (1000 + z) = true by rw [Nat.ble_eq]; omega, Nat.add_sub_cancel_left]
 rfl
inductive Cut : List HA → List HA → List HA → Prop
 | nil {hs : List HA} : Cut hs [] hs
 | cons {hs r a b : List HA} {h : HA} (k : Rm hs h r) (m : Cut r a b) : Cut hs (h :: a) b
theorem Cut.sel {hs a b : List HA} (k : Cut hs a b) : ∀ {G F w}, hsP hs G F w → hsP (a ++ b) G F w := by
 induction k with
 | nil => exact fun h => h
 | cons k m ih =>
  intro G F w h
  obtain ⟨F1, F2, e, h1, h2⟩ := k.sel h
  exact ⟨F1, F2, e, h1, ih h2⟩
theorem W_any {id : Nat} {l : List Oper} {rs : List (Nat × AV)} {hs : List HA} (m : Nat) (sp : List Sp) (hcut : Cut hs hs0 hsR) (hm : c.P.follows .mixedOrders = true) (hok : anyOK l.toArray m sp hs0.length = true) (hto : tailOK l.toArray m = true)
  (hd : ((List.range m).all fun j => okD ((l.toArray[j]?).bind (·.dst)) c.nt) = true)
  (hlt : Lts c.P l.toArray sp hs0 hsR (rmR ((List.range m).map (dstN l.toArray)) rs) l sp)
  (k : ∀ vs, WL c l.toArray (l.drop m) ⟨regsI l.toArray sp vs (List.range m) (rmR ((List.range m).map (dstN l.toArray)) rs), (finalT m hs0.length sp).flatMap (cont sp hs0 vs) ++ hsR⟩ Q) : W c (.region id l.toArray true) ⟨rs, hs⟩ Q := ⟨fun a w st => by
 obtain ⟨G, F, hI, hF, hR, hsz, hdf⟩ := st
 have hok' := hok
 unfold anyOK at hok'
 simp only [Bool.and_eq_true, decide_eq_true_eq] at hok'
 obtain ⟨⟨⟨⟨⟨hsp, hmz⟩, hm2⟩, hops⟩, htl⟩, hrdOK⟩ := hok'
 refine wpIn_region_any hm (any_main (m := m) (sp := sp) (hs0 := hs0) (hsR := hsR) (rsB := rmR ((List.range m).map (dstN l.toArray)) rs) hok hto (fun i av e j hj hij => ?_) (fun j hj => List.all_eq_true.1 hd j (List.mem_range.2 hj)) (fun i o hi ho vs => ?_) (by simpa using k) _ _ _ _ (by simp) ?_ (fun j hj => ?_) ?_ ?_)
 ·exact (rmR_look e).2 (List.mem_map.2 ⟨j, List.mem_range.2 hj, hij⟩)
 ·have hs : sp[i]? = some sp[i] := List.getElem?_eq_getElem (by omega)
  have := hlt.get (i := i) (o := o) (s := sp[i]) (by simpa using ho) hs vs
  rw [hs]; exact this
 ·intro j o ho hj
  simp only [Array.getD_eq_getD_getElem?] at hj
  by_cases h : j < l.toArray.size
  ·simp [show j < l.length by simpa using h] at hj
  ·simp [show ¬ j < l.length by simpa using h] at hj
 ·simp only [Array.getD_eq_getD_getElem?] at hj
  by_cases h : j < l.length
  ·simp [h] at hj
  ·simp [h] at hj
 ·have h1 := List.length_filter_le (fun j => !(Array.replicate l.toArray.size false).getD j false) (List.range m)
  rw [List.length_range] at h1
  omega
 ·have hno : ∀ j, (Array.replicate l.toArray.size false).getD j false = true → False := fun j hj => by
   simp only [Array.getD_eq_getD_getElem?] at hj
   by_cases h : j < l.length
   ·simp [h] at hj
   ·simp [h] at hj
  refine ⟨G, F, (List.range hs0.length).map (1000 + ·), List.Pairwise.map _ (fun a b h e => h (by omega)) List.nodup_range, fun t => ?_, ⟨hI.gin, hI.nd, hI.own, ?_⟩, ⟨hF.os, hF.tape, hF.output, hF.size, hF.same, hF.newF, hF.gle, hF.newG⟩, fun i av e => hR i av (rmR_look e).1, hsz, hdf, fun j hj hj2 => (hno j hj2).elim⟩
  ·simp only [List.mem_map, List.mem_range]
   constructor
   ·rintro ⟨z, hz, rfl⟩
    exact ⟨.inl ⟨by omega, by omega⟩, fun i _ hi => (hno i hi).elim⟩
   ·rintro ⟨h1, _⟩
    rcases h1 with h | h
    ·exact ⟨t - 1000, by omega, by omega⟩
    ·exact (hno _ h.2).elim
  ·rw [base_all]; exact hsP.loc (w := w) (fun _ _ => rfl) (hcut.sel hI.hs)⟩
end
inductive Nrm : List HA → List HA → Prop
 | nil : Nrm [] []
 | cons {h : HA} {t t' : List HA} (k : Nrm t t') : Nrm (h :: t) (h :: t')
theorem Nrm.eq {a b : List HA} (h : Nrm a b) : a = b := by
 induction h with
 | nil => rfl
 | cons _ ih => rw [ih]
theorem LT.frame {P : Program} {o : Oper} {rs : List (Nat × AV)} {cons rest : List HA} {post : AV → List HA → Prop} (h : LT P o rs cons post) : LT P o rs (cons ++ rest) (fun x y => ∃ y', y = y' ++ rest ∧ post x y') := by
 refine ⟨?_⟩
 intro F n hF a w G Fp K Q hR hI hk
 obtain ⟨F1, h1, h2⟩ := Inv.frame hI
 refine h.go F n hF a w G F1 K Q hR h1 fun v av prod G' F' w' hp hfr hi hv => ?_
 obtain ⟨F'', h3, h4⟩ := h2 hfr hi
 exact hk v av _ G' F'' w' ⟨prod, rfl, hp⟩ h4 h3 hv
theorem ltr {P : Program} {o : Oper} {rs : List (Nat × AV)} {hsR cons : List HA} {post : AV → List HA → Prop} (h : LT P o rs cons post) : LTr P o rs hsR cons post := h.frame
theorem ltr_rd {P : Program} {o : Oper} {rs : List (Nat × AV)} {hsR : List HA} {av : AV} {h : HA} {f : HA → List HA} (hl : LT P o rs [h] (Is av [h])) (hat : At hsR h f) : LTr P o rs hsR [] (Is av []) := by
 refine ⟨?_⟩
 intro F n hF a w G Fp K Q hR hI hk
 obtain ⟨rest, hs⟩ := hat.sel
 have hI' : Inv G Fp ([h] ++ rest) w := ⟨hI.gin, hI.nd, hI.own, (hs h _ _ _).1 (by rw [hat.self]; exact hI.hs)⟩
 obtain ⟨F1, h1, h2⟩ := Inv.frame hI'
 refine hl.go F n hF a w G F1 K Q hR h1 fun v av' prod G' F' w' ⟨e1, e2⟩ hfr hi hv => ?_
 subst e1 e2
 obtain ⟨F'', h3, h4⟩ := h2 hfr hi
 refine hk v _ hsR G' F'' w' ⟨[], rfl, rfl, rfl⟩ h4 ⟨h3.gin, h3.nd, h3.own, ?_⟩ hv
 have := (hs h G' F'' w').2 h3.hs
 rwa [hat.self] at this
def memN : List Nat → Nat → Bool
 | [], _ => false
 | d :: ds, i => bif Nat.beq d i then true else memN ds i
theorem memN_iff : ∀ {ds : List Nat} {i : Nat}, memN ds i = ds.elem i
 | [], _ => rfl
 | d :: ds, i => by
  unfold memN
  rw [List.elem_cons, memN_iff (ds := ds)]
  cases h : Nat.beq d i with
  | true => obtain rfl := Nat.eq_of_beq_eq_true h; simp
  | false =>
   have : d ≠ i := fun e => by subst e; rw [Nat.beq_refl] at h; cases h
   have h2 : (i == d) = false := by simpa using Ne.symm this
   rw [h2]; rfl
inductive Flt (ds : List Nat) : List (Nat × AV) → List (Nat × AV) → Prop
 | nil : Flt ds [] []
 | keep {j : Nat} {av : AV} {t t' : List (Nat × AV)} (h : memN ds j = false) (k : Flt ds t t') : Flt ds ((j, av) :: t) ((j, av) :: t')
 | drop {j : Nat} {av : AV} {t t' : List (Nat × AV)} (h : memN ds j = true) (k : Flt ds t t') : Flt ds ((j, av) :: t) t'
theorem Flt.eq {ds : List Nat} {rs rsB : List (Nat × AV)} (h : Flt ds rs rsB) : rmR ds rs = rsB := by
 induction h with
 | nil => rfl
 | keep h k ih => rw [memN_iff] at h; unfold rmR; rw [h, ih]; rfl
 | drop h k ih => rw [memN_iff] at h; unfold rmR; rw [h, ih]; rfl
def nthN : List Nat → Nat → Nat
 | [], _ => 0
 | d :: _, 0 => d
 | _ :: ds, i + 1 => nthN ds i
def regsD (ds : List Nat) (sp : List Sp) (vs : Nat → Value) : List Nat → List (Nat × AV) → List (Nat × AV)
 | [], rsB => rsB
 | j :: l, rsB => (nthN ds j, (sp[j]?.getD default).out.reg (vs j)) :: regsD ds sp vs l rsB
theorem nthN_map {f : Nat → Nat} : ∀ (l : List Nat) (j : Nat) (h : j < l.length), nthN (l.map f) j = f l[j]
 | _ :: _, 0, _ => rfl
 | _ :: l, j + 1, h => nthN_map l j (by simpa using h)
theorem regsD_eq {ops : Array Oper} {m : Nat} {sp : List Sp} {vs : Nat → Value} {rsB : List (Nat × AV)} : ∀ {l : List Nat}, (∀ j ∈ l, j < m) → regsD ((List.range m).map (dstN ops)) sp vs l rsB = regsI ops sp vs l rsB
 | [], _ => rfl
 | j :: l, h => by
  have hj := h j (by simp)
  simp only [regsD, regsI]
  rw [regsD_eq fun k hk => h k (by simp [hk]), nthN_map _ j (by simpa using hj), List.getElem_range]
def Run (P : Program) (ops : Array Oper) (ds : List Nat) (hs0 hsR : List HA) (rsB : List (Nat × AV)) (K : List Sp → Prop) : List Sp → List Oper → Prop
 | acc, [] => K acc
 | acc, o :: l => ∃ s : Sp, (∀ vs, LTg P ops o (regsD ds acc vs s.deps rsB) (s.rd.flatMap (cont acc hs0 vs) ++ hsR) (s.cons.flatMap (cont acc hs0 vs)) (s.out.post vs)) ∧ Run P ops ds hs0 hsR rsB K (acc ++ [s]) l
inductive App : List Sp → Sp → List Sp → Prop
 | nil {s : Sp} : App [] s [s]
 | cons {x s : Sp} {l l' : List Sp} (k : App l s l') : App (x :: l) s (x :: l')
theorem App.eq {a b : List Sp} {s : Sp} (h : App a s b) : b = a ++ [s] := by
 induction h with
 | nil => rfl
 | cons _ ih => rw [ih]; rfl
theorem Run.pv {P : Program} {ops : Array Oper} {ds : List Nat} {hs0 hsR : List HA} {rsB : List (Nat × AV)} {K : List Sp → Prop} {acc : List Sp} {o : Oper} {l : List Oper} (deps cons : List Nat) {av : AV} (hg : o.guard = none)
  (h : ∀ vs, LTr P o (regsD ds acc vs deps rsB) hsR (cons.flatMap (cont acc hs0 vs)) (Is av [])) {acc' : List Sp} (ha : App acc ⟨deps, cons, .pv av, []⟩ acc') (k : Run P ops ds hs0 hsR rsB K acc' l) : Run P ops ds hs0 hsR rsB K acc (o :: l) := ⟨⟨deps, cons, .pv av, []⟩, fun vs => .inl ⟨hg, h vs⟩, ha.eq ▸ k⟩
theorem Run.tok {P : Program} {ops : Array Oper} {ds : List Nat} {hs0 hsR : List HA} {rsB : List (Nat × AV)} {K : List Sp → Prop} {acc : List Sp} {o : Oper} {l : List Oper} (deps cons : List Nat) {prod : Value → List HA} (hg : o.guard = none)
  (h : ∀ vs, LTr P o (regsD ds acc vs deps rsB) hsR (cons.flatMap (cont acc hs0 vs)) (fun x y => ∃ u, x = .val u ∧ y = prod u)) {acc' : List Sp} (ha : App acc ⟨deps, cons, .tok prod, []⟩ acc') (k : Run P ops ds hs0 hsR rsB K acc' l) : Run P ops ds hs0 hsR rsB K acc (o :: l) := ⟨⟨deps, cons, .tok prod, []⟩, fun vs => .inl ⟨hg, h vs⟩, ha.eq ▸ k⟩
theorem Run.tk {P : Program} {ops : Array Oper} {ds : List Nat} {hs0 hsR : List HA} {rsB : List (Nat × AV)} {K : List Sp → Prop} {acc : List Sp} {o : Oper} {l : List Oper} (deps cons : List Nat) {r : Value → AV} {prod : Value → List HA} (hg : o.guard = none)
  (h : ∀ vs, LTr P o (regsD ds acc vs deps rsB) hsR (cons.flatMap (cont acc hs0 vs)) (fun x y => ∃ u, x = .both (r u) u ∧ y = prod u)) {acc' : List Sp} (ha : App acc ⟨deps, cons, .tk r prod, []⟩ acc') (k : Run P ops ds hs0 hsR rsB K acc' l) : Run P ops ds hs0 hsR rsB K acc (o :: l) := ⟨⟨deps, cons, .tk r prod, []⟩, fun vs => .inl ⟨hg, h vs⟩, ha.eq ▸ k⟩
theorem Run.fy {P : Program} {ops : Array Oper} {ds : List Nat} {hs0 hsR : List HA} {rsB : List (Nat × AV)} {K : List Sp → Prop} {acc : List Sp} {o : Oper} {l : List Oper} (deps cons : List Nat) (j j' : Nat) (h : Value → Value → List HA) (hg : o.guard = none)
  (hl : ∀ vs, LTr P o (regsD ds acc vs deps rsB) hsR (cons.flatMap (cont acc hs0 vs)) (fun _ y => y = h (vs j) (vs j'))) {acc' : List Sp} (ha : App acc ⟨deps, cons, .fy j j' h, []⟩ acc') (k : Run P ops ds hs0 hsR rsB K acc' l) : Run P ops ds hs0 hsR rsB K acc (o :: l) := ⟨⟨deps, cons, .fy j j' h, []⟩, fun vs => .inl ⟨hg, hl vs⟩, ha.eq ▸ k⟩
theorem Run.fx {P : Program} {ops : Array Oper} {ds : List Nat} {hs0 hsR : List HA} {rsB : List (Nat × AV)} {K : List Sp → Prop} {acc : List Sp} {o : Oper} {l : List Oper} (deps cons : List Nat) (j : Nat) (h : Value → List HA) (hg : o.guard = none)
  (hl : ∀ vs, LTr P o (regsD ds acc vs deps rsB) hsR (cons.flatMap (cont acc hs0 vs)) (fun _ y => y = h (vs j))) {acc' : List Sp} (ha : App acc ⟨deps, cons, .fx j h, []⟩ acc') (k : Run P ops ds hs0 hsR rsB K acc' l) : Run P ops ds hs0 hsR rsB K acc (o :: l) := ⟨⟨deps, cons, .fx j h, []⟩, fun vs => .inl ⟨hg, hl vs⟩, ha.eq ▸ k⟩
theorem LT.fx {P : Program} {o : Oper} {rs : List (Nat × AV)} {cons prod q : List HA} (k : LT P o rs cons (Is (.val undef) prod)) (h : prod = q) : LT P o rs cons (fun _ y => y = q) := ⟨fun F n hF a w G Fp K Q hR hI hk => k.go F n hF a w G Fp K Q hR hI fun v av prod' G' F' w' hp => hk v av prod' G' F' w' (hp.2.trans h)⟩
theorem Run.rd {P : Program} {ops : Array Oper} {ds : List Nat} {hs0 hsR : List HA} {rsB : List (Nat × AV)} {K : List Sp → Prop} {acc : List Sp} {o : Oper} {l : List Oper} (deps cons rd : List Nat) {av : AV} (hg : o.guard = none)
  (h : ∀ vs, LTr P o (regsD ds acc vs deps rsB) (rd.flatMap (cont acc hs0 vs) ++ hsR) (cons.flatMap (cont acc hs0 vs)) (Is av [])) {acc' : List Sp} (ha : App acc ⟨deps, cons, .pv av, rd⟩ acc') (k : Run P ops ds hs0 hsR rsB K acc' l) : Run P ops ds hs0 hsR rsB K acc (o :: l) := ⟨⟨deps, cons, .pv av, rd⟩, fun vs => .inl ⟨hg, h vs⟩, ha.eq ▸ k⟩
theorem Run.yes {P : Program} {ops : Array Oper} {ds : List Nat} {hs0 hsR : List HA} {rsB : List (Nat × AV)} {K : List Sp → Prop} {acc : List Sp} {o : Oper} {l : List Oper} (deps cons : List Nat) {av : AV} {j dj : Nat} {b : Bool} (hg : o.guard = some (j, b)) (hj : gdst ops j = some dj) (hl : ∀ vs, look (regsD ds acc vs deps rsB) dj = some (.val (.bool b)))
  (h : ∀ vs, LTr P o (regsD ds acc vs deps rsB) hsR (cons.flatMap (cont acc hs0 vs)) (Is av [])) {acc' : List Sp} (ha : App acc ⟨deps, cons, .pv av, []⟩ acc') (k : Run P ops ds hs0 hsR rsB K acc' l) : Run P ops ds hs0 hsR rsB K acc (o :: l) := ⟨⟨deps, cons, .pv av, []⟩, fun vs => .inr (.inl ⟨j, b, dj, b, hg, hj, hl vs, .inl ⟨rfl, h vs⟩⟩), ha.eq ▸ k⟩
theorem Run.no {P : Program} {ops : Array Oper} {ds : List Nat} {hs0 hsR : List HA} {rsB : List (Nat × AV)} {K : List Sp → Prop} {acc : List Sp} {o : Oper} {l : List Oper} (deps cons : List Nat) {j dj : Nat} {b bv : Bool} (hg : o.guard = some (j, b)) (hj : gdst ops j = some dj) (hl : ∀ vs, look (regsD ds acc vs deps rsB) dj = some (.val (.bool bv))) (hb : (bv == b) = false)
  {acc' : List Sp} (ha : App acc ⟨deps, [], .pv (.val undef), []⟩ acc') (k : Run P ops ds hs0 hsR rsB K acc' l) : Run P ops ds hs0 hsR rsB K acc (o :: l) := ⟨⟨deps, [], .pv (.val undef), []⟩, fun vs => .inr (.inl ⟨j, b, dj, bv, hg, hj, hl vs, .inr ⟨fun e => (by subst e; simp at hb), rfl, rfl, rfl⟩⟩), ha.eq ▸ k⟩
theorem Run.done {P : Program} {ops : Array Oper} {ds : List Nat} {hs0 hsR : List HA} {rsB : List (Nat × AV)} {K : List Sp → Prop} : ∀ {l : List Oper} {acc : List Sp}, Run P ops ds hs0 hsR rsB K acc l →
  ∃ sp, sp.length = acc.length + l.length ∧ sp.take acc.length = acc ∧ K sp ∧ ∀ i o s, acc.length ≤ i → l[i - acc.length]? = some o → sp[i]? = some s → ∀ vs, LTg P ops o (regsD ds (sp.take i) vs s.deps rsB) (s.rd.flatMap (cont (sp.take i) hs0 vs) ++ hsR) (s.cons.flatMap (cont (sp.take i) hs0 vs)) (s.out.post vs)
 | [], acc, h => ⟨acc, by simp, by simp, h, fun i o s _ e => by simp at e⟩
 | o :: l, acc, ⟨s, h1, h2⟩ => by
  obtain ⟨sp, e1, e2, hk, h3⟩ := Run.done h2
  simp only [List.length_append, List.length_singleton] at e1 e2 h3
  have e3 : sp.take acc.length = acc := by
   have := congrArg (List.take acc.length) e2
   rw [List.take_take, Nat.min_eq_left (by omega)] at this
   rw [this]; simp
  refine ⟨sp, by rw [e1, List.length_cons]; omega, e3, hk, fun i o' s' hi ho hs => ?_⟩
  by_cases hia : i = acc.length
  ·subst hia
   simp at ho
   subst ho
   have : sp[acc.length]? = some s := by
    have h4 : (sp.take (acc.length + 1))[acc.length]? = some s := by rw [e2]; simp
    rw [List.getElem?_take, if_pos (by omega)] at h4
    exact h4
   rw [this] at hs
   obtain rfl := Option.some.inj hs
   rw [e3]; exact h1
  ·refine h3 i o' s' (by omega) ?_ hs
   rw [show i - acc.length = (i - (acc.length + 1)) + 1 by omega, List.getElem?_cons_succ] at ho
   exact ho
theorem ancP_lt {ops : Array Oper} {m : Nat} (hops : ∀ i o, i < m → ops[i]? = some o → ∀ e ∈ o.after, Region.binds .any e = true → e.on < i) : ∀ (f i j : Nat), i < m → ancP ops f i j = true → j < i
 | 0, _, _, _, h => by cases h
 | f + 1, i, j, hi, h => by
  unfold ancP waits at h
  cases ho : ops[i]? with
  | none => simp [ho] at h
  | some o =>
   simp only [ho, Bool.or_eq_true] at h
   rcases h with h | h
   ·obtain ⟨e, he, h2⟩ := Array.any_eq_true'.1 h
    simp only [Bool.and_eq_true, beq_iff_eq] at h2
    rw [← h2.2]; exact hops i o hi ho e he h2.1
   ·rw [List.any_eq_true] at h
    obtain ⟨e, he, h2⟩ := h
    simp only [Bool.and_eq_true] at h2
    have h3 := hops i o hi ho e (Array.mem_toList_iff.1 he) h2.2.1
    exact Nat.lt_trans (ancP_lt hops f e.on j (by omega) h2.2.2) h3
theorem regsI_take {ops : Array Oper} {sp : List Sp} {i : Nat} {vs : Nat → Value} {rsB : List (Nat × AV)} : ∀ {l : List Nat}, (∀ j ∈ l, j < i) → regsI ops (sp.take i) vs l rsB = regsI ops sp vs l rsB
 | [], _ => rfl
 | j :: l, h => by
  simp only [regsI]
  rw [regsI_take fun k hk => h k (by simp [hk]), List.getElem?_take, if_pos (h j (by simp))]
theorem W_run {c : Cx} {hs0 hsR : List HA} {Q : Exit → S → Prop} {id : Nat} {l : List Oper} {rs : List (Nat × AV)} {hs : List HA} {rsB : List (Nat × AV)} (m : Nat) (ds ft : List Nat) (hcut : Cut hs hs0 hsR) (hds : (List.range m).map (dstN l.toArray) = ds) (hflt : Flt ds rs rsB) (hm : c.P.follows .mixedOrders = true) (hto : tailOK l.toArray m = true)
  (hd : ((List.range m).all fun j => okD ((l.toArray[j]?).bind (·.dst)) c.nt) = true)
  (h : Run c.P l.toArray ds hs0 hsR rsB (fun sp => (anyOK l.toArray m sp hs0.length = true ∧ finalT m hs0.length sp = ft) ∧ ∀ vs, WL c l.toArray (l.drop m) ⟨regsD ds sp vs (List.range m) rsB, ft.flatMap (cont sp hs0 vs) ++ hsR⟩ Q) [] (l.take m)) : W c (.region id l.toArray true) ⟨rs, hs⟩ Q := by
 subst hds
 obtain rfl := hflt.eq
 obtain ⟨sp, e1, _, ⟨⟨hok, hft⟩, k⟩, h3⟩ := h.done
 subst hft
 have hok' := hok
 unfold anyOK at hok'
 simp only [Bool.and_eq_true, decide_eq_true_eq] at hok'
 obtain ⟨⟨⟨⟨⟨hsp, hmz⟩, hm2⟩, hops⟩, htl⟩, hrdOK⟩ := hok'
 have hall := fun i (hi : i < m) => List.all_eq_true.1 hops i (List.mem_range.2 hi)
 simp only [Bool.and_eq_true, decide_eq_true_eq] at hall
 have hback : ∀ i o, i < m → l.toArray[i]? = some o → ∀ e ∈ o.after, Region.binds .any e = true → e.on < i := fun i o hi ho e he hb => by
  have := (hall i hi).1.1.1.1
  rw [ho] at this
  simp only [Bool.and_eq_true, List.all_eq_true, Bool.or_eq_true, Bool.not_eq_true', decide_eq_true_eq] at this
  rcases this.2 e (Array.mem_toList_iff.2 he) with h | h
  ·rw [hb] at h; cases h
  ·exact h
 refine W_any m sp hcut hm hok hto hd ?_ (fun vs => by rw [← regsD_eq fun j hj => List.mem_range.1 hj]; exact k vs)
 have key : ∀ (n i : Nat) (l' : List Oper) (sp' : List Sp), i + n = m → l.drop i = l' → sp.drop i = sp' → Lts c.P l.toArray sp hs0 hsR (rmR ((List.range m).map (dstN l.toArray)) rs) l' sp' := by
  intro n
  induction n with
  | zero =>
   intro i l' sp' hi hl hs
   have : sp' = [] := by rw [← hs]; exact List.drop_of_length_le (by omega)
   subst this
   cases l' <;> exact trivial
  | succ n ih =>
   intro i l' sp' hi hl hs
   have hil : i < l.length := by have : l.toArray.size = l.length := by simp
                                 omega
   have his : i < sp.length := by omega
   rw [List.drop_eq_getElem_cons hil] at hl
   rw [List.drop_eq_getElem_cons his] at hs
   subst hl hs
   refine ⟨fun vs => ?_, ih (i + 1) _ _ (by omega) rfl rfl⟩
   have h4 := h3 i l[i] sp[i] (Nat.zero_le _) (by simp only [List.length_nil, Nat.sub_zero, List.getElem?_take]; rw [if_pos (by omega)]; exact List.getElem?_eq_getElem hil) (List.getElem?_eq_getElem his) vs
   have him : i < m := by omega
   have hsi : sp[i]?.getD default = sp[i] := by rw [List.getElem?_eq_getElem his]; rfl
   have hdeps := (hall i him).1.1.1.2
   have hcons := (hall i him).1.1.2
   rw [hsi] at hdeps hcons
   have q1 : ∀ j ∈ sp[i].deps, j < i := fun j hj => by
    have := List.all_eq_true.1 hdeps j hj
    simp only [Bool.and_eq_true, decide_eq_true_eq] at this
    exact ancP_lt hback 8 i j him this.2
   have q2 : ∀ t ∈ sp[i].cons, cont (sp.take i) hs0 vs t = cont sp hs0 vs t := fun t ht => by
    have := List.all_eq_true.1 hcons t ht
    simp only [Bool.or_eq_true, Bool.and_eq_true, decide_eq_true_eq] at this
    unfold cont
    rcases this with h5 | h5
    ·rw [show Nat.ble 1000 t = true by rw [Nat.ble_eq]; exact h5.1]; rfl
    ·have hti := ancP_lt hback 8 i t him h5.2
     rw [List.getElem?_take, if_pos hti]
   have q3 : ∀ t ∈ sp[i].rd, cont (sp.take i) hs0 vs t = cont sp hs0 vs t := fun t ht => by
    have := List.all_eq_true.1 hrdOK i (List.mem_range.2 him)
    rw [hsi] at this
    simp only [Bool.and_eq_true, decide_eq_true_eq, List.all_eq_true] at this
    have h5 := (this.2 t ht).1.1.1
    unfold cont
    rw [show Nat.ble 1000 t = true by rw [Nat.ble_eq]; exact h5]; rfl
   rw [regsD_eq fun j hj => Nat.lt_trans (q1 j hj) him, regsI_take q1, flatMap_same _ q2, flatMap_same _ q3] at h4
   exact h4
 exact key m 0 _ _ (by omega) (by simp) (by simp)
section
variable {P : Program} {rs : List (Nat × AV)} {hsR : List HA} {d : Option Nat} {ty : TypeId} {pos : String} {af : Array Edge} {g : Option (Nat × Bool)} {x : Operand} {t tb : TypeId} {p : Value} {j : Nat} {cs : List AV} {f : HA → List HA}
theorem ltr_load1 {av : AV} (hx : Pt rs x p j) (hat : At hsR (.box p cs tb) f) (hc : cs[j]? = some av) [Ty1 P t] : LTr P ⟨d, .load t x, ty, pos, af, g⟩ rs hsR [] (Is av []) := ltr_rd (lt_load1 hx hc) hat
theorem ltr_loadN {n : Nat} (hx : Pt rs x p 0) (hat : At hsR (.box p cs tb) f) [TyN P t n] (hc : cs.length = n) : LTr P ⟨d, .load t x, ty, pos, af, g⟩ rs hsR [] (Is (.agg cs) []) := ltr_rd (lt_loadN hx hc) hat
theorem ltr_field {fd off : Nat} (hx : opv rs x = some (.val p)) (hat : At hsR (.box p cs tb) f) [TyF P t fd off] : LTr P ⟨d, .fieldAddr t x fd, ty, pos, af, g⟩ rs hsR [] (Is (.at p off) []) := ltr_rd (lt_fieldVal hx) hat
end
end Go.Proofs.YthddoikmgpgakaaDoor.Sw
namespace Go.Proofs.YthddoikmgpgakaaDoor
open Go.RowKit Go
section
variable {P : Program} (w : World)
theorem run_append_none (t ty e : TypeId) (i : TypeInfo) (size base : Nat) (ht : P.underlying t = some (.slice e)) (hi : P.info? e = some i)
  (v : Value) (n : Nat) (xs : List Value) (hown : w.ownsRow base e size v n xs) (c : Nat) :
  (Builtin.append_ #[t, t] ty #[v, .slice none 0 c]).run P w = .ok v w := by
 rcases hown.2 with ⟨rfl, rfl⟩ | ⟨g, cap, cur, rfl, _, _, hnc, _⟩
 ·simp [Builtin.append_, run_underlying ht, sizeOf, typeInfo, hi, Builtin.lenOf, Builtin.firstCells]
 ·simp [Builtin.append_, run_underlying ht, sizeOf, typeInfo, hi, Builtin.lenOf, Builtin.firstCells, hnc, storeCells]
theorem ownsRow_slice {w : World} {base : Nat} {e : TypeId} {size : Nat} {v : Value} {n : Nat} {xs : List Value} (h : w.ownsRow base e size v n xs) : ∃ a c, v = .slice a n c := by
 rcases h.2 with ⟨rfl, rfl⟩ | ⟨g, cap, cur, rfl, _⟩
 ·exact ⟨none, 0, rfl⟩
 ·exact ⟨_, cap, rfl⟩
theorem run_append_any (base : Nat) (t ty e : TypeId) (i : TypeInfo) (z : Value) (size bytes : Nat) (ht : P.underlying t = some (.slice e)) (hi : P.info? e = some i) (hz : i.zero = some z)
  (hsize : i.size = size) (hby : i.bytes = bytes) (hzs : z.cells.size = size) (hsz : 0 < size)
  (v : Value) (n : Nat) (xs : List Value) (hown : w.ownsRow base e size v n xs)
  (ao : Option Addr) (m c : Nat) (news : List Value) (hl : news.length = m * size) (hnone : ao = none → m = 0) (hnews : ∀ ad, ao = some ad → ∀ j u, news[j]? = some u → w.cell? (ad.add j) = some u) (h1 : ∀ u ∈ news, u.oneCell' = true)
  (h63 : n + m ≤ 1000000) (hb : bytes ≤ 1000) (hbase : base ≤ w.heap.size) :
  ∃ a' c' w', (Builtin.append_ #[t, t] ty #[v, .slice ao m c]).run P w = .ok (.slice a' (n + m) c') w' ∧ w'.ownsRow base e size (.slice a' (n + m) c') (n + m) (xs ++ news) ∧ w.grownBy w' v.ownBlock ∧
   ((Value.slice a' (n + m) c').ownBlock = v.ownBlock ∨ (Value.slice a' (n + m) c').ownBlock = some w.heap.size) := by
 have hb1 : (n + m) * bytes ≤ 1000000 * 1000 := Nat.mul_le_mul h63 hb
 have hm1 : n + m ≤ maxLen := by simp only [maxLen]; omega
 cases ao with
 | none =>
  obtain rfl := hnone rfl
  have hn : news = [] := List.eq_nil_of_length_eq_zero (by simpa using hl)
  subst hn
  obtain ⟨a', c', rfl⟩ := ownsRow_slice hown
  exact ⟨a', c', w, by simpa using run_append_none w t ty e i size base ht hi _ n xs hown c, by simpa using hown, World.grownBy.refl _ _, .inl rfl⟩
 | some ad =>
  obtain ⟨v', w', hr, h2, h3, _, h5⟩ := run_append_own_at (P := P) w base t ty e i z size bytes ht hi hz hsize hby hzs hsz v n xs hown ad m c news hl (hnews ad rfl) h1 hm1 (by omega) hbase
  obtain ⟨a', c', rfl⟩ := ownsRow_slice h2
  exact ⟨a', c', w', hr, h2, h3, h5⟩
theorem wp_append_any {o : Oper} {a : Act} {K : Act → World → Prop} {Q : Exit → Act → World → Prop} (s x : Operand) (t : TypeId)
  (ho : o.op = .call { callee := .builtin .append, args := #[s, x], argTypes := #[t, t] })
  (base : Nat) (e : TypeId) (i : TypeInfo) (z : Value) (size bytes : Nat) (ht : P.underlying t = some (.slice e)) (hi : P.info? e = some i) (hz : i.zero = some z)
  (hsize : i.size = size) (hby : i.bytes = bytes) (hzs : z.cells.size = size) (hsz : 0 < size)
  (v : Value) (n : Nat) (xs : List Value) (hs : a.eval s = v) (hown : w.ownsRow base e size v n xs)
  (ao : Option Addr) (m c : Nat) (news : List Value) (hx : a.eval x = .slice ao m c) (hl : news.length = m * size) (hnone : ao = none → m = 0) (hnews : ∀ ad, ao = some ad → ∀ j u, news[j]? = some u → w.cell? (ad.add j) = some u) (h1 : ∀ u ∈ news, u.oneCell' = true)
  (h63 : n + m ≤ 1000000) (hb : bytes ≤ 1000) (hbase : base ≤ w.heap.size)
  (h : ∀ a' c' w', w'.ownsRow base e size (.slice a' (n + m) c') (n + m) (xs ++ news) → w.grownBy w' v.ownBlock →
   ((Value.slice a' (n + m) c').ownBlock = v.ownBlock ∨ (Value.slice a' (n + m) c').ownBlock = some w.heap.size) → K (a.put o.dst (.slice a' (n + m) c')) w') : o.wp P a w K Q := by
 obtain ⟨a', c', w', hr, h2, h3, h4⟩ := run_append_any (P := P) w base t o.type e i z size bytes ht hi hz hsize hby hzs hsz v n xs hown ao m c news hl hnone hnews h1 h63 hb hbase
 unfold Oper.wp execOp
 simp only [ho, resolve, invoke, builtin, Sem.run_bind, Sem.run_pure, Result.andThen_ok, List.map_toArray, List.map_cons, List.map_nil, hs, hx, hr]
 exact h a' c' w' h2 h3 h4
theorem wpList_append_any {ops : Array Oper} {rest : List Oper} {o : Oper} {a : Act} {Q : Exit → Act → World → Prop} (hgd : o.guard = none) (s x : Operand) (t : TypeId)
  (ho : o.op = .call { callee := .builtin .append, args := #[s, x], argTypes := #[t, t] })
  (base : Nat) (e : TypeId) (i : TypeInfo) (z : Value) (size bytes : Nat) (ht : P.underlying t = some (.slice e)) (hi : P.info? e = some i) (hz : i.zero = some z)
  (hsize : i.size = size) (hby : i.bytes = bytes) (hzs : z.cells.size = size) (hsz : 0 < size)
  (v : Value) (n : Nat) (xs : List Value) (hs : a.eval s = v) (hown : w.ownsRow base e size v n xs)
  (ao : Option Addr) (m c : Nat) (news : List Value) (hx : a.eval x = .slice ao m c) (hl : news.length = m * size) (hnone : ao = none → m = 0) (hnews : ∀ ad, ao = some ad → ∀ j u, news[j]? = some u → w.cell? (ad.add j) = some u) (h1 : ∀ u ∈ news, u.oneCell' = true)
  (h63 : n + m ≤ 1000000) (hb : bytes ≤ 1000) (hbase : base ≤ w.heap.size)
  (h : ∀ a' c' w', w'.ownsRow base e size (.slice a' (n + m) c') (n + m) (xs ++ news) → w.grownBy w' v.ownBlock →
   ((Value.slice a' (n + m) c').ownBlock = v.ownBlock ∨ (Value.slice a' (n + m) c').ownBlock = some w.heap.size) → wpList P ops Q rest (a.put o.dst (.slice a' (n + m) c')) w') : wpList P ops Q (o :: rest) a w :=
 wpList_plain hgd fun _ hK => wp_append_any w s x t ho base e i z size bytes ht hi hz hsize hby hzs hsz v n xs hs hown ao m c news hx hl hnone hnews h1 h63 hb hbase fun a' c' w' h2 h3 h4 => hK _ _ (h a' c' w' h2 h3 h4)
end
theorem RdI.news {w : World} {a : Option Addr} {xs : List Int} (h : RdI w a xs) : ∀ ad, a = some ad → ∀ j u, (xs.map (Value.int .i64))[j]? = some u → w.cell? (ad.add j) = some u := fun ad ha j u hu => by
 rw [List.getElem?_map] at hu
 obtain ⟨x, hx, rfl⟩ := Option.map_eq_some_iff.1 hu
 obtain ⟨hj, rfl⟩ := List.getElem?_eq_some_iff.1 hx
 obtain ⟨b, o, ha', hc⟩ := h j hj
 rw [ha] at ha'
 obtain rfl := Option.some.inj ha'
 have hadd : (⟨b, o, none⟩ : Addr).add j = ⟨b, o + j, none⟩ := by unfold Addr.add; split <;> simp_all
 rw [hadd]; exact hc
theorem RdI.none {w : World} {a : Option Addr} {xs : List Int} (h : RdI w a xs) (ha : a = none) : xs.length = 0 := by
 rcases Nat.eq_zero_or_pos xs.length with h0 | h0
 ·exact h0
 ·obtain ⟨b, o, ha', _⟩ := h 0 h0
  rw [ha] at ha'; cases ha'
theorem ints_one (xs : List Int) : ∀ u ∈ xs.map (Value.int .i64), u.oneCell' = true := by
 intro u hu
 obtain ⟨x, _, rfl⟩ := List.mem_map.1 hu
 rfl
theorem RdI.of_own {w : World} {B : Nat} {e : TypeId} {a : Option Addr} {n c : Nat} {xs : List Int} (h : w.ownsRow B e 1 (.slice a n c) n (xs.map (Value.int .i64))) : RdI w a xs := fun i hi => by
 have hl : xs.length = n := by simpa using h.1
 rcases h.2 with ⟨h', h0⟩ | ⟨g, cap, cur, h', _, hg, _, _, _, htake⟩
 ·omega
 ·simp only [Value.slice.injEq] at h'
  obtain ⟨rfl, _, rfl⟩ := h'
  refine ⟨g, 0, rfl, ?_⟩
  rw [cell_of_row w g (0 + i) cur e (0, 0) hg]
  have h1 : (cur.toList.take (n * 1))[i]? = some (.int .i64 xs[i]) := by rw [htake, List.getElem?_map, List.getElem?_eq_getElem hi]; rfl
  rw [List.getElem?_take] at h1
  split at h1
  ·simpa using h1
  ·cases h1
theorem own_lit {w : World} {base b : Nat} {e : TypeId} {size : Nat} {cs : Array Value} {n : Nat} {xs : List Value} (hw : b = w.heap.size) (hb : base ≤ b) (hm : n ≤ 1000000) (hs : cs.size = n * size) (hx : cs.toList = xs) :
  (w.alloc (.cells cs e)).ownsRow base e size (.slice (some ⟨b, 0, none⟩) n n) n xs := by
 subst hw; subst hx; exact World.ownsRow_lit w cs n hb (by simp only [maxLen]; omega) hs
theorem own_base {w : World} {base base' : Nat} {e : TypeId} {size : Nat} {v : Value} {n : Nat} {xs : List Value} (h : w.ownsRow base e size v n xs) (hb : base' ≤ base) : w.ownsRow base' e size v n xs := by
 refine ⟨h.1, h.2.imp id ?_⟩
 rintro ⟨g, cap, cur, hv, hbg, r⟩
 exact ⟨g, cap, cur, hv, Nat.le_trans hb hbg, r⟩
theorem own_below {w w' : World} {B base : Nat} {e : TypeId} {size : Nat} {v : Value} {n : Nat} {xs : List Value} (h : w.ownsRow base e size v n xs) (hb : Below B w w') (hB : w.heap.size ≤ B) : w'.ownsRow base e size v n xs := by
 refine ⟨h.1, h.2.imp id ?_⟩
 rintro ⟨g, cap, cur, hv, hbg, hg, r⟩
 exact ⟨g, cap, cur, hv, hbg, (hb.block g (Nat.lt_of_lt_of_le (Array.getElem?_eq_some_iff.1 hg).1 hB)).trans hg, r⟩
theorem own_other {w : World} {base b j : Nat} {e : TypeId} {size : Nat} {v u : Value} {n : Nat} {xs : List Value} (h : w.ownsRow base e size v n xs) (hne : b < base) : (w.setCell ⟨b, j, none⟩ u).ownsRow base e size v n xs := ownsRow_setCell_below h hne u
end Go.Proofs.YthddoikmgpgakaaDoor
namespace Go.Proofs.YthddoikmgpgakaaDoor.Sw
open Go.RowKit Go
class TyE (P : Program) (t : TypeId) (e : outParam TypeId) (n : outParam Nat) : Prop where
 und : P.underlying t = some (.slice e)
 info : ∃ i z, P.info? e = some i ∧ i.zero = some z ∧ i.size = n ∧ i.bytes ≤ 1000 ∧ z.cells.size = n
 pos : 0 < n
theorem tyE {P : Program} {t e : TypeId} {n b : Nat} {z : Value} (h1 : P.underlying t = some (.slice e)) (h2 : (P.info? e).map (fun i => (i.zero, i.size, i.bytes)) = some (some z, n, b)) (h3 : b ≤ 1000) (h4 : z.cells.size = n) (h5 : 0 < n) : TyE P t e n := by
 obtain ⟨i, hi, e1, e2, e3⟩ := info_parts h2
 exact ⟨h1, ⟨i, z, hi, e1, e2, by omega, h4⟩, h5⟩
instance {P : Program} {t e : TypeId} {n : Nat} [h : TyE P t e n] : TyS P t e n := ⟨h.und, fun w => by
 obtain ⟨i, z, h1, _, h2, _⟩ := h.info
 simp [sizeOf, typeInfo, h1, h2]⟩
class OneF {α : Type} (f : α → List AV) : Prop where
 out : ∀ x, OneL (f x)
instance : OneF iC := ⟨fun _ => inferInstance⟩
class LenF {α : Type} (f : α → List AV) (n : outParam Nat) : Prop where
 out : ∀ x, (f x).length = n
instance : LenF iC 1 := ⟨fun _ => rfl⟩
section
variable {P : Program} {rs : List (Nat × AV)} {d : Option Nat} {ty : TypeId} {pos : String} {af : Array Edge} {g : Option (Nat × Bool)}
theorem slP_fits {α : Type} {G : Nat → Option Obj} {n : Nat} {f : α → List AV} {b o : Nat} {xs : List α} (hn : ∀ x ∈ xs, (f x).length = n) (h : SlP G n f (some ⟨b, o, none⟩) xs) :
  ∃ vs : List Value, Fits G (xs.flatMap f) vs ∧ ∀ j u, vs[j]? = some u → cellG G b (o + j) = some u := by
 have key : ∀ (k : Nat) (cs : List AV) (q : Nat), (∀ j av, cs[j]? = some av → ∃ u, cellG G b (q + j) = some u ∧ av.P G u) → ∃ vs : List Value, Fits G cs vs ∧ ∀ j u, vs[j]? = some u → cellG G b (q + j) = some u := by
  intro _ cs
  induction cs with
  | nil => exact fun q _ => ⟨[], trivial, fun j u e => by simp at e⟩
  | cons c cs ih =>
   intro q hs
   obtain ⟨u, hu, hp⟩ := hs 0 c rfl
   obtain ⟨us, h1, h2⟩ := ih (q + 1) (fun j av e => by rw [show q + 1 + j = q + (j + 1) by omega]; exact hs (j + 1) av (by simpa using e))
   refine ⟨u :: us, ⟨hp, h1⟩, fun j v e => ?_⟩
   cases j with
   | zero => simp at e; subst e; exact hu
   | succ j => rw [show q + (j + 1) = q + 1 + j by omega]; exact h2 j v (by simpa using e)
 have h' : ∀ i (hi : i < xs.length), ∀ j av, (f xs[i])[j]? = some av → ∃ u, cellG G b (o + i * n + j) = some u ∧ av.P G u := fun i hi => by
  obtain ⟨b', o', e, k⟩ := h i hi
  cases e; exact k
 clear h
 induction xs generalizing o with
 | nil => exact ⟨[], trivial, fun j u e => by simp at e⟩
 | cons x xs ih =>
  obtain ⟨vs, h1, h2⟩ := key 0 (f x) o (fun j av e => by have := h' 0 (by simp) j av e; simpa using this)
  obtain ⟨us, h3, h4⟩ := ih (o := o + n) (fun y hy => hn y (by simp [hy])) (fun i hi j av e => by
   have := h' (i + 1) (by simpa using hi) j av (by simpa using e)
   rw [Nat.succ_mul] at this
   rw [show o + n + i * n + j = o + (i * n + n) + j by omega]; exact this)
  have hl := h1.length
  rw [hn x (by simp)] at hl
  refine ⟨vs ++ us, by rw [List.flatMap_cons]; exact h1.append h3, fun j u e => ?_⟩
  by_cases hj : j < n
  ·rw [List.getElem?_append_left (by omega)] at e; exact h2 j u e
  ·rw [List.getElem?_append_right (by omega), hl] at e
   have := h4 (j - n) u e
   rwa [show o + n + (j - n) = o + j by omega] at this
theorem flat_get {α : Type} {f : α → List AV} {n : Nat} : ∀ {xs : List α}, (∀ x ∈ xs, (f x).length = n) → ∀ (i : Nat) (hi : i < xs.length) (j : Nat), j < n → (xs.flatMap f)[i * n + j]? = (f xs[i])[j]?
 | x :: xs, h, 0, _, j, hj => by
  rw [List.flatMap_cons, Nat.zero_mul, Nat.zero_add, List.getElem?_append_left (by rw [h x (by simp)]; exact hj)]
  rfl
 | x :: xs, h, i + 1, hi, j, hj => by
  rw [List.flatMap_cons, show (i + 1) * n + j = n + (i * n + j) by rw [Nat.succ_mul]; omega, List.getElem?_append_right (by rw [h x (by simp)]; omega), h x (by simp), Nat.add_sub_cancel_left]
  exact flat_get (fun y hy => h y (by simp [hy])) i (by simpa using hi) j hj
 | [], _, _, hi, _, _ => absurd hi (Nat.not_lt_zero _)
theorem lenL {α : Type} {f : α → List AV} {n : Nat} : ∀ {xs : List α}, (∀ x ∈ xs, (f x).length = n) → (xs.flatMap f).length = xs.length * n
 | [], _ => by simp
 | x :: xs, h => by rw [List.flatMap_cons, List.length_append, h x (by simp), lenL fun y hy => h y (by simp [hy]), List.length_cons, Nat.succ_mul]; omega
theorem onesF {α : Type} {f : α → List AV} [h : OneF f] : ∀ (xs : List α), OneL (xs.flatMap f)
 | [] => ⟨fun _ hx => by simp at hx⟩
 | x :: xs => ⟨fun c hc => by
  rw [List.flatMap_cons] at hc
  rcases List.mem_append.1 hc with h1 | h1
  ·exact (h.out x).out c h1
  ·exact (onesF xs).out c h1⟩
theorem fr_grown {w w' : World} {v v' : Value} {G : Nat → Option Obj} (hg : w.grownBy w' v.ownBlock) (hb : v'.ownBlock = v.ownBlock ∨ v'.ownBlock = some w.heap.size) : Fr w w' v.ownBlock.toList v'.ownBlock.toList G G :=
 ⟨hg.os, hg.tape, hg.output, hg.size, fun b hb' hn => hg.block b hb' (fun e => hn (by rw [← e]; simp)), fun b hm => by
  rcases hb with h | h
  ·rw [h] at hm; exact .inl hm
  ·rw [h] at hm; simp at hm; exact .inr (by omega), Gle.refl _, fun _ _ h => .inl h⟩
theorem lt_append {α : Type} {x y : Operand} {t e : TypeId} {n : Nat} [hT : TyE P t e n] {v : Value} {f : α → List AV} [hO : OneF f] [hL : LenF f n] {xs ys : List α} (hx : opv rs x = some (.val v)) (hy : opv rs y = some (.sl n f ys)) (hlen : xs.length + ys.length ≤ 1000000) :
  LT P ⟨d, .call { callee := .builtin .append, args := #[x, y], argTypes := #[t, t] }, ty, pos, af, g⟩ rs [.row v e n f xs] (fun x y => ∃ u, x = .val u ∧ y = [.row u e n f (xs ++ ys)]) :=
 LT_eff (fun _ e => by cases e) fun a w G F hR hI => by
  obtain ⟨F1, F2, hp, ⟨vs, hF1, hlf, hfv, hone, hown⟩, h2⟩ := hI.hs
  have h2' : F2 = [] := h2
  subst h2'
  obtain ⟨i, z, hi, hz, hs, hb, hzs⟩ := hT.info
  have e1 : a.eval x = v := opv_ok hR hx
  obtain ⟨ad, c, e2, hc, hsl⟩ : (AV.sl n f ys).P G (a.eval y) := opv_ok hR hy
  obtain ⟨news, hn1, hn2, hn3⟩ : ∃ news : List Value, Fits G (ys.flatMap f) news ∧ (ad = none → ys.length = 0) ∧ ∀ ad', ad = some ad' → ∀ j u, news[j]? = some u → w.cell? (ad'.add j) = some u := by
   cases hys : ys with
   | nil => exact ⟨[], by simp [Fits], fun _ => rfl, fun _ _ j u e => by simp at e⟩
   | cons y0 yt =>
    obtain ⟨b, o, e3, _⟩ := hsl 0 (by rw [hys]; simp)
    subst e3
    obtain ⟨news, h1, h2⟩ := slP_fits (fun x _ => hL.out x) hsl
    rw [hys] at h1
    refine ⟨news, h1, fun e => (by cases e), fun ad' e j u hu => ?_⟩
    cases e
    rw [add_plain]; exact cellG.cell hI.gin (h2 j u hu)
  have hnl : news.length = ys.length * n := by rw [hn1.length, lenL fun x _ => hL.out x]
  obtain ⟨a', c', w', hr, ho', hg', hb'⟩ := run_append_any (P := P) w 0 t ty e i z n i.bytes hT.und hi hz hs rfl hzs hT.pos v xs.length vs hown ad ys.length c news hnl hn2 hn3 (fits_one (onesF ys) hn1) hlen hb (Nat.zero_le _)
  have hF : F.Perm v.ownBlock.toList := by rw [← hF1]; simpa using hp
  have hmem : ∀ b, b ∈ F ↔ b ∈ v.ownBlock.toList := fun b => hF.mem_iff
  have fr0 := fr_grown (G := G) (v' := .slice a' (xs.length + ys.length) c') hg' hb'
  have fr : Fr w w' F (Value.slice a' (xs.length + ys.length) c').ownBlock.toList G G := ⟨fr0.os, fr0.tape, fr0.output, fr0.size, fun b h1 h2 => fr0.same b h1 (fun h => h2 ((hmem b).2 h)), fun b h => (fr0.newF b h).imp (fun h => (hmem b).2 h) id, fr0.gle, fun b o h => .inl h⟩
  have hgn : Gin G w' := fun b o h => by
   have h0 := hI.gin b o h
   by_cases hbF : b ∈ F
   ·have := (hI.own b hbF).2; rw [h] at this; cases this
   ·exact (fr.same b (hI.gin.lt h) hbF).trans h0
  refine ⟨_, w', .slice a' (xs.length + ys.length) c', _, _, G, _, ?_, .inl rfl, ⟨_, rfl, rfl⟩, fr, ⟨hgn, ?_, fun b hb => ?_, _, [], by simp, ⟨vs ++ news, rfl, fun x _ => hL.out x, ?_, ?_, ?_⟩, rfl⟩, rfl⟩
  ·simp [execOp, resolve, e1, e2, invoke, builtin, hr]
  ·cases (Value.slice a' (xs.length + ys.length) c').ownBlock <;> simp
  ·have hlt := (ho'.lt b (by simpa using hb)).2
   refine ⟨hlt, ?_⟩
   rcases fr.newF b hb with h | h
   ·exact (hI.own b h).2
   ·cases hg : G b with
    | none => rfl
    | some o => have := hI.gin.lt hg; omega
  ·rw [List.flatMap_append]; exact hfv.append hn1
  ·intro u hu
   rcases List.mem_append.1 hu with h | h
   ·exact hone u h
   ·exact fits_one (onesF ys) hn1 u h
  ·rw [List.length_append]; exact ho'
inductive Elems {α : Type} (rs : List (Nat × AV)) (f : α → List AV) : Nat → List (Nat × Operand) → List α → Prop
 | nil {k : Nat} : Elems rs f k [] []
 | cons {k : Nat} {x : Operand} {l : List (Nat × Operand)} {av : AV} {ds : List AV} {y : α} {ys : List α} (hx : opv rs x = some av) (hc : CellsOf av ds) (hf : f y = ds) (m : Elems rs f (k + 1) l ys) : Elems rs f k ((k, x) :: l) (y :: ys)
theorem Elems.fill {α : Type} {f : α → List AV} {n : Nat} (hn : ∀ x, (f x).length = n) {a : Act} {G : Nat → Option Obj} (hR : RegOK rs G a) : ∀ {k : Nat} {l : List (Nat × Operand)} {xs : List α}, Elems rs f k l xs → ∀ (pre post : List Value), pre.length = k * n → post.length = xs.length * n →
  ∃ vs : List Value, Fits G (xs.flatMap f) vs ∧ Instr.fill (fun i => some (i * n, n)) (pre ++ post).toArray (l.map fun p => (p.1, a.eval p.2)) = some (pre ++ vs).toArray := by
 intro k l xs h
 induction h with
 | nil => exact fun pre post h1 h2 => ⟨[], trivial, by simp at h2; subst h2; simp [Instr.fill]⟩
 | @cons k x l av ds y ys hx hc hf m ih =>
  intro pre post h1 h2
  obtain ⟨us, hu1, hu2⟩ := hc.out G _ (opv_ok hR hx)
  have hul : us.length = n := by rw [hu2.length, ← hf, hn]
  rw [List.length_cons, Nat.succ_mul] at h2
  obtain ⟨vs, hv1, hv2⟩ := ih (pre ++ us) (post.drop n) (by rw [List.length_append, h1, hul, Nat.succ_mul]) (by rw [List.length_drop]; omega)
  refine ⟨us ++ vs, by rw [List.flatMap_cons, hf]; exact hu2.append hv1, ?_⟩
  have hsz : (a.eval x).cells.size = n := by rw [hu1]; simpa using hul
  have hput : (a.eval x).cells.zipIdx.foldl (fun cs (p : Value × Nat) => cs.setIfInBounds (k * n + p.2) p.1) (pre ++ post).toArray = (pre ++ us ++ post.drop n).toArray := by
   rw [← Array.foldl_toList, Array.toList_zipIdx, hu1, ← h1]
   have key : ∀ (us post : List Value) (j : Nat) (pre0 : List Value), us.length ≤ post.length → pre0.length = pre.length + j → (us.zipIdx j).foldl (fun cs (p : Value × Nat) => cs.setIfInBounds (pre.length + p.2) p.1) (pre0 ++ post).toArray = (pre0 ++ us ++ post.drop us.length).toArray := by
    intro us
    induction us with
    | nil => intro post j pre0 _ _; simp
    | cons u us ih =>
     intro post j pre0 hle hp
     cases post with
     | nil => simp at hle
     | cons q post =>
      have := ih post (j + 1) (pre0 ++ [u]) (by simpa using hle) (by simp [hp]; omega)
      rw [List.zipIdx_cons, List.foldl_cons]
      have hset : (pre0 ++ q :: post).toArray.setIfInBounds (pre.length + j) u = (pre0 ++ [u] ++ post).toArray := by
       rw [← hp]; simp
      rw [hset, this]
      simp
   have := key us post 0 pre (by omega) (by simp)
   rw [hul] at this
   exact this
  simp only [List.map_cons, Instr.fill]
  rw [if_neg (by rw [hsz]; simp; omega), hput, hv2, List.append_assoc]
theorem run_lit {α : Type} {t e : TypeId} {n : Nat} [hT : TyE P t e n] {f : α → List AV} [hL : LenF f n] {l : List (Nat × Operand)} {xs : List α} (h : Elems rs f 0 l xs) {a : Act} {w : World} {G : Nat → Option Obj} (hR : RegOK rs G a) (hx : xs.length * n ≤ 16777216) {len : Nat} (hlen : len = xs.length) :
  ∃ vs : List Value, Fits G (xs.flatMap f) vs ∧ (execOp a.eval ⟨d, .buildSlice t len l.toArray, ty, pos, af, g⟩).run P w = .ok (.value (.slice (some ⟨w.heap.size, 0, none⟩) xs.length xs.length)) (w.alloc (.cells vs.toArray e)) := by
 obtain ⟨i, z, hi, hz, hs, hb, hzs⟩ := hT.info
 subst hlen
 obtain ⟨vs, h1, h2⟩ := h.fill hL.out hR [] ((List.range (xs.length * n)).map (fun j => z.cells[j % z.cells.size]!)) (by simp) (by simp)
 refine ⟨vs, h1, ?_⟩
 have hle : ¬ (16777216 < xs.length * n) := by omega
 have hparts : (l.toArray.map fun (p : Nat × Operand) => (p.1, a.eval p.2)).toList = l.map fun p => (p.1, a.eval p.2) := by simp
 have hfin : ∀ cs : Array Value, ((fun ad : Addr => Value.slice (some ad) xs.length xs.length) <$> newRow e cs).run P w = .ok (.slice (some ⟨w.heap.size, 0, none⟩) xs.length xs.length) (w.alloc (.cells cs e)) := fun cs => by simp [newRow, go_sem]
 by_cases h0 : xs.length * n = 0
 ·rw [h0] at h2
  simp only [List.range_zero, List.map_nil, List.append_nil] at h2
  simp [execOp, Instr.buildSlice, run_underlying hT.und, sizeOf, typeInfo, hi, hs, h0]
  rw [show (Array.map (fun _ : Nat => (default : Value)) (Array.range 0)) = #[] by simp, h2]
  simp only [hfin, List.nil_append, Result.andThen_ok]
 ·have hz0 : ((Array.range (xs.length * n)).map (fun j => z.cells[j % n]!)) = ([] ++ (List.range (xs.length * n)).map (fun j => z.cells[j % z.cells.size]!)).toArray := by
   apply Array.ext'; simp [Array.toList_range, hzs]
  simp [execOp, Instr.buildSlice, run_underlying hT.und, sizeOf, typeInfo, hi, hs, h0, hle, zeroValue, hz, hzs]
  rw [hz0, h2]
  simp only [hfin, List.nil_append, Result.andThen_ok]
theorem new_row {α : Type} {w : World} {G : Nat → Option Obj} (h : Inv G [] [] w) {e : TypeId} {n : Nat} {f : α → List AV} [hO : OneF f] [hL : LenF f n] {xs : List α} {vs : List Value} (hf : Fits G (xs.flatMap f) vs) (hx : xs.length ≤ 1000000) :
  Inv G [w.heap.size] [.row (.slice (some ⟨w.heap.size, 0, none⟩) xs.length xs.length) e n f xs] (w.alloc (.cells vs.toArray e)) := by
 refine ⟨gin_alloc h.gin _, by simp, fun b hb => ?_, [w.heap.size], [], by simp, ⟨vs, rfl, fun x _ => hL.out x, hf, fits_one (onesF xs) hf, ?_⟩, rfl⟩
 ·rw [List.mem_singleton] at hb
  subst hb
  refine ⟨by simp, ?_⟩
  cases hg : G w.heap.size with
  | none => rfl
  | some o => exact absurd (h.gin.lt hg) (Nat.lt_irrefl _)
 ·exact World.ownsRow_lit w _ _ (Nat.zero_le _) (by simp only [maxLen]; omega) (by simp [hf.length, lenL fun x _ => hL.out x])
theorem lt_lit {α : Type} {t e : TypeId} {n len : Nat} [hT : TyE P t e n] {f : α → List AV} [hO : OneF f] [hL : LenF f n] {l : List (Nat × Operand)} {xs : List α} (h : Elems rs f 0 l xs) (hlen : len = xs.length) (hx : xs.length * n ≤ 1000000) :
  LT P ⟨d, .buildSlice t len l.toArray, ty, pos, af, g⟩ rs [] (fun x y => ∃ u, x = .val u ∧ y = [.row u e n f xs]) :=
 LT_eff (fun _ e => by cases e) fun a w G F hR hI => by
  obtain rfl := inv_nil hI
  obtain ⟨vs, h1, h2⟩ := run_lit (P := P) (d := d) (ty := ty) (pos := pos) (af := af) (g := g) (t := t) h (w := w) hR (by omega) hlen
  have hxl : xs.length ≤ 1000000 := Nat.le_trans (Nat.le_mul_of_pos_right _ hT.pos) hx
  exact ⟨_, _, _, _, _, G, _, h2, .inl rfl, ⟨_, rfl, rfl⟩, fr_alloc _ _ _, new_row hI h1 hxl, rfl⟩
def gadd (G : Nat → Option Obj) (b : Nat) (o : Obj) : Nat → Option Obj := fun k => if k = b then some o else G k
theorem gle_add {G : Nat → Option Obj} {b : Nat} {o : Obj} (h : G b = none) : Gle G (gadd G b o) := fun k o' e => by
 unfold gadd
 by_cases hk : k = b
 ·subst hk; rw [h] at e; cases e
 ·rw [if_neg hk]; exact e
theorem row_freeze {α : Type} {G : Nat → Option Obj} {F : List Nat} {w : World} {v : Value} {e : TypeId} {n : Nat} {f : α → List AV} {xs : List α} {rest : List HA} (h : Inv G F (.row v e n f xs :: rest) w) :
  ∃ G' F', Inv G' F' rest w ∧ Fr w w F F' G G' ∧ (AV.sl n f xs).P G' v := by
 obtain ⟨F1, F2, ep, ⟨vs, hF1, hlen, hf, hone, hown⟩, h2⟩ := h.hs
 have nd := ep.nodup_iff.1 h.nd
 have hm : ∀ b, b ∈ F2 → b ∈ F := fun b hb => ep.mem_iff.2 (by simp [hb])
 rcases hown.2 with ⟨rfl, hn0⟩ | ⟨b, cap, cur, rfl, _, hb, hnc, _, hcs, htake⟩
 ·refine ⟨G, F2, ⟨h.gin, (List.nodup_append.1 nd).2.1, fun b hb => h.own b (hm b hb), h2⟩, ⟨rfl, rfl, rfl, Nat.le_refl _, fun _ _ _ => rfl, fun b hb => .inl (hm b hb), Gle.refl _, fun _ _ h => .inl h⟩, none, 0, by rw [hn0], by omega, fun i hi => by omega⟩
 ·have hF1' : F1 = [b] := hF1
  subst hF1'
  have hbF : b ∈ F := ep.mem_iff.2 (by simp)
  have hgb := (h.own b hbF).2
  have hbn : b ∉ F2 := fun hin => (List.nodup_append.1 nd).2.2 b (by simp) b hin rfl
  refine ⟨gadd G b (.cells cur e (0, 0)), F2, ⟨fun k o ek => ?_, (List.nodup_append.1 nd).2.1, fun k hk => ⟨(h.own k (hm k hk)).1, ?_⟩, hsP.mono (gle_add hgb) h2⟩, ⟨rfl, rfl, rfl, Nat.le_refl _, fun _ _ _ => rfl, fun k hk => .inl (hm k hk), gle_add hgb, fun k o ek => ?_⟩, some ⟨b, 0, none⟩, cap, rfl, hnc, fun i hi => ⟨b, 0, rfl, fun j av ej => ?_⟩⟩
  ·unfold gadd at ek
   by_cases hk : k = b
   ·subst hk; rw [if_pos rfl] at ek; cases ek; exact hb
   ·rw [if_neg hk] at ek; exact h.gin k o ek
  ·unfold gadd; rw [if_neg (fun eq => hbn (by rw [← eq]; exact hk))]; exact (h.own k (hm k hk)).2
  ·unfold gadd at ek
   by_cases hk : k = b
   ·subst hk; exact .inr (.inl hbF)
   ·rw [if_neg hk] at ek; exact .inl ek
  ·have hjn : j < n := by
    have := (List.getElem?_eq_some_iff.1 ej).1
    rwa [hlen _ (List.getElem_mem hi)] at this
   obtain ⟨u, hu, hp⟩ := hf.get (i := i * n + j) (av := av) (by
    rw [flat_get hlen i hi j hjn]; exact ej)
   refine ⟨u, ?_, av.mono (gle_add hgb) hp⟩
   have hlt : i * n + j < xs.length * n := by
    calc i * n + j < i * n + n := by omega
     _ = (i + 1) * n := (Nat.succ_mul i n).symm
     _ ≤ xs.length * n := Nat.mul_le_mul_right n hi
   unfold cellG gadd
   rw [if_pos rfl]
   simp only [Nat.zero_add]
   rw [← htake, List.getElem?_take, if_pos hlt] at hu
   simpa using hu
theorem LT_frz {α : Type} {o : Oper} {cons : List HA} {e : TypeId} {n : Nat} {f : α → List AV} {xs : List α} (h : LT P o rs cons (fun x y => ∃ u, x = .val u ∧ y = [.row u e n f xs])) : LT P o rs cons (Is (.sl n f xs) []) := by
 refine ⟨?_⟩
 intro F m hF a w G Fp K Q hR hI hk
 refine h.go F m hF a w G Fp K Q hR hI fun v av prod G' F' w' ⟨u, e1, e2⟩ hfr hi hv => ?_
 subst e1 e2
 have hv' : v = u := hv
 subst hv'
 obtain ⟨G'', F'', h1, h2, h3⟩ := row_freeze hi
 exact hk v _ _ G'' F'' w' ⟨rfl, rfl⟩ (hfr.trans h2) h1 h3
theorem slP_drop {α : Type} {G : Nat → Option Obj} {n : Nat} {f : α → List AV} {b o : Nat} {xs : List α} (h : SlP G n f (some ⟨b, o, none⟩) xs) (k : Nat) : SlP G n f (some ⟨b, o + k * n, none⟩) (xs.drop k) := fun i hi => by
 rw [List.length_drop] at hi
 obtain ⟨b', o', e1, h1⟩ := h (k + i) (by omega)
 cases e1
 refine ⟨b, o + k * n, rfl, fun j av e => ?_⟩
 rw [List.getElem_drop] at e
 obtain ⟨u, hu⟩ := h1 j av e
 rw [Nat.add_mul] at hu
 exact ⟨u, by rw [show o + k * n + i * n + j = o + (k * n + i * n) + j by omega]; exact hu.1, hu.2⟩
theorem slP_take {α : Type} {G : Nat → Option Obj} {n : Nat} {f : α → List AV} {a : Option Addr} {xs : List α} (h : SlP G n f a xs) (k : Nat) : SlP G n f a (xs.take k) := fun i hi => by
 rw [List.length_take] at hi
 obtain ⟨b, o, e1, h1⟩ := h i (by omega)
 refine ⟨b, o, e1, fun j av e => ?_⟩
 rw [List.getElem_take] at e
 exact h1 j av e
theorem run_sliceAt {t e : TypeId} {n : Nat} [hT : TyE P t e n] {w : World} {ad : Option Addr} {len cap : Nat} {lo hi : Option Value} {l h : Nat} (hlo : lo = some (.int .i64 (l : Int)) ∨ (lo = none ∧ l = 0)) (hhi : hi = some (.int .i64 (h : Int)) ∨ (hi = none ∧ h = len)) (h1 : l ≤ h) (h2 : h ≤ cap) (h3 : len ≤ cap) :
  (Instr.sliceAt t (.slice ad len cap) lo hi none).run P w = .ok (.slice (if cap = l then ad else ad.map (·.add (l * n))) (h - l) (cap - l)) w := by
 obtain ⟨i, z, hi', _, hs, _⟩ := hT.info
 have hb : ∀ (x : Nat) (y : Nat) (code : BoundsCode), x ≤ y → (Instr.sliceBound (.int .i64 (x : Int)) y code).run P w = .ok x w := fun x y code hxy => by
  have : (0 : Int) ≤ (x : Int) ∧ (x : Int) ≤ (y : Int) := by omega
  simp [Instr.sliceBound, asIntOf, this]
 rcases hlo with rfl | ⟨rfl, rfl⟩ <;> rcases hhi with rfl | ⟨rfl, rfl⟩ <;>
  simp [Instr.sliceAt, Instr.slice, Instr.sliceBounds, run_underlying hT.und, sizeOf, typeInfo, hi', hs, hb _ _ _ h1, hb _ _ _ h2]
theorem lt_slice {α : Type} {x : Operand} {lo hi : Option Operand} {t e : TypeId} {n : Nat} [hT : TyE P t e n] {f : α → List AV} {xs : List α} {l h : Nat} {li hi' : Int} (hx : opv rs x = some (.sl n f xs))
  (hlo : lo.map (opv rs) = some (some (.val (.int .i64 li))) ∨ (lo = none ∧ li = 0)) (hl : li = (l : Int))
  (hhi : hi.map (opv rs) = some (some (.val (.int .i64 hi'))) ∨ (hi = none ∧ hi' = (xs.length : Int))) (hh : hi' = (h : Int)) (h1 : l ≤ h) (h2 : h ≤ xs.length) :
  LT P ⟨d, .slice t x lo hi none, ty, pos, af, g⟩ rs [] (Is (.sl n f ((xs.take h).drop l)) []) :=
 LT_val (fun _ e => by cases e) fun a w G hR hG => by
  obtain ⟨ad, c, e1, hc, hs⟩ : (AV.sl n f xs).P G (a.eval x) := opv_ok hR hx
  have hlo' : lo.map a.eval = some (.int .i64 (l : Int)) ∨ (lo.map a.eval = none ∧ l = 0) := by
   rcases hlo with h | ⟨rfl, rfl⟩
   ·cases lo with
    | none => simp at h
    | some y =>
     simp only [Option.map_some, Option.some.injEq] at h
     have : a.eval y = _ := opv_ok hR h
     left; rw [Option.map_some, this, hl]
   ·right; exact ⟨rfl, by omega⟩
  have hhi' : hi.map a.eval = some (.int .i64 (h : Int)) ∨ (hi.map a.eval = none ∧ h = xs.length) := by
   rcases hhi with h' | ⟨rfl, h'⟩
   ·cases hi with
    | none => simp at h'
    | some y =>
     simp only [Option.map_some, Option.some.injEq] at h'
     have : a.eval y = _ := opv_ok hR h'
     left; rw [Option.map_some, this, hh]
   ·right; exact ⟨rfl, by omega⟩
  have hr := run_sliceAt (P := P) (t := t) (w := w) (ad := ad) hlo' hhi' h1 (by omega) hc
  have hlen : ((xs.take h).drop l).length = h - l := by rw [List.length_drop, List.length_take]; omega
  refine ⟨_, ⟨if c = l then ad else ad.map (·.add (l * n)), c - l, rfl, by rw [hlen]; omega, ?_⟩, ?_⟩
  ·by_cases hcl : c = l
   ·intro i hi; rw [hlen] at hi; omega
   ·rw [if_neg hcl]
    cases had : ad with
    | none =>
     intro i hi
     rw [hlen] at hi
     obtain ⟨b, o, e, _⟩ := hs 0 (by omega)
     rw [had] at e; cases e
    | some ad' =>
     by_cases h0 : xs.length = 0
     ·intro i hi; rw [hlen] at hi; omega
     ·obtain ⟨b, o, e, _⟩ := hs 0 (by omega)
      rw [had] at e; cases e
      rw [Option.map_some, add_plain]
      rw [had] at hs
      exact slP_drop (slP_take hs h) l
  ·rw [hlen]
   simp only [execOp, e1, Option.map_none, Sem.run_bind, hr]
   rfl
end
theorem st_nil {α : Type} {c : Cx} {rs : List (Nat × AV)} {hs : List HA} {a : Act} {w : World} (e : TypeId) (n : Nat) (f : α → List AV) (st : St c ⟨rs, hs⟩ a w) : St c ⟨rs, .row (.slice none 0 0) e n f [] :: hs⟩ a w := by
 obtain ⟨G, F, hI, r⟩ := st
 exact ⟨G, F, ⟨hI.gin, hI.nd, hI.own, [], F, .refl _, ⟨[], rfl, fun _ h => (by cases h), trivial, fun _ h => (by cases h), ⟨by simp, .inl ⟨rfl, rfl⟩⟩⟩, hI.hs⟩, r⟩
theorem WL_one {α : Type} {c : Cx} {rs : List (Nat × AV)} {hs : List HA} {Q : Exit → S → Prop} {ops : Array Oper} {l : List Oper} {e : TypeId} {n : Nat} {f : α → List AV} {xs : List α} {v : Value} {g : HA → List HA} (hat : At hs (.row v e n f xs) g) (k : One (.val v) → WL c ops l ⟨rs, hs⟩ Q) : WL c ops l ⟨rs, hs⟩ Q := ⟨fun a w st => by
 have st' := st
 obtain ⟨G, F, hI, _⟩ := st'
 obtain ⟨rest, hs'⟩ := hat.sel
 obtain ⟨F1, F2, _, ⟨vs, _, _, _, _, hown⟩, _⟩ := (hs' _ G F w).1 (by rw [hat.self]; exact hI.hs)
 refine (k ⟨fun G v' h => ?_⟩).out a w st
 have h' : v' = v := h
 subst h'
 rcases hown.2 with ⟨rfl, _⟩ | ⟨g, cap, cur, rfl, _⟩ <;> rfl⟩
class ZeroF {α : Type} (P : Program) (e : TypeId) (f : α → List AV) (x0 : outParam α) : Prop where
 out : ∃ z, (∃ i, P.info? e = some i ∧ i.zero = some z) ∧ ∃ zs : List Value, z.cells = zs.toArray ∧ ∀ G, Fits G (f x0) zs
section
variable {P : Program} {rs : List (Nat × AV)} {d : Option Nat} {ty : TypeId} {pos : String} {af : Array Edge} {g : Option (Nat × Bool)}
theorem row_val {α : Type} {w : World} {G : Nat → Option Obj} {F : List Nat} {v : Value} {e : TypeId} {n : Nat} {f : α → List AV} {xs : List α} (h : (HA.row v e n f xs).P G F w) : (v = .slice none 0 0 ∧ xs = []) ∨ ∃ b cap cur vs, v = .slice (some ⟨b, 0, none⟩) xs.length cap ∧ xs.length ≤ cap ∧ F = [b] ∧ w.heap[b]? = some (.cells cur e (0, 0)) ∧ cur.size = cap * n ∧ (∀ x ∈ xs, (f x).length = n) ∧ Fits G (xs.flatMap f) vs ∧ cur.toList.take (xs.length * n) = vs ∧ (∀ u ∈ vs, u.oneCell' = true) ∧ cap ≤ maxLen := by
 obtain ⟨vs, hF, hl, hf, hone, hown⟩ := h
 rcases hown.2 with ⟨rfl, hn0⟩ | ⟨b, cap, cur, rfl, _, hb, hnc, hcm, hcs, htake⟩
 ·exact .inl ⟨rfl, List.eq_nil_of_length_eq_zero hn0⟩
 ·exact .inr ⟨b, cap, cur, vs, rfl, hnc, hF, hb, hcs, hl, hf, htake, hone, hcm⟩
theorem lt_indexRow {α : Type} {x y : Operand} {t e e' : TypeId} {n : Nat} [hT : TyS P t e' n] {v : Value} {f : α → List AV} {xs : List α} {i : Int} {k : Nat} {kd : IntKind} (hx : opv rs x = some (.val v)) (hy : opv rs y = some (.val (.int kd i))) (hi : i = (k : Int)) (hk : k < xs.length) :
  LT P ⟨d, .indexAddr t x y, ty, pos, af, g⟩ rs [.row v e n f xs] (Is (.rat v n k 0) [.row v e n f xs]) :=
 LT_read (fun _ e => by cases e) fun a w G F hR hG hrow => by
  have e1 : a.eval x = _ := opv_ok hR hx
  have e2 : a.eval y = _ := opv_ok hR hy
  rcases row_val hrow with ⟨_, rfl⟩ | ⟨b, cap, cur, vs, rfl, hnc, _⟩
  ·exact absurd hk (Nat.not_lt_zero _)
  ·subst hi
   refine ⟨.pointer (some ⟨b, k * n, none⟩), ⟨b, _, cap, rfl, by rw [Nat.add_zero]⟩, ?_⟩
   simp only [execOp, e1, e2, Sem.run_bind]
   have h2 : (Instr.indexAt t (.slice (some ⟨b, 0, none⟩) xs.length cap) (.int kd k)).run P w = .ok (.pointer (some ⟨b, 0 + k * n, none⟩)) w := by
    have hk' : (0 : Int) ≤ (k : Int) ∧ (k : Int) < (xs.length : Int) := by omega
    simp [Instr.indexAt, asIntOf, run_underlying hT.und, hk', hT.size w, add_plain]
    intro h'; omega
   rw [h2, Nat.zero_add]
   rfl
theorem lt_lenRow {α : Type} {x : Operand} {t e e' : TypeId} {n n' : Nat} [hT : TyS P t e' n'] {v : Value} {f : α → List AV} {xs : List α} (hx : opv rs x = some (.val v)) :
  LT P ⟨d, .call { callee := .builtin .len, args := #[x], argTypes := #[t] }, ty, pos, af, g⟩ rs [.row v e n f xs] (Is (.val (.int .i64 xs.length)) [.row v e n f xs]) :=
 LT_read (fun _ e => by cases e) fun a w G F hR hG hrow => by
  have e1 : a.eval x = _ := opv_ok hR hx
  refine ⟨_, rfl, ?_⟩
  rcases row_val hrow with ⟨rfl, rfl⟩ | ⟨b, cap, cur, vs, rfl, hnc, _⟩ <;>
   simp [execOp, resolve, e1, invoke, builtin, Builtin.len_, run_underlying hT.und, goInt]
theorem lt_loadR1 {α : Type} {x : Operand} {t e : TypeId} {n k j : Nat} [hT : Ty1 P t] {v : Value} {f : α → List AV} {xs : List α} {av : AV} (hx : opv rs x = some (.rat v n k j)) (hk : k < xs.length) (hc : (f xs[k])[j]? = some av) : LT P ⟨d, .load t x, ty, pos, af, g⟩ rs [.row v e n f xs] (Is av [.row v e n f xs]) :=
 LT_read (fun _ e => by cases e) fun a w G F hR hG hrow => by
  obtain ⟨b', len, cap', ev, e1⟩ : (AV.rat v n k j).P G (a.eval x) := opv_ok hR hx
  rcases row_val hrow with ⟨_, rfl⟩ | ⟨b, cap, cur, vs, ev', hnc, _, hb, hcs, hl, hf, htake, _⟩
  ·exact absurd hk (Nat.not_lt_zero _)
  ·rw [ev] at ev'
   simp only [Value.slice.injEq, Option.some.injEq, Addr.mk.injEq] at ev'
   obtain ⟨⟨rfl, _⟩, rfl, rfl⟩ := ev'
   have hjn : j < n := by
    have := (List.getElem?_eq_some_iff.1 hc).1
    rwa [hl _ (List.getElem_mem hk)] at this
   obtain ⟨u, hu, hp⟩ := hf.get (i := k * n + j) (av := av) (by rw [flat_get hl k hk j hjn]; exact hc)
   refine ⟨u, hp, ?_⟩
   have hlt : k * n + j < xs.length * n := by
    calc k * n + j < k * n + n := by omega
     _ = (k + 1) * n := (Nat.succ_mul k n).symm
     _ ≤ xs.length * n := Nat.mul_le_mul_right n hk
   have hcell : w.cell? ⟨b', k * n + j, none⟩ = some u := by
    rw [cell_of_row w b' _ _ _ _ hb]
    rw [← htake, List.getElem?_take, if_pos hlt] at hu
    simpa using hu
   simp only [execOp, e1, Sem.run_bind]
   rw [run_load1 hcell]
   rfl
theorem flat_set {α : Type} {f : α → List AV} {n : Nat} {x' : α} {av : AV} : ∀ {xs : List α}, (∀ x ∈ xs, (f x).length = n) → ∀ (k : Nat) (hk : k < xs.length) (j : Nat), j < n → f x' = (f xs[k]).set j av → (xs.set k x').flatMap f = (xs.flatMap f).set (k * n + j) av
 | x :: xs, h, 0, _, j, hj, he => by
  rw [List.set_cons_zero, List.flatMap_cons, List.flatMap_cons, Nat.zero_mul, Nat.zero_add, List.set_append_left _ _ (by rw [h x (by simp)]; exact hj), he]
  rfl
 | x :: xs, h, k + 1, hk, j, hj, he => by
  rw [List.set_cons_succ, List.flatMap_cons, List.flatMap_cons, List.set_append_right _ _ (by rw [h x (by simp), Nat.succ_mul]; omega), h x (by simp), show (k + 1) * n + j - n = k * n + j by rw [Nat.succ_mul]; omega, flat_set (fun y hy => h y (by simp [hy])) k (by simpa using hk) j hj he]
 | [], _, _, hk, _, _, _ => absurd hk (Nat.not_lt_zero _)
theorem lt_storeR1 {α : Type} {x y : Operand} {t e : TypeId} {n k j : Nat} [hs : TySz P t 1] {v : Value} {f : α → List AV} {xs : List α} {av : AV} {x' : α} [ho : One av] (hx : opv rs x = some (.rat v n k j)) (hy : opv rs y = some av) (hk : k < xs.length) (hj : j < n) (hf' : f x' = (f xs[k]).set j av) :
  LT P ⟨d, .store t x y, ty, pos, af, g⟩ rs [.row v e n f xs] (Is (.val undef) [.row v e n f (xs.set k x')]) :=
 LT_eff (fun _ e => by cases e) fun a w G F hR hI => by
  obtain ⟨F1, F2, ep, hrow, h2⟩ := hI.hs
  have h2' : F2 = [] := h2
  subst h2'
  obtain ⟨b', len, cap', ev, e1⟩ : (AV.rat v n k j).P G (a.eval x) := opv_ok hR hx
  rcases row_val hrow with ⟨_, rfl⟩ | ⟨b, cap, cur, vs, ev', hnc, hF1, hb, hcs, hl, hf, htake, hone, hcm⟩
  ·exact absurd hk (Nat.not_lt_zero _)
  ·rw [ev] at ev'
   simp only [Value.slice.injEq, Option.some.injEq, Addr.mk.injEq] at ev'
   obtain ⟨⟨rfl, _⟩, rfl, rfl⟩ := ev'
   subst hF1
   have hF : F = [b'] := List.perm_singleton.1 (by simpa using ep)
   subst hF
   have hu := opv_ok hR hy
   obtain ⟨u, hue⟩ : ∃ u, a.eval y = u := ⟨_, rfl⟩
   rw [hue] at hu
   have huo := ho.out _ _ hu
   have hg := (hI.own b' (by simp)).2
   obtain ⟨f1, f2⟩ := fr_setRow hI.gin hg (cur.setIfInBounds (k * n + j) u)
   have hlt : k * n + j < xs.length * n := by
    calc k * n + j < k * n + n := by omega
     _ = (k + 1) * n := (Nat.succ_mul k n).symm
     _ ≤ xs.length * n := Nat.mul_le_mul_right n hk
   have hlc : xs.length * n ≤ cap' * n := Nat.mul_le_mul_right n hnc
   have hlx : (f x').length = n := by rw [hf', List.length_set]; exact hl _ (List.getElem_mem hk)
   have hl' : ∀ y ∈ xs.set k x', (f y).length = n := fun y hy => by
    rcases List.mem_or_eq_of_mem_set hy with h | rfl
    ·exact hl y h
    ·exact hlx
   refine ⟨_, w.setRow b' (cur.setIfInBounds (k * n + j) u), undef, _, _, G, [b'], ?_, .inr ⟨rfl, rfl⟩, ⟨rfl, rfl⟩, f1, ⟨f2, by simp, fun q hq => ?_, [b'], [], by simp, ⟨vs.set (k * n + j) u, by rw [ev]; rfl, hl', ?_, ?_, ?_⟩, rfl⟩, rfl⟩
   ·have hst : (storeCells ⟨b', k * n + j, none⟩ [u]).run P w = .ok () (w.setRow b' (cur.setIfInBounds (k * n + j) u)) := by
     have := run_storeCells_at P b' (k * n + j) e [u] 0 cur w hb (by simp; omega) (fun q hq => by rw [List.mem_singleton] at hq; rw [hq]; exact huo)
     rw [this]
     congr 2
     apply Array.ext'
     simp only [Nat.add_zero, List.length_singleton, Array.toList_setIfInBounds]
     rw [List.set_eq_take_append_cons_drop, if_pos (by simp; omega)]
     simp
    simp only [execOp, e1, Instr.storeAt, Instr.sureAddr, storeVar, Sem.run_bind, Sem.run_pure, Result.andThen_ok, hue, cells_one huo, hs.size w]
    simp [hst]
   ·rw [List.mem_singleton] at hq; subst hq; simp only [setRow_size]; exact hI.own _ (by simp)
   ·rw [flat_set hl k hk j hj hf']
    exact hf.set _ hu
   ·intro q hq
    rcases List.mem_or_eq_of_mem_set hq with h | rfl
    ·exact hone q h
    ·exact huo
   ·rw [ev]
    refine ⟨by rw [List.length_set, hf.length, lenL hl, List.length_set], .inr ⟨b', cap', _, by rw [List.length_set], Nat.zero_le _, setRow_heap w b' _ _ e _ hb, by rw [List.length_set]; exact hnc, hcm, by simpa using hcs, ?_⟩⟩
    rw [List.length_set, Array.toList_setIfInBounds, List.take_set, htake]
class TyB (P : Program) (t : TypeId) (zs : outParam (List Value)) (pl : outParam (Nat → Option (Nat × Nat))) : Prop where
 run : ∀ w parts cells, Instr.fill pl zs.toArray parts.toList = some cells → (Instr.build t parts).run P w = .ok (.agg cells) w
theorem tyB_struct {P : Program} {t : TypeId} {z : Value} {zs : List Value} {fs : Array Field} {pl : Array (Nat × Nat)} (h1 : ∀ w, (zeroValue t).run P w = .ok z w) (h4 : z.cells = zs.toArray) (h2 : P.underlying t = some (.struct fs)) (h3 : ∀ w, (fs.mapM (fun f => do pure (f.offset, ← sizeOf f.type) : Field → Sem (Nat × Nat))).run P w = .ok pl w) : TyB P t zs (fun i => pl[i]?) :=
 ⟨fun w parts cells h => by
  simp only [Instr.build, Sem.run_bind, h1, Result.andThen_ok, run_underlying h2, h3, h4, h, Sem.run_pure]⟩
theorem tyB_array {P : Program} {t e : TypeId} {z : Value} {zs : List Value} {n s : Nat} (h1 : ∀ w, (zeroValue t).run P w = .ok z w) (h4 : z.cells = zs.toArray) (h2 : P.underlying t = some (.array n e)) (h3 : ∀ w, (sizeOf e).run P w = .ok s w) : TyB P t zs (fun i => some (i * s, s)) :=
 ⟨fun w parts cells h => by
  simp only [Instr.build, Sem.run_bind, h1, Result.andThen_ok, run_underlying h2, h3, h4, h, Sem.run_pure]⟩
inductive Parts (rs : List (Nat × AV)) (pl : Nat → Option (Nat × Nat)) : List AV → List (Nat × Operand) → List AV → Prop
 | nil {cs : List AV} : Parts rs pl cs [] cs
 | cons {cs cs' : List AV} {i off n : Nat} {x : Operand} {l : List (Nat × Operand)} {av : AV} {ds : List AV} (hx : opv rs x = some av) (hp : pl i = some (off, n)) (hc : CellsOf av ds) (hn : ds.length = n) (hj : off + n ≤ cs.length) (k : Parts rs pl (spl cs off ds) l cs') : Parts rs pl cs ((i, x) :: l) cs'
theorem fold_put (off : Nat) : ∀ (us pre post : List Value), pre.length = off → us.length ≤ post.length → ∀ (j : Nat) (pre0 : List Value), pre0.length = off + j → (us.zipIdx j).foldl (fun cs (p : Value × Nat) => cs.setIfInBounds (off + p.2) p.1) (pre0 ++ post).toArray = (pre0 ++ us ++ post.drop us.length).toArray
 | [], pre, post, _, _, j, pre0, _ => by simp
 | u :: us, pre, post, h1, h2, j, pre0, h3 => by
  cases post with
  | nil => simp at h2
  | cons q post =>
   have := fold_put off us pre post h1 (by simpa using h2) (j + 1) (pre0 ++ [u]) (by simp [h3]; omega)
   rw [List.zipIdx_cons, List.foldl_cons]
   have hset : (pre0 ++ q :: post).toArray.setIfInBounds (off + j) u = (pre0 ++ [u] ++ post).toArray := by
    rw [← h3]; simp
   rw [hset, this]
   simp
theorem Parts.fill {pl : Nat → Option (Nat × Nat)} {a : Act} {G : Nat → Option Obj} (hR : RegOK rs G a) : ∀ {cs : List AV} {l : List (Nat × Operand)} {cs' : List AV}, Parts rs pl cs l cs' → ∀ (vs : List Value), Fits G cs vs → ∃ vs' : List Value, Fits G cs' vs' ∧ Instr.fill pl vs.toArray (l.map fun p => (p.1, a.eval p.2)) = some vs'.toArray := by
 intro cs l cs' h
 induction h with
 | nil => exact fun vs h => ⟨vs, h, rfl⟩
 | @cons cs cs' i off n x l av ds hx hp hc hn hj k ih =>
  intro vs hf
  obtain ⟨us, hu1, hu2⟩ := hc.out G _ (opv_ok hR hx)
  have hul : us.length = n := by rw [hu2.length, hn]
  have hvl := hf.length
  obtain ⟨vs', h1, h2⟩ := ih (vs.take off ++ us ++ vs.drop (off + us.length)) (by
   unfold spl
   rw [← hu2.length]
   exact ((hf.take off).append hu2).append (hf.drop _))
  refine ⟨vs', h1, ?_⟩
  have hsz : (a.eval x).cells.size = n := by rw [hu1]; simpa using hul
  have hput : (a.eval x).cells.zipIdx.foldl (fun cs (p : Value × Nat) => cs.setIfInBounds (off + p.2) p.1) vs.toArray = (vs.take off ++ us ++ vs.drop (off + us.length)).toArray := by
   rw [← Array.foldl_toList, Array.toList_zipIdx, hu1]
   have := fold_put off us (vs.take off) (vs.drop off) (by rw [List.length_take]; omega) (by rw [List.length_drop]; omega) 0 (vs.take off) (by rw [List.length_take]; omega)
   rw [List.take_append_drop, List.drop_drop] at this
   exact this
  simp only [List.map_cons, Instr.fill, hp]
  rw [if_neg (by rw [hsz]; simp; omega), hput, h2]
theorem lt_build {t : TypeId} {zs : List Value} {pl : Nat → Option (Nat × Nat)} [hB : TyB P t zs pl] {l : List (Nat × Operand)} {cs : List AV} (h : Parts rs pl (zs.map AV.val) l cs) :
  LT P ⟨d, .build t l.toArray, ty, pos, af, g⟩ rs [] (Is (.agg cs) []) :=
 LT_val (fun _ e => by cases e) fun a w G hR hG => by
  have hz : Fits G (zs.map AV.val) zs := by
   clear h hB
   induction zs with
   | nil => trivial
   | cons z zs ih => exact ⟨rfl, ih⟩
  obtain ⟨vs, h1, h2⟩ := h.fill hR zs hz
  refine ⟨.agg vs.toArray, ⟨vs, rfl, h1⟩, ?_⟩
  have := hB.run w (l.toArray.map fun (p : Nat × Operand) => (p.1, a.eval p.2)) vs.toArray (by simpa using h2)
  simp only [execOp, Sem.run_bind, this]
  rfl
class TyQ (P : Program) (t : TypeId) (n : outParam Nat) : Prop where
 run : ∀ (x y : Operand) (xs ys : List Int) w, xs.length = n → ys.length = n → (eqGuard .eql t x y (.agg (xs.map (Value.int .i64)).toArray) (.agg (ys.map (Value.int .i64)).toArray)).run P w = .ok () w ∧ (eqGuard .neq t x y (.agg (xs.map (Value.int .i64)).toArray) (.agg (ys.map (Value.int .i64)).toArray)).run P w = .ok () w ∧
  (binOp .eql t (.agg (xs.map (Value.int .i64)).toArray) (.agg (ys.map (Value.int .i64)).toArray)).run P w = .ok (.bool (decide (xs = ys))) w ∧ (binOp .neq t (.agg (xs.map (Value.int .i64)).toArray) (.agg (ys.map (Value.int .i64)).toArray)).run P w = .ok (.bool (!decide (xs = ys))) w
inductive Ints : List AV → List Int → Prop
 | nil : Ints [] []
 | cons {x : Int} {cs : List AV} {xs : List Int} (k : Ints cs xs) : Ints (.val (.int .i64 x) :: cs) (x :: xs)
theorem Ints.fits {G : Nat → Option Obj} {cs : List AV} {xs : List Int} (h : Ints cs xs) : ∀ {vs : List Value}, Fits G cs vs → vs = xs.map (Value.int .i64) := by
 induction h with
 | nil => intro vs hf; cases vs with | nil => rfl | cons _ _ => exact hf.elim
 | cons k ih =>
  intro vs hf
  cases vs with
  | nil => exact hf.elim
  | cons v vs => rw [List.map_cons, ← ih hf.2, show v = _ from hf.1]
theorem Ints.len {cs : List AV} {xs : List Int} (h : Ints cs xs) : cs.length = xs.length := by
 induction h with
 | nil => rfl
 | cons k ih => simp [ih]
theorem lt_eqlN {x y : Operand} {t t' : TypeId} {n : Nat} [hQ : TyQ P t n] {cs ds : List AV} {xs ys : List Int} (hx : opv rs x = some (.agg cs)) (hy : opv rs y = some (.agg ds)) (h1 : Ints cs xs) (h2 : Ints ds ys) (hn : xs.length = n) (hn2 : ys.length = n) :
  LT P ⟨d, .binOp .eql t x y t', ty, pos, af, g⟩ rs [] (Is (.val (.bool (decide (xs = ys)))) []) :=
 LT_val (fun _ e => by cases e) fun a w G hR hG => by
  obtain ⟨vs, e1, f1⟩ : (AV.agg cs).P G (a.eval x) := opv_ok hR hx
  obtain ⟨us, e2, f2⟩ : (AV.agg ds).P G (a.eval y) := opv_ok hR hy
  rw [h1.fits f1] at e1
  rw [h2.fits f2] at e2
  obtain ⟨q1, q2, q3, q4⟩ := hQ.run x y xs ys w hn hn2
  refine ⟨_, rfl, ?_⟩
  simp only [execOp, e1, e2, Sem.run_bind, q1, q3, Result.andThen_ok]
  rfl
theorem lt_neqN {x y : Operand} {t t' : TypeId} {n : Nat} [hQ : TyQ P t n] {cs ds : List AV} {xs ys : List Int} (hx : opv rs x = some (.agg cs)) (hy : opv rs y = some (.agg ds)) (h1 : Ints cs xs) (h2 : Ints ds ys) (hn : xs.length = n) (hn2 : ys.length = n) :
  LT P ⟨d, .binOp .neq t x y t', ty, pos, af, g⟩ rs [] (Is (.val (.bool (!decide (xs = ys)))) []) :=
 LT_val (fun _ e => by cases e) fun a w G hR hG => by
  obtain ⟨vs, e1, f1⟩ : (AV.agg cs).P G (a.eval x) := opv_ok hR hx
  obtain ⟨us, e2, f2⟩ : (AV.agg ds).P G (a.eval y) := opv_ok hR hy
  rw [h1.fits f1] at e1
  rw [h2.fits f2] at e2
  obtain ⟨q1, q2, q3, q4⟩ := hQ.run x y xs ys w hn hn2
  refine ⟨_, rfl, ?_⟩
  simp only [execOp, e1, e2, Sem.run_bind, q2, q4, Result.andThen_ok]
  rfl
class TyA (P : Program) (t : TypeId) (len : outParam Nat) (n : outParam Nat) : Prop where
 und : ∃ e, P.underlying t = some (.array len e) ∧ ∀ w, (sizeOf e).run P w = .ok n w
 many : 2 ≤ len
theorem lt_indexArr {x y : Operand} {t tb : TypeId} {len n : Nat} [hT : TyA P t len n] {p : Value} {cs : List AV} {i : Int} {k : Nat} {kd : IntKind} (hx : opv rs x = some (.val p)) (hy : opv rs y = some (.val (.int kd i))) (hi : i = (k : Int)) (hk : k < len) :
  LT P ⟨d, .indexAddr t x y, ty, pos, af, g⟩ rs [.box p cs tb] (Is (.at p (k * n)) [.box p cs tb]) :=
 LT_read (fun _ e => by cases e) fun a w G F hR hG ⟨b, vs, hp, _, hf, hb⟩ => by
  have e1 : a.eval x = _ := opv_ok hR hx
  have e2 : a.eval y = _ := opv_ok hR hy
  obtain ⟨e, hu, hsz⟩ := hT.und
  have hm := hT.many
  subst hi
  refine ⟨.pointer (some ⟨b, k * n, none⟩), ⟨b, hp, rfl⟩, ?_⟩
  simp only [execOp, e1, e2, hp, Sem.run_bind]
  have h2 : (Instr.indexAt t (.pointer (some ⟨b, 0, none⟩)) (.int kd k)).run P w = .ok (.pointer (some ⟨b, 0 + k * n, none⟩)) w := by
   have hk' : (0 : Int) ≤ (k : Int) ∧ (k : Int) < (len : Int) := by omega
   simp [Instr.indexAt, asIntOf, run_underlying hu, hk', hsz w, add_plain, Instr.sureAddr]
   intro h'; omega
  rw [h2, Nat.zero_add]
  rfl
end
section
variable {c : Cx} {rs : List (Nat × AV)} {hs : List HA} {Q : Exit → S → Prop} {ops : Array Oper} {tl : List Oper} {d : Nat} {ty : TypeId} {pos : String} {af : Array Edge}
theorem wl_move {x : Operand} {av : AV} (h : opv rs x = some av) (hd : Nat.blt d c.nt = true) (k : WL c ops tl ⟨(d, av) :: rs, hs⟩ Q) : WL c ops (⟨some d, .move x, ty, pos, af, none⟩ :: tl) ⟨rs, hs⟩ Q := wl_ex (lt_move h) hd k
theorem wl_assign {x : Operand} {av : AV} (h : opv rs x = some av) (hd : Nat.blt d c.nt = true) (k : WL c ops tl ⟨(d, av) :: rs, hs⟩ Q) : WL c ops (⟨some d, .assign x, ty, pos, af, none⟩ :: tl) ⟨rs, hs⟩ Q := wl_ex (lt_assign h) hd k
theorem wl_add {x y : Operand} {m n : Int} {t t' : TypeId} (hx : opv rs x = some (.val (.int .i64 m))) (hy : opv rs y = some (.val (.int .i64 n))) (h1 : -9223372036854775808 ≤ m + n) (h2 : m + n ≤ 9223372036854775807) (hd : Nat.blt d c.nt = true) (k : WL c ops tl ⟨(d, .val (.int .i64 (m + n))) :: rs, hs⟩ Q) : WL c ops (⟨some d, .binOp .add t x y t', ty, pos, af, none⟩ :: tl) ⟨rs, hs⟩ Q := wl_ex (lt_add hx hy h1 h2) hd k
theorem wl_lss {x y : Operand} {m n : Int} {kd : IntKind} {t t' : TypeId} (hx : opv rs x = some (.val (.int kd m))) (hy : opv rs y = some (.val (.int kd n))) (hd : Nat.blt d c.nt = true) (k : WL c ops tl ⟨(d, .val (.bool (decide (m < n)))) :: rs, hs⟩ Q) : WL c ops (⟨some d, .binOp .lss t x y t', ty, pos, af, none⟩ :: tl) ⟨rs, hs⟩ Q := wl_ex (lt_lss hx hy) hd k
theorem wl_gtr {x y : Operand} {m n : Int} {kd : IntKind} {t t' : TypeId} (hx : opv rs x = some (.val (.int kd m))) (hy : opv rs y = some (.val (.int kd n))) (hd : Nat.blt d c.nt = true) (k : WL c ops tl ⟨(d, .val (.bool (decide (n < m)))) :: rs, hs⟩ Q) : WL c ops (⟨some d, .binOp .gtr t x y t', ty, pos, af, none⟩ :: tl) ⟨rs, hs⟩ Q := wl_ex (lt_gtr hx hy) hd k
theorem wl_eql {x y : Operand} {m n : Int} {kd : IntKind} {t t' : TypeId} (hx : opv rs x = some (.val (.int kd m))) (hy : opv rs y = some (.val (.int kd n))) (hd : Nat.blt d c.nt = true) (k : WL c ops tl ⟨(d, .val (.bool (decide (m = n)))) :: rs, hs⟩ Q) : WL c ops (⟨some d, .binOp .eql t x y t', ty, pos, af, none⟩ :: tl) ⟨rs, hs⟩ Q := wl_ex (lt_eql hx hy) hd k
theorem wl_neq {x y : Operand} {m n : Int} {kd : IntKind} {t t' : TypeId} (hx : opv rs x = some (.val (.int kd m))) (hy : opv rs y = some (.val (.int kd n))) (hd : Nat.blt d c.nt = true) (k : WL c ops tl ⟨(d, .val (.bool (!decide (m = n)))) :: rs, hs⟩ Q) : WL c ops (⟨some d, .binOp .neq t x y t', ty, pos, af, none⟩ :: tl) ⟨rs, hs⟩ Q := wl_ex (lt_neq hx hy) hd k
theorem wl_not {x : Operand} {b : Bool} {t : TypeId} (hx : opv rs x = some (.val (.bool b))) (hd : Nat.blt d c.nt = true) (k : WL c ops tl ⟨(d, .val (.bool (!b))) :: rs, hs⟩ Q) : WL c ops (⟨some d, .unOp .not t x, ty, pos, af, none⟩ :: tl) ⟨rs, hs⟩ Q := wl_ex (lt_not hx) hd k
theorem wl_pick_t {x y z : Operand} {av : AV} (hx : opv rs x = some (.val (.bool true))) (hy : opv rs y = some av) (hd : Nat.blt d c.nt = true) (k : WL c ops tl ⟨(d, av) :: rs, hs⟩ Q) : WL c ops (⟨some d, .pick x y z, ty, pos, af, none⟩ :: tl) ⟨rs, hs⟩ Q := wl_ex (lt_pick_t hx hy) hd k
theorem wl_pick_f {x y z : Operand} {av : AV} (hx : opv rs x = some (.val (.bool false))) (hy : opv rs z = some av) (hd : Nat.blt d c.nt = true) (k : WL c ops tl ⟨(d, av) :: rs, hs⟩ Q) : WL c ops (⟨some d, .pick x y z, ty, pos, af, none⟩ :: tl) ⟨rs, hs⟩ Q := wl_ex (lt_pick_f hx hy) hd k
theorem wl_extract {x : Operand} {cs : List AV} {i : Nat} {av : AV} (hx : opv rs x = some (.tup cs)) (hi : cs[i]? = some av) (hd : Nat.blt d c.nt = true) (k : WL c ops tl ⟨(d, av) :: rs, hs⟩ Q) : WL c ops (⟨some d, .extract x i, ty, pos, af, none⟩ :: tl) ⟨rs, hs⟩ Q := wl_ex (lt_extract hx hi) hd k
theorem wl_loadE1 {α : Type} {f : α → List AV} {xs : List α} {x : Operand} {t : TypeId} [Ty1 c.P t] {n k j : Nat} {av : AV} (hx : opv rs x = some (.el n f xs k j)) (hk : k < xs.length) (hc : (f xs[k])[j]? = some av) (hd : Nat.blt d c.nt = true) (k : WL c ops tl ⟨(d, av) :: rs, hs⟩ Q) : WL c ops (⟨some d, .load t x, ty, pos, af, none⟩ :: tl) ⟨rs, hs⟩ Q := wl_ex (lt_loadE1 hx hk hc) hd k
theorem wl_loadEN {α : Type} {f : α → List AV} {xs : List α} {x : Operand} {t : TypeId} {n k : Nat} [TyN c.P t n] (hx : opv rs x = some (.el n f xs k 0)) (hk : k < xs.length) (hc : (f xs[k]).length = n) (hd : Nat.blt d c.nt = true) (k : WL c ops tl ⟨(d, .agg (f xs[k])) :: rs, hs⟩ Q) : WL c ops (⟨some d, .load t x, ty, pos, af, none⟩ :: tl) ⟨rs, hs⟩ Q := wl_ex (lt_loadEN hx hk hc) hd k
theorem wl_fieldAt {x : Operand} {t : TypeId} {fd off : Nat} [TyF c.P t fd off] {p : Value} {j j' : Nat} (hx : opv rs x = some (.at p j)) (hj : j + off = j') (hd : Nat.blt d c.nt = true) (k : WL c ops tl ⟨(d, .at p j') :: rs, hs⟩ Q) : WL c ops (⟨some d, .fieldAddr t x fd, ty, pos, af, none⟩ :: tl) ⟨rs, hs⟩ Q := wl_ex (lt_fieldAt hx hj) hd k
theorem wl_fieldEl {α : Type} {f : α → List AV} {xs : List α} {x : Operand} {t : TypeId} {n k fd off : Nat} [TyF c.P t fd off] {j j' : Nat} (hx : opv rs x = some (.el n f xs k j)) (hj : j + off = j') (hd : Nat.blt d c.nt = true) (k : WL c ops tl ⟨(d, .el n f xs k j') :: rs, hs⟩ Q) : WL c ops (⟨some d, .fieldAddr t x fd, ty, pos, af, none⟩ :: tl) ⟨rs, hs⟩ Q := wl_ex (lt_fieldEl hx hj) hd k
theorem wl_indexSl {α : Type} {f : α → List AV} {xs : List α} {x y : Operand} {t e : TypeId} {n : Nat} [TyS c.P t e n] {i : Int} {k : Nat} {kd : IntKind} (hx : opv rs x = some (.sl n f xs)) (hy : opv rs y = some (.val (.int kd i))) (hi : i = (k : Int)) (hk : k < xs.length) (hd : Nat.blt d c.nt = true) (k : WL c ops tl ⟨(d, .el n f xs k 0) :: rs, hs⟩ Q) : WL c ops (⟨some d, .indexAddr t x y, ty, pos, af, none⟩ :: tl) ⟨rs, hs⟩ Q := wl_ex (lt_indexSl hx hy hi hk) hd k
theorem wl_lenSl {α : Type} {f : α → List AV} {xs : List α} {x : Operand} {t e : TypeId} {m n : Nat} [TyS c.P t e m] (hx : opv rs x = some (.sl n f xs)) (hd : Nat.blt d c.nt = true) (k : WL c ops tl ⟨(d, .val (.int .i64 xs.length)) :: rs, hs⟩ Q) : WL c ops (⟨some d, .call { callee := .builtin .len, args := #[x], argTypes := #[t] }, ty, pos, af, none⟩ :: tl) ⟨rs, hs⟩ Q := wl_ex (lt_lenSl hx) hd k
theorem wl_eqlN {x y : Operand} {t t' : TypeId} {n : Nat} [TyQ c.P t n] {cs ds : List AV} {xs ys : List Int} (hx : opv rs x = some (.agg cs)) (hy : opv rs y = some (.agg ds)) (h1 : Ints cs xs) (h2 : Ints ds ys) (hn : xs.length = n) (hn2 : ys.length = n) (hd : Nat.blt d c.nt = true) (k : WL c ops tl ⟨(d, .val (.bool (decide (xs = ys)))) :: rs, hs⟩ Q) : WL c ops (⟨some d, .binOp .eql t x y t', ty, pos, af, none⟩ :: tl) ⟨rs, hs⟩ Q := wl_ex (lt_eqlN hx hy h1 h2 hn hn2) hd k
theorem wl_neqN {x y : Operand} {t t' : TypeId} {n : Nat} [TyQ c.P t n] {cs ds : List AV} {xs ys : List Int} (hx : opv rs x = some (.agg cs)) (hy : opv rs y = some (.agg ds)) (h1 : Ints cs xs) (h2 : Ints ds ys) (hn : xs.length = n) (hn2 : ys.length = n) (hd : Nat.blt d c.nt = true) (k : WL c ops tl ⟨(d, .val (.bool (!decide (xs = ys)))) :: rs, hs⟩ Q) : WL c ops (⟨some d, .binOp .neq t x y t', ty, pos, af, none⟩ :: tl) ⟨rs, hs⟩ Q := wl_ex (lt_neqN hx hy h1 h2 hn hn2) hd k
theorem wl_build {t : TypeId} {zs : List Value} {pl : Nat → Option (Nat × Nat)} [TyB c.P t zs pl] {l : List (Nat × Operand)} {cs : List AV} (h : Parts rs pl (zs.map AV.val) l cs) (hd : Nat.blt d c.nt = true) (k : WL c ops tl ⟨(d, .agg cs) :: rs, hs⟩ Q) : WL c ops (⟨some d, .build t l.toArray, ty, pos, af, none⟩ :: tl) ⟨rs, hs⟩ Q := wl_ex (lt_build h) hd k
theorem wl_litF {α : Type} {t e : TypeId} {n len : Nat} (f : α → List AV) {l : List (Nat × Operand)} {xs : List α} (hE : TyE c.P t e n) (hO : OneF f) (hL : LenF f n) (h : Elems rs f 0 l xs) (hlen : len = xs.length) (hx : xs.length * n ≤ 1000000) (hd : Nat.blt d c.nt = true) (k : WL c ops tl ⟨(d, .sl n f xs) :: rs, hs⟩ Q) : WL c ops (⟨some d, .buildSlice t len l.toArray, ty, pos, af, none⟩ :: tl) ⟨rs, hs⟩ Q := wl_ex (LT_frz (lt_lit h hlen hx)) hd k
theorem wl_tok {op : Op} {prod : Value → List HA} (h : LT c.P ⟨some d, op, ty, pos, af, none⟩ rs [] (fun x y => ∃ u, x = .val u ∧ y = prod u)) (hd : Nat.blt d c.nt = true) (k : ∀ v, WL c ops tl ⟨(d, .val v) :: rs, prod v ++ hs⟩ Q) : WL c ops (⟨some d, op, ty, pos, af, none⟩ :: tl) ⟨rs, hs⟩ Q :=
 wl_new h hd fun av pr ⟨u, e1, e2⟩ => by subst e1; subst e2; exact k u
theorem wl_lit {α : Type} {t e : TypeId} {n len : Nat} (f : α → List AV) {l : List (Nat × Operand)} {xs : List α} (hE : TyE c.P t e n) (hO : OneF f) (hL : LenF f n) (h : Elems rs f 0 l xs) (hlen : len = xs.length) (hx : xs.length * n ≤ 1000000) (hd : Nat.blt d c.nt = true) (k : ∀ v, WL c ops tl ⟨(d, .val v) :: rs, .row v e n f xs :: hs⟩ Q) : WL c ops (⟨some d, .buildSlice t len l.toArray, ty, pos, af, none⟩ :: tl) ⟨rs, hs⟩ Q := wl_tok (lt_lit h hlen hx) hd k
theorem wl_append {α : Type} {x y : Operand} {t e : TypeId} {n : Nat} [TyE c.P t e n] {v : Value} {f : α → List AV} {xs ys : List α} {r : List HA} (hx : opv rs x = some (.val v)) (hy : opv rs y = some (.sl n f ys)) (hr : Rm hs (.row v e n f xs) r) (hO : OneF f) (hL : LenF f n) (hlen : xs.length + ys.length ≤ 1000000) (hd : Nat.blt d c.nt = true) (k : ∀ v', WL c ops tl ⟨(d, .val v') :: rs, .row v' e n f (xs ++ ys) :: r⟩ Q) :
  WL c ops (⟨some d, .call { callee := .builtin .append, args := #[x, y], argTypes := #[t, t] }, ty, pos, af, none⟩ :: tl) ⟨rs, hs⟩ Q :=
 WL_lt (cons := [.row v e n f xs]) (rest := r) hd rfl (fun _ _ _ h => hr.sel h) (lt_append hx hy hlen) fun av pr ⟨u, e1, e2⟩ => by subst e1; subst e2; exact k u
theorem wl_appendN {α : Type} {x y : Operand} {t e : TypeId} {n : Nat} [TyE c.P t e n] {f : α → List AV} {ys : List α} (hx : opv rs x = some (.val (.slice none 0 0))) (hy : opv rs y = some (.sl n f ys)) (hO : OneF f) (hL : LenF f n) (hlen : ys.length ≤ 1000000) (hd : Nat.blt d c.nt = true) (k : ∀ v', WL c ops tl ⟨(d, .val v') :: rs, .row v' e n f ys :: hs⟩ Q) :
  WL c ops (⟨some d, .call { callee := .builtin .append, args := #[x, y], argTypes := #[t, t] }, ty, pos, af, none⟩ :: tl) ⟨rs, hs⟩ Q := ⟨fun a w st =>
 (wl_append (v := .slice none 0 0) (xs := []) hx hy Rm.here hO hL (by simpa using hlen) hd (by simpa using k)).out a w (st_nil e n f st)⟩
theorem wl_alloc {t : TypeId} {zs : List Value} [TyZ c.P t zs] (hd : Nat.blt d c.nt = true) (k : ∀ p, One (.val p) → WL c ops tl ⟨(d, .val p) :: rs, .box p (zs.map AV.val) t :: hs⟩ Q) : WL c ops (⟨some d, .alloc t, ty, pos, af, none⟩ :: tl) ⟨rs, hs⟩ Q := wl_box lt_alloc hd k
theorem wl_boxv {x : Operand} {t : TypeId} {av : AV} {cs : List AV} (hx : opv rs x = some av) (hc : CellsOf av cs) (hd : Nat.blt d c.nt = true) (k : ∀ p, One (.val p) → WL c ops tl ⟨(d, .val p) :: rs, .box p cs t :: hs⟩ Q) : WL c ops (⟨some d, .box t x, ty, pos, af, none⟩ :: tl) ⟨rs, hs⟩ Q := wl_box (lt_box hx) hd k
theorem wl_indexRow {α : Type} {x y : Operand} {t e e' : TypeId} {n : Nat} [TyS c.P t e' n] {v : Value} {f : α → List AV} {xs : List α} {i : Int} {kk : Nat} {kd : IntKind} {g : HA → List HA} (hx : opv rs x = some (.val v)) (hat : At hs (.row v e n f xs) g) (hy : opv rs y = some (.val (.int kd i))) (hi : i = (kk : Int)) (hk : kk < xs.length) (hd : Nat.blt d c.nt = true) (k : WL c ops tl ⟨(d, .rat v n kk 0) :: rs, hs⟩ Q) : WL c ops (⟨some d, .indexAddr t x y, ty, pos, af, none⟩ :: tl) ⟨rs, hs⟩ Q := wl_rd (lt_indexRow hx hy hi hk) hat hd k
theorem wl_lenRow {α : Type} {x : Operand} {t e e' : TypeId} {n n' : Nat} [TyS c.P t e' n'] {v : Value} {f : α → List AV} {xs : List α} {g : HA → List HA} (hx : opv rs x = some (.val v)) (hat : At hs (.row v e n f xs) g) (hd : Nat.blt d c.nt = true) (k : WL c ops tl ⟨(d, .val (.int .i64 xs.length)) :: rs, hs⟩ Q) : WL c ops (⟨some d, .call { callee := .builtin .len, args := #[x], argTypes := #[t] }, ty, pos, af, none⟩ :: tl) ⟨rs, hs⟩ Q := wl_rd (lt_lenRow hx) hat hd k
theorem wl_loadR1 {α : Type} {x : Operand} {t e : TypeId} {n kk j : Nat} [Ty1 c.P t] {v : Value} {f : α → List AV} {xs : List α} {av : AV} {g : HA → List HA} (hx : opv rs x = some (.rat v n kk j)) (hat : At hs (.row v e n f xs) g) (hk : kk < xs.length) (hc : (f xs[kk])[j]? = some av) (hd : Nat.blt d c.nt = true) (k : WL c ops tl ⟨(d, av) :: rs, hs⟩ Q) : WL c ops (⟨some d, .load t x, ty, pos, af, none⟩ :: tl) ⟨rs, hs⟩ Q := wl_rd (lt_loadR1 hx hk hc) hat hd k
theorem wl_storeR1 {α : Type} {x y : Operand} {t e : TypeId} {n kk j : Nat} [TySz c.P t 1] {v : Value} {f : α → List AV} {xs : List α} {av : AV} {x' : α} {g : HA → List HA} (hx : opv rs x = some (.rat v n kk j)) (hat : At hs (.row v e n f xs) g) (hy : opv rs y = some av) (ho : One av) (hk : kk < xs.length) (hj : j < n) (hf' : f x' = (f xs[kk]).set j av) (k : WL c ops tl ⟨rs, g (.row v e n f (xs.set kk x'))⟩ Q) : WL c ops (⟨none, .store t x y, ty, pos, af, none⟩ :: tl) ⟨rs, hs⟩ Q := wl_at0 (lt_storeR1 hx hy hk hj hf') hat k
theorem wl_call {k : FuncId} {xs : List Operand} {ts : Array TypeId} {avs : List AV} {av : AV} (hc : Con c.P k avs [] (Is av [])) (hx : opvs rs xs = some avs) (hd : Nat.blt d c.nt = true) (kk : WL c ops tl ⟨(d, av) :: rs, hs⟩ Q) : WL c ops (⟨some d, .call { callee := .value (.func k), args := xs.toArray, argTypes := ts }, ty, pos, af, none⟩ :: tl) ⟨rs, hs⟩ Q := wl_ex (lt_call hx hc) hd kk
end
section
variable {c : Cx} {rs : List (Nat × AV)} {hs : List HA} {Q : Exit → S → Prop} {ops : Array Oper} {tl : List Oper} {d : Nat} {ty : TypeId} {pos : String} {af : Array Edge}
theorem wl_callR {k : FuncId} {xs : List Operand} {ts : Array TypeId} {avs : List AV} {av : AV} {h : HA} {f : HA → List HA} (hc : Con c.P k avs [h] (Is av [h])) (hx : opvs rs xs = some avs) (hat : At hs h f) (hd : Nat.blt d c.nt = true) (kk : WL c ops tl ⟨(d, av) :: rs, hs⟩ Q) : WL c ops (⟨some d, .call { callee := .value (.func k), args := xs.toArray, argTypes := ts }, ty, pos, af, none⟩ :: tl) ⟨rs, hs⟩ Q := wl_rd (lt_call hx hc) hat hd kk
theorem wl_indexArr {x y : Operand} {t tb : TypeId} {len n : Nat} [TyA c.P t len n] {p : Value} {cs : List AV} {i : Int} {kk : Nat} {kd : IntKind} {f : HA → List HA} (hx : opv rs x = some (.val p)) (hat : At hs (.box p cs tb) f) (hy : opv rs y = some (.val (.int kd i))) (hi : i = (kk : Int)) (hk : kk < len) (hd : Nat.blt d c.nt = true) (k : WL c ops tl ⟨(d, .at p (kk * n)) :: rs, hs⟩ Q) : WL c ops (⟨some d, .indexAddr t x y, ty, pos, af, none⟩ :: tl) ⟨rs, hs⟩ Q := wl_rd (lt_indexArr hx hy hi hk) hat hd k
end
theorem w_cond {c : Cx} {rs : List (Nat × AV)} {hs : List HA} {Q : Exit → S → Prop} {x y : Code} {i : Nat} {b : Bool} (hl : look rs i = some (.val (.bool b))) (h1 : b = true → W c x ⟨rs, hs⟩ Q) (h2 : b = false → W c y ⟨rs, hs⟩ Q) : W c (.cond (.tmp i) x y) ⟨rs, hs⟩ Q := W_cond rfl hl h1 h2
theorem w_true {c : Cx} {rs : List (Nat × AV)} {hs : List HA} {Q : Exit → S → Prop} {x y : Code} {i : Nat} (hl : look rs i = some (.val (.bool true))) (h1 : W c x ⟨rs, hs⟩ Q) : W c (.cond (.tmp i) x y) ⟨rs, hs⟩ Q := W_cond rfl hl (fun _ => h1) (fun e => by cases e)
theorem w_false {c : Cx} {rs : List (Nat × AV)} {hs : List HA} {Q : Exit → S → Prop} {x y : Code} {i : Nat} (hl : look rs i = some (.val (.bool false))) (h2 : W c y ⟨rs, hs⟩ Q) : W c (.cond (.tmp i) x y) ⟨rs, hs⟩ Q := W_cond rfl hl (fun e => by cases e) (fun _ => h2)
abbrev AV.fp (n : Nat) (cs : List AV) : AV := .el n (fun _ : Unit => cs) [()] 0 0
theorem slP_unit {G : Nat → Option Obj} {b n : Nat} {cs : List AV} {vs : List Value} {t : TypeId} {z : Nat × Nat} (hg : G b = some (.cells vs.toArray t z)) (hf : Fits G cs vs) : SlP G n (fun _ : Unit => cs) (some ⟨b, 0, none⟩) [()] := fun i hi => by
 simp only [List.length_cons, List.length_nil] at hi
 obtain rfl : i = 0 := by omega
 refine ⟨b, 0, rfl, fun j av e => ?_⟩
 obtain ⟨v, hv, hp⟩ := hf.get e
 refine ⟨v, ?_, hp⟩
 unfold cellG
 rw [hg]
 simpa using hv
theorem box_freeze {G : Nat → Option Obj} {F : List Nat} {w : World} {p : Value} {cs : List AV} {t : TypeId} {rest : List HA} (n : Nat) (h : Inv G F (.box p cs t :: rest) w) :
  ∃ G' F', Inv G' F' rest w ∧ Fr w w F F' G G' ∧ (AV.fp n cs).P G' p := by
 obtain ⟨F1, F2, ep, ⟨b, vs, rfl, hF1, hf, hb⟩, h2⟩ := h.hs
 have nd := ep.nodup_iff.1 h.nd
 have hm : ∀ k, k ∈ F2 → k ∈ F := fun k hk => ep.mem_iff.2 (by simp [hk])
 subst hF1
 have hbF : b ∈ F := ep.mem_iff.2 (by simp)
 have hgb := (h.own b hbF).2
 have hbn : b ∉ F2 := fun hin => (List.nodup_append.1 nd).2.2 b (by simp) b hin rfl
 have hself : gadd G b (.cells vs.toArray t (0, 0)) b = some (.cells vs.toArray t (0, 0)) := by unfold gadd; rw [if_pos rfl]
 refine ⟨gadd G b (.cells vs.toArray t (0, 0)), F2, ⟨fun k o ek => ?_, (List.nodup_append.1 nd).2.1, fun k hk => ⟨(h.own k (hm k hk)).1, ?_⟩, hsP.mono (gle_add hgb) h2⟩, ⟨rfl, rfl, rfl, Nat.le_refl _, fun _ _ _ => rfl, fun k hk => .inl (hm k hk), gle_add hgb, fun k o ek => ?_⟩, b, 0, by simp, slP_unit hself (Fits.mono (gle_add hgb) hf)⟩
 ·unfold gadd at ek
  by_cases hk : k = b
  ·subst hk; rw [if_pos rfl] at ek; cases ek; exact hb
  ·rw [if_neg hk] at ek; exact h.gin k o ek
 ·unfold gadd
  rw [if_neg (fun e => by subst e; exact hbn hk)]
  exact (h.own k (hm k hk)).2
 ·unfold gadd at ek
  by_cases hk : k = b
  ·subst hk; exact .inr (.inl hbF)
  ·rw [if_neg hk] at ek; exact .inl ek
theorem st_frzb {c : Cx} {rs : List (Nat × AV)} {hs r : List HA} {cs : List AV} {t : TypeId} {p : Value} {i : Nat} {a : Act} {w : World} (n : Nat) (hl : look rs i = some (.val p)) (hr : Rm hs (.box p cs t) r) (st : St c ⟨rs, hs⟩ a w) : St c ⟨(i, AV.fp n cs) :: rs, r⟩ a w := by
 obtain ⟨G, F, hI, hF, hR, rr⟩ := st
 obtain ⟨G', F', h1, h2, h3⟩ := box_freeze n (rest := r) ⟨hI.gin, hI.nd, hI.own, hr.sel hI.hs⟩
 refine ⟨G', F', h1, hF.trans h2, fun k av ek => ?_, rr.1, rr.2.step h2⟩
 simp only [look] at ek
 cases hb : Nat.beq i k with
 | true =>
  rw [hb] at ek
  obtain rfl := Nat.eq_of_beq_eq_true hb
  simp only [cond_true, Option.some.injEq] at ek
  subst ek
  have : a.tmps.getD i undef = p := hR _ _ hl
  rw [this]; exact h3
 | false => rw [hb] at ek; exact av.mono h2.gle (hR k av (by simpa using ek))
theorem W_frzb {c : Cx} {rs : List (Nat × AV)} {hs r : List HA} {Q : Exit → S → Prop} {x : Code} {cs : List AV} {t : TypeId} {p : Value} (i n : Nat) (hl : look rs i = some (.val p)) (hr : Rm hs (.box p cs t) r) (k : W c x ⟨(i, AV.fp n cs) :: rs, r⟩ Q) : W c x ⟨rs, hs⟩ Q := ⟨fun a w st => k.out a w (st_frzb n hl hr st)⟩
theorem WL_frzb {c : Cx} {rs : List (Nat × AV)} {hs r : List HA} {Q : Exit → S → Prop} {ops : Array Oper} {l : List Oper} {cs : List AV} {t : TypeId} {p : Value} (i n : Nat) (hl : look rs i = some (.val p)) (hr : Rm hs (.box p cs t) r) (k : WL c ops l ⟨(i, AV.fp n cs) :: rs, r⟩ Q) : WL c ops l ⟨rs, hs⟩ Q := ⟨fun a w st => k.out a w (st_frzb n hl hr st)⟩
instance {k : FuncId} {caps : List AV} : One (.clo k caps) := ⟨fun _ _ ⟨_, h, _⟩ => by subst h; rfl⟩
section
variable {P : Program} {rs : List (Nat × AV)} {d : Option Nat} {ty : TypeId} {pos : String} {af : Array Edge} {g : Option (Nat × Bool)}
theorem lt_makeClo {f : FuncId} {xs : Array Operand} {vs : List AV} (hx : opvs rs xs.toList = some vs) : LT P ⟨d, .makeFunc (.func f) #[] xs, ty, pos, af, g⟩ rs [] (Is (.clo f vs) []) :=
 LT_val (fun _ e => by cases e) fun a w G hR hG => by
  have h := opvs_ok hR hx
  refine ⟨.func (.func f) #[] (xs.map a.eval), ⟨xs.toList.map a.eval, (by rw [← Array.toList_map, Array.toArray_toList]), h⟩, ?_⟩
  simp only [execOp]
  simp [Instr.makeFunc, go_sem]
theorem lt_callV {x : Operand} {k : FuncId} {caps : List AV} {xs : List Operand} {ts : Array TypeId} {avs : List AV} {pre : List HA} {post : AV → List HA → Prop} (hf : opv rs x = some (.clo k caps)) (hx : opvs rs xs = some avs) (hc : Con P k (avs ++ caps) pre post) :
  LT P ⟨d, .call { callee := .value x, args := xs.toArray, argTypes := ts }, ty, pos, af, g⟩ rs pre post := by
 refine ⟨?_⟩
 intro F n hF a w G Fp K Q hR hI hk
 obtain ⟨us, e1, hu⟩ : (AV.clo k caps).P G (a.eval x) := opv_ok hR hf
 have hv := opvs_ok hR hx
 have hcalls := hc.calls G Fp (xs.map a.eval ++ us) w (hv.append hu) hI
 unfold Oper.wpIn
 refine ⟨fun f _ => hF.fn f, ?_⟩
 rw [Oper.semAt_eq _ _ _ (fun _ e => by cases e)]
 have hr : (execOp a.eval ⟨d, .call { callee := .value x, args := xs.toArray, argTypes := ts }, ty, pos, af, g⟩).run P w = .ok (.enter k (xs.map a.eval ++ us).toArray) w := by
  simp [execOp, resolve, e1, Deferred.ofValue, invoke, hc.enters]
 rw [hr]
 refine ⟨fun h => (by rw [hF.depth] at h; cases h), hF.calls (hcalls.mono ?_)⟩
 rintro e w' ⟨v, av, prod, G', F', rfl, hp, hfr, hi, hv⟩
 exact hk v av prod G' F' w' hp hfr hi hv
end
theorem st_frzC {c : Cx} {rs : List (Nat × AV)} {hs r : List HA} {cs caps : List AV} {t : TypeId} {p : Value} {k : FuncId} {i j : Nat} {a : Act} {w : World} (n : Nat) (hl : look rs i = some (.clo k caps)) (hj : caps[j]? = some (.val p)) (hr : Rm hs (.box p cs t) r) (st : St c ⟨rs, hs⟩ a w) : St c ⟨(i, .clo k (caps.set j (AV.fp n cs))) :: rs, r⟩ a w := by
 obtain ⟨G, F, hI, hF, hR, rr⟩ := st
 obtain ⟨G', F', h1, h2, h3⟩ := box_freeze n (rest := r) ⟨hI.gin, hI.nd, hI.own, hr.sel hI.hs⟩
 refine ⟨G', F', h1, hF.trans h2, fun q av ek => ?_, rr.1, rr.2.step h2⟩
 simp only [look] at ek
 cases hb : Nat.beq i q with
 | true =>
  rw [hb] at ek
  obtain rfl := Nat.eq_of_beq_eq_true hb
  simp only [cond_true, Option.some.injEq] at ek
  subst ek
  obtain ⟨vs, e1, hf⟩ : (AV.clo k caps).P G (a.tmps.getD i undef) := hR _ _ hl
  obtain ⟨u, hu, hu2⟩ := hf.get hj
  have hu3 : u = p := hu2
  subst hu3
  refine ⟨vs, e1, ?_⟩
  have := (hf.mono h2.gle).set j h3
  rwa [show vs.set j u = vs from by
   obtain ⟨hlt, rfl⟩ := List.getElem?_eq_some_iff.1 hu
   exact List.set_getElem_self hlt] at this
 | false => rw [hb] at ek; exact av.mono h2.gle (hR q av (by simpa using ek))
theorem WL_frzC {c : Cx} {rs : List (Nat × AV)} {hs r : List HA} {Q : Exit → S → Prop} {ops : Array Oper} {l : List Oper} {cs caps : List AV} {t : TypeId} {p : Value} {k : FuncId} (i j n : Nat) (hl : look rs i = some (.clo k caps)) (hj : caps[j]? = some (.val p)) (hr : Rm hs (.box p cs t) r) (kk : WL c ops l ⟨(i, .clo k (caps.set j (AV.fp n cs))) :: rs, r⟩ Q) : WL c ops l ⟨rs, hs⟩ Q := ⟨fun a w st => kk.out a w (st_frzC n hl hj hr st)⟩
section
variable {c : Cx} {rs : List (Nat × AV)} {hs : List HA} {Q : Exit → S → Prop} {ops : Array Oper} {tl : List Oper} {d : Nat} {ty : TypeId} {pos : String} {af : Array Edge}
theorem wl_makeClo {f : FuncId} {xs : Array Operand} {vs : List AV} (hx : opvs rs xs.toList = some vs) (hd : Nat.blt d c.nt = true) (k : WL c ops tl ⟨(d, .clo f vs) :: rs, hs⟩ Q) : WL c ops (⟨some d, .makeFunc (.func f) #[] xs, ty, pos, af, none⟩ :: tl) ⟨rs, hs⟩ Q := wl_ex (lt_makeClo hx) hd k
theorem wl_callV {x : Operand} {k : FuncId} {caps : List AV} {xs : List Operand} {ts : Array TypeId} {avs : List AV} {av : AV} (hc : Con c.P k (avs ++ caps) [] (Is av [])) (hf : opv rs x = some (.clo k caps)) (hx : opvs rs xs = some avs) (hd : Nat.blt d c.nt = true) (kk : WL c ops tl ⟨(d, av) :: rs, hs⟩ Q) : WL c ops (⟨some d, .call { callee := .value x, args := xs.toArray, argTypes := ts }, ty, pos, af, none⟩ :: tl) ⟨rs, hs⟩ Q := wl_ex (lt_callV hf hx hc) hd kk
end
section
variable {P : Program} {rs : List (Nat × AV)} {hsR : List HA} {d : Option Nat} {ty : TypeId} {pos : String} {af : Array Edge} {g : Option (Nat × Bool)}
theorem ltr_indexRow {α : Type} {x y : Operand} {t e e' : TypeId} {n : Nat} [TyS P t e' n] {v : Value} {f : α → List AV} {xs : List α} {i : Int} {kk : Nat} {kd : IntKind} {h : HA → List HA} (hx : opv rs x = some (.val v)) (hat : At hsR (.row v e n f xs) h) (hy : opv rs y = some (.val (.int kd i))) (hi : i = (kk : Int)) (hk : kk < xs.length) :
  LTr P ⟨d, .indexAddr t x y, ty, pos, af, g⟩ rs hsR [] (Is (.rat v n kk 0) []) := ltr_rd (lt_indexRow hx hy hi hk) hat
theorem ltr_loadR1 {α : Type} {x : Operand} {t e : TypeId} {n kk j : Nat} [Ty1 P t] {v : Value} {f : α → List AV} {xs : List α} {av : AV} {h : HA → List HA} (hx : opv rs x = some (.rat v n kk j)) (hat : At hsR (.row v e n f xs) h) {y : α} (hk : xs[kk]? = some y) (hc : (f y)[j]? = some av) :
  LTr P ⟨d, .load t x, ty, pos, af, g⟩ rs hsR [] (Is av []) := by
 obtain ⟨hl, rfl⟩ := List.getElem?_eq_some_iff.1 hk
 exact ltr_rd (lt_loadR1 hx hl hc) hat
end
theorem WL_as {c : Cx} {rs : List (Nat × AV)} {hs : List HA} {Q : Exit → S → Prop} {ops : Array Oper} {l : List Oper} (i : Nat) (av : AV) (h : look rs i = some av) (k : WL c ops l ⟨(i, av) :: rs, hs⟩ Q) : WL c ops l ⟨rs, hs⟩ Q := ⟨fun a w st => by
 obtain ⟨G, F, hI, hF, hR, r⟩ := st
 refine k.out a w ⟨G, F, hI, hF, fun j u e => ?_, r⟩
 simp only [look] at e
 cases hb : Nat.beq i j with
 | true =>
  rw [hb] at e
  obtain rfl := Nat.eq_of_beq_eq_true hb
  simp only [cond_true, Option.some.injEq] at e
  subst e
  exact hR _ _ h
 | false => rw [hb] at e; exact hR j u (by simpa using e)⟩
theorem LT.imp {P : Program} {o : Oper} {rs : List (Nat × AV)} {cons : List HA} {post post' : AV → List HA → Prop} (h : LT P o rs cons post) (k : ∀ x y, post x y → post' x y) : LT P o rs cons post' := ⟨fun F n hF a w G Fp K Q hR hI hk => h.go F n hF a w G Fp K Q hR hI fun v av prod G' F' w' hp => hk v av prod G' F' w' (k av prod hp)⟩
theorem lt_allocT {P : Program} {rs : List (Nat × AV)} {d : Option Nat} {ty : TypeId} {pos : String} {af : Array Edge} {g : Option (Nat × Bool)} {t : TypeId} {zs : List Value} [TyZ P t zs] : LT P ⟨d, .alloc t, ty, pos, af, g⟩ rs [] (fun x y => ∃ u, x = .val u ∧ y = [.box u (zs.map AV.val) t]) :=
 lt_alloc.imp fun x y ⟨p, _, h1, h2⟩ => ⟨p, h1, h2⟩
section
variable {P : Program} {rs : List (Nat × AV)} {hsR : List HA} {d : Option Nat} {ty : TypeId} {pos : String} {af : Array Edge} {g : Option (Nat × Bool)}
theorem ltr_indexArr {x y : Operand} {t tb : TypeId} {len n : Nat} [TyA P t len n] {p : Value} {cs : List AV} {i : Int} {kk : Nat} {kd : IntKind} {f : HA → List HA} (hx : opv rs x = some (.val p)) (hat : At hsR (.box p cs tb) f) (hy : opv rs y = some (.val (.int kd i))) (hi : i = (kk : Int)) (hk : kk < len) :
  LTr P ⟨d, .indexAddr t x y, ty, pos, af, g⟩ rs hsR [] (Is (.at p (kk * n)) []) := ltr_rd (lt_indexArr hx hy hi hk) hat
end
section
variable {c : Cx} {rs : List (Nat × AV)} {hs : List HA} {Q : Exit → S → Prop} {ops : Array Oper} {tl : List Oper} {d : Nat} {ty : TypeId} {pos : String} {af : Array Edge}
end
inductive Pk (ds : List Nat) (sp : List Sp) (vs : Nat → Value) (rsB : List (Nat × AV)) : List Nat → List (Nat × AV) → List (Nat × AV) → Prop
 | nil : Pk ds sp vs rsB [] [] rsB
 | pv {j d : Nat} {l : List Nat} {pk rs : List (Nat × AV)} {deps cons rd : List Nat} {av : AV} (h1 : ds[j]? = some d) (h2 : sp[j]? = some ⟨deps, cons, .pv av, rd⟩) (k : Pk ds sp vs rsB l pk rs) : Pk ds sp vs rsB (j :: l) ((d, av) :: pk) ((d, av) :: rs)
 | tok {j d : Nat} {l : List Nat} {pk rs : List (Nat × AV)} {deps cons rd : List Nat} {prod : Value → List HA} (h1 : ds[j]? = some d) (h2 : sp[j]? = some ⟨deps, cons, .tok prod, rd⟩) (k : Pk ds sp vs rsB l pk rs) : Pk ds sp vs rsB (j :: l) ((d, .val (vs j)) :: pk) ((d, .val (vs j)) :: rs)
 | tk {j d : Nat} {l : List Nat} {pk rs : List (Nat × AV)} {deps cons rd : List Nat} {r : Value → AV} {prod : Value → List HA} (h1 : ds[j]? = some d) (h2 : sp[j]? = some ⟨deps, cons, .tk r prod, rd⟩) (k : Pk ds sp vs rsB l pk rs) : Pk ds sp vs rsB (j :: l) ((d, .both (r (vs j)) (vs j)) :: pk) ((d, .both (r (vs j)) (vs j)) :: rs)
theorem Pk.eq {ds : List Nat} {sp : List Sp} {vs : Nat → Value} {rsB : List (Nat × AV)} {l : List Nat} {pk rs : List (Nat × AV)} (h : Pk ds sp vs rsB l pk rs) : rs = pk ++ rsB := by
 induction h with
 | nil => rfl
 | pv _ _ _ ih => rw [ih]; rfl
 | tok _ _ _ ih => rw [ih]; rfl
 | tk _ _ _ ih => rw [ih]; rfl
theorem nthN_of {ds : List Nat} : ∀ {l : List Nat} {j d : Nat}, l[j]? = some d → nthN l j = d
 | [], _, _, h => by simp at h
 | x :: _, 0, d, h => by simpa [nthN] using h
 | _ :: l, j + 1, d, h => nthN_of (ds := ds) (l := l) (by simpa using h)
theorem Pk.eqD {ds : List Nat} {sp : List Sp} {vs : Nat → Value} {rsB : List (Nat × AV)} {l : List Nat} {pk rs : List (Nat × AV)} (h : Pk ds sp vs rsB l pk rs) : regsD ds sp vs l rsB = rs := by
 induction h with
 | nil => rfl
 | pv h1 h2 _ ih => simp only [regsD]; rw [ih, nthN_of (ds := ds) h1, h2]; rfl
 | tok h1 h2 _ ih => simp only [regsD]; rw [ih, nthN_of (ds := ds) h1, h2]; rfl
 | tk h1 h2 _ ih => simp only [regsD]; rw [ih, nthN_of (ds := ds) h1, h2]; rfl
theorem ltr_pk {P : Program} {o : Oper} {ds : List Nat} {sp : List Sp} {vs : Nat → Value} {rsB : List (Nat × AV)} {l : List Nat} {pk rs : List (Nat × AV)} {hsR cons : List HA} {post : AV → List HA → Prop} (h : Pk ds sp vs rsB l pk rs) (k : LTr P o rs hsR cons post) : LTr P o (regsD ds sp vs l rsB) hsR cons post := h.eqD ▸ k
theorem rpv {P : Program} {ops : Array Oper} {ds : List Nat} {hs0 hsR : List HA} {rsB : List (Nat × AV)} {K : List Sp → Prop} {acc : List Sp} {o : Oper} {l : List Oper} (deps cons : List Nat) {av : AV} {acc' : List Sp} (k : Run P ops ds hs0 hsR rsB K acc' l) (hg : o.guard = none := by exact rfl)
  (h : ∀ vs, LTr P o (regsD ds acc vs deps rsB) hsR (cons.flatMap (cont acc hs0 vs)) (Is av []) := by intro vs; apply ltr_pk; exact goPk; exact goLtr) (ha : App acc ⟨deps, cons, .pv av, []⟩ acc' := by exact goApp) : Run P ops ds hs0 hsR rsB K acc (o :: l) := Run.pv deps cons hg h ha k
theorem look_pk {ds : List Nat} {sp : List Sp} {vs : Nat → Value} {rsB : List (Nat × AV)} {l : List Nat} {pk rs : List (Nat × AV)} {i : Nat} {av : AV} (h : Pk ds sp vs rsB l pk rs) (k : look rs i = some av) : look (regsD ds sp vs l rsB) i = some av := h.eqD ▸ k
theorem look_regsD {ds : List Nat} {sp : List Sp} {vs : Nat → Value} {rsB : List (Nat × AV)} {i : Nat} : ∀ {lr : List Nat}, memN (lr.map (nthN ds)) i = false → look (regsD ds sp vs lr rsB) i = look rsB i
 | [], _ => rfl
 | j :: lr, h => by
  simp only [List.map_cons, memN] at h
  simp only [regsD, look]
  cases hb : Nat.beq (nthN ds j) i with
  | true => rw [hb] at h; cases h
  | false => rw [hb] at h; exact look_regsD (by simpa using h)
theorem look_mem {i : Nat} {av : AV} : ∀ {b : List (Nat × AV)}, look b i = some av → ∃ x, (i, x) ∈ b
 | [], h => by cases h
 | (j, x) :: t, h => by
  simp only [look] at h
  cases hb : Nat.beq j i with
  | true => obtain rfl := Nat.eq_of_beq_eq_true hb; exact ⟨x, by simp⟩
  | false => rw [hb] at h; obtain ⟨y, hy⟩ := look_mem (by simpa using h); exact ⟨y, by simp [hy]⟩
theorem look_append {a b : List (Nat × AV)} {i : Nat} {av : AV} (h : look (a ++ b) i = some av) : (i, av) ∈ a ∨ (look b i = some av ∧ ∃ x, (i, x) ∈ b) := by
 induction a with
 | nil =>
  exact .inr ⟨h, look_mem h⟩
 | cons q t ih =>
  obtain ⟨j, x⟩ := q
  simp only [List.cons_append, look] at h
  cases hb : Nat.beq j i with
  | true =>
   rw [hb] at h
   obtain rfl := Nat.eq_of_beq_eq_true hb
   simp only [cond_true, Option.some.injEq] at h
   subst h
   exact .inl (by simp)
  | false =>
   rw [hb] at h
   rcases ih (by simpa using h) with h | h
   ·exact .inl (by simp [h])
   ·exact .inr h
theorem WL_auto {c : Cx} {ds : List Nat} {sp : List Sp} {vs : Nat → Value} {lr : List Nat} {rsB : List (Nat × AV)} {hs : List HA} {Q : Exit → S → Prop} {ops : Array Oper} {l : List Oper} (ks : List Nat) {pk rs' : List (Nat × AV)} {hs' : List HA} (hp : Pk ds sp vs rsB ks pk rs') (hn : Nrm hs hs') (h2 : pk.map (fun p => look (regsD ds sp vs lr rsB) p.1) = pk.map (fun p => some p.2)) (h3 : rsB.all (fun p => !memN (lr.map (nthN ds)) p.1) = true) (k : WL c ops l ⟨rs', hs'⟩ Q) : WL c ops l ⟨regsD ds sp vs lr rsB, hs⟩ Q := by
 rw [hn.eq]
 refine ⟨fun a w st => ?_⟩
 obtain ⟨G, F, hI, hF, hR, r⟩ := st
 refine k.out a w ⟨G, F, hI, hF, fun j u e => ?_, r⟩
 rw [hp.eq] at e
 refine hR _ _ ?_
 rcases look_append e with h | ⟨h, x, hx⟩
 ·exact List.map_inj_left.1 h2 (j, u) h
 ·rw [show (⟨regsD ds sp vs lr rsB, hs'⟩ : S).rs = regsD ds sp vs lr rsB from rfl, look_regsD (by simpa using List.all_eq_true.1 h3 (j, x) hx)]; exact h
theorem inv_keep {G : Nat → Option Obj} {F : List Nat} {kept rest : List HA} {w : World} (h : Inv G F (kept ++ rest) w) : ∃ F1, Inv G F1 kept w ∧ Fr w w F F1 G G := by
 obtain ⟨F1, F2, e, h1, h2⟩ := hsP.split h.hs
 have nd := (e.nodup_iff).1 h.nd
 exact ⟨F1, ⟨h.gin, (List.nodup_append.1 nd).1, fun b hb => h.own b (e.mem_iff.2 (by simp [hb])), h1⟩, rfl, rfl, rfl, Nat.le_refl _, fun _ _ _ => rfl, fun b hb => .inl (e.mem_iff.2 (by simp [hb])), Gle.refl _, fun _ _ h => .inl h⟩
theorem resK {P : Program} {fn : Func} {t : Tmp} {post : AV → List HA → Prop} {rs : List (Nat × AV)} {hs kept r : List HA} {av : AV} (hr : fn.results = #[.tmp t]) (hl : look rs t = some av) (hcut : Cut hs kept r) (hp : post av kept) : Res P fn post ⟨rs, hs⟩ :=
 ⟨av, kept, hp, fun a w G F hR hI => by
  obtain ⟨F1, h1, h2⟩ := inv_keep (rest := r) ⟨hI.gin, hI.nd, hI.own, hcut.sel hI.hs⟩
  exact ⟨_, G, F1, results_tmp hr _ _ _, h2, h1, hR _ _ hl⟩⟩
theorem wl_callC {c : Cx} {rs : List (Nat × AV)} {hs pre r : List HA} {Q : Exit → S → Prop} {ops : Array Oper} {tl : List Oper} {d : Nat} {ty : TypeId} {pos : String} {af : Array Edge} {k : FuncId} {xs : List Operand} {ts : Array TypeId} {avs : List AV} {post : AV → List HA → Prop} (hc : Con c.P k avs pre post) (hx : opvs rs xs = some avs) (hcut : Cut hs pre r) (hd : Nat.blt d c.nt = true) (kk : ∀ av prod, post av prod → WL c ops tl ⟨(d, av) :: rs, prod ++ r⟩ Q) : WL c ops (⟨some d, .call { callee := .value (.func k), args := xs.toArray, argTypes := ts }, ty, pos, af, none⟩ :: tl) ⟨rs, hs⟩ Q :=
 WL_lt (cons := pre) (rest := r) hd rfl (fun _ _ _ h => hcut.sel h) (lt_call hx hc) kk
theorem results_tmp3 {P : Program} {fn : Func} {t u v : Tmp} (hr : fn.results = #[.tmp t, .tmp u, .tmp v]) (tm : Array Value) (w : World) : (results fn tm).run P w = .ok (.tuple #[tm.getD t undef, tm.getD u undef, tm.getD v undef]) w := by
 simp [results, hr, go_sem]
def Tok {α : Type} (e : TypeId) (n : Nat) (f : α → List AV) (xs : List α) : AV → List HA → Prop := fun x y => ∃ u, x = .val u ∧ y = [.row u e n f xs]
theorem LT_bool {P : Program} {o : Oper} {rs : List (Nat × AV)} {cons : List HA} {b : Bool} (b' : Bool) (k : LT P o rs cons (Is (.val (.bool b)) [])) (h : b = b') : LT P o rs cons (Is (.val (.bool b')) []) := h ▸ k
theorem LT_int {P : Program} {o : Oper} {rs : List (Nat × AV)} {cons : List HA} {kd : IntKind} {b : Int} (b' : Int) (k : LT P o rs cons (Is (.val (.int kd b)) [])) (h : b = b') : LT P o rs cons (Is (.val (.int kd b')) []) := h ▸ k
def WR (c : Cx) (x : Code) (Q : Exit → S → Prop) : Nat → S → Prop
 | 0, _ => False
 | m + 1, s => W c x s (thenQ (fun s' => WR c x Q m s') Q)
theorem WR.out {c : Cx} {x : Code} {Q : Exit → S → Prop} : ∀ (m : Nat) {s : S}, WR c x Q m s → ∀ a w, St c s a w → Code.roundsIn c.F c.n c.P x (Post c Q) m a w
 | 0, _, h, _, _, _ => h.elim
 | m + 1, _, h, a, w, st => by
  refine Go.wpIn_mono (W.out (show W c x _ (thenQ (fun s' => WR c x Q m s') Q) from h) a w st) fun e a' w' ⟨s', st', q⟩ => ?_
  cases e with
  | normal => exact WR.out m q a' w' st'
  | _ => exact ⟨s', st', q⟩
theorem ryv {P : Program} {ops : Array Oper} {ds : List Nat} {hs0 hsR : List HA} {rsB : List (Nat × AV)} {K : List Sp → Prop} {acc : List Sp} {o : Oper} {l : List Oper} (deps : List Nat) {av : AV} {j dj : Nat} {b : Bool} {acc' : List Sp} (k : Run P ops ds hs0 hsR rsB K acc' l) (hg : o.guard = some (j, b) := by exact rfl) (hj : gdst ops j = some dj := by exact rfl) (hl : ∀ vs, look (regsD ds acc vs deps rsB) dj = some (.val (.bool b)) := by intro vs; apply look_pk; exact goPk; exact rfl)
 (h : ∀ vs, LTr P o (regsD ds acc vs deps rsB) hsR (([] : List Nat).flatMap (cont acc hs0 vs)) (Is av []) := by intro vs; apply ltr_pk; exact goPk; exact goLtr) (ha : App acc ⟨deps, [], .pv av, []⟩ acc' := by exact goApp) : Run P ops ds hs0 hsR rsB K acc (o :: l) := Run.yes deps [] hg hj hl h ha k
theorem ryx {P : Program} {ops : Array Oper} {ds : List Nat} {hs0 hsR : List HA} {rsB : List (Nat × AV)} {K : List Sp → Prop} {acc : List Sp} {o : Oper} {l : List Oper} (deps : List Nat) {av : AV} {j dj : Nat} {b : Bool} {acc' : List Sp} (h : ∀ vs, LTr P o (regsD ds acc vs deps rsB) hsR (([] : List Nat).flatMap (cont acc hs0 vs)) (Is av [])) (k : Run P ops ds hs0 hsR rsB K acc' l) (hg : o.guard = some (j, b) := by exact rfl) (hj : gdst ops j = some dj := by exact rfl) (hl : ∀ vs, look (regsD ds acc vs deps rsB) dj = some (.val (.bool b)) := by intro vs; apply look_pk; exact goPk; exact rfl)
 (ha : App acc ⟨deps, [], .pv av, []⟩ acc' := by exact goApp) : Run P ops ds hs0 hsR rsB K acc (o :: l) := Run.yes deps [] hg hj hl h ha k
theorem rno {P : Program} {ops : Array Oper} {ds : List Nat} {hs0 hsR : List HA} {rsB : List (Nat × AV)} {K : List Sp → Prop} {acc : List Sp} {o : Oper} {l : List Oper} (deps : List Nat) {j dj : Nat} {b bv : Bool} {acc' : List Sp} (k : Run P ops ds hs0 hsR rsB K acc' l) (hg : o.guard = some (j, b) := by exact rfl) (hj : gdst ops j = some dj := by exact rfl) (hl : ∀ vs, look (regsD ds acc vs deps rsB) dj = some (.val (.bool bv)) := by intro vs; apply look_pk; exact goPk; exact rfl) (hb : (bv == b) = false := by exact rfl)
 (ha : App acc ⟨deps, [], .pv (.val undef), []⟩ acc' := by exact goApp) : Run P ops ds hs0 hsR rsB K acc (o :: l) := Run.no deps [] hg hj hl hb ha k
instance : Ty1 Tryd.prog 3 := ⟨fun w => by kernel_rfl, fun w => by kernel_rfl⟩
instance : Ty1 Tryd.prog 22 := ⟨fun w => by kernel_rfl, fun w => by kernel_rfl⟩
instance : TyN Tryd.prog 24 4 := ⟨fun w => by kernel_rfl, fun w => by kernel_rfl⟩
instance : Ty1 Tryd.prog 48 := ⟨fun w => by kernel_rfl, fun w => by kernel_rfl⟩
instance : Ty1 Tryd.prog 62 := ⟨fun w => by kernel_rfl, fun w => by kernel_rfl⟩
instance : TyN Tryd.prog 64 4 := ⟨fun w => by kernel_rfl, fun w => by kernel_rfl⟩
instance : TyN Tryd.prog 68 2 := ⟨fun w => by kernel_rfl, fun w => by kernel_rfl⟩
instance : Ty1 Tryd.prog 93 := ⟨fun w => by kernel_rfl, fun w => by kernel_rfl⟩
instance : TyN Tryd.prog 109 3 := ⟨fun w => by kernel_rfl, fun w => by kernel_rfl⟩
instance : Ty1 Tryd.prog 132 := ⟨fun w => by kernel_rfl, fun w => by kernel_rfl⟩
instance : TyN Tryd.prog 134 5 := ⟨fun w => by kernel_rfl, fun w => by kernel_rfl⟩
instance : TyN Tryd.prog 137 2 := ⟨fun w => by kernel_rfl, fun w => by kernel_rfl⟩
instance : TyN Tryd.prog 142 5 := ⟨fun w => by kernel_rfl, fun w => by kernel_rfl⟩
instance : Ty1 Tryd.prog 162 := ⟨fun w => by kernel_rfl, fun w => by kernel_rfl⟩
instance : Ty1 Tryd.prog 170 := ⟨fun w => by kernel_rfl, fun w => by kernel_rfl⟩
instance : Ty1 Tryd.prog 172 := ⟨fun w => by kernel_rfl, fun w => by kernel_rfl⟩
instance : Ty1 Tryd.prog 184 := ⟨fun w => by kernel_rfl, fun w => by kernel_rfl⟩
instance : Ty1 Tryd.prog 185 := ⟨fun w => by kernel_rfl, fun w => by kernel_rfl⟩
instance : Ty1 Tryd.prog 187 := ⟨fun w => by kernel_rfl, fun w => by kernel_rfl⟩
instance : TyZ Tryd.prog 3 [.int .i64 0] := ⟨fun w => ⟨.int .i64 0, by kernel_rfl, rfl⟩⟩
instance : TyZ Tryd.prog 22 [.slice none 0 0] := ⟨fun w => ⟨.slice none 0 0, by kernel_rfl, rfl⟩⟩
instance : TyZ Tryd.prog 24 [.int .i64 0, .int .i64 0, .slice none 0 0, .slice none 0 0] := ⟨fun w => ⟨.agg #[.int .i64 0, .int .i64 0, .slice none 0 0, .slice none 0 0], by kernel_rfl, rfl⟩⟩
instance : TyZ Tryd.prog 48 [.slice none 0 0] := ⟨fun w => ⟨.slice none 0 0, by kernel_rfl, rfl⟩⟩
instance : TyZ Tryd.prog 64 [.int .i64 0, .int .i64 0, .int .i64 0, .int .i64 0] := ⟨fun w => ⟨.agg #[.int .i64 0, .int .i64 0, .int .i64 0, .int .i64 0], by kernel_rfl, rfl⟩⟩
instance : TyZ Tryd.prog 68 [.int .i64 0, .int .i64 0] := ⟨fun w => ⟨.agg #[.int .i64 0, .int .i64 0], by kernel_rfl, rfl⟩⟩
instance : TyZ Tryd.prog 93 [.slice none 0 0] := ⟨fun w => ⟨.slice none 0 0, by kernel_rfl, rfl⟩⟩
instance : TyZ Tryd.prog 109 [.int .i64 0, .int .i64 0, .int .i64 0] := ⟨fun w => ⟨.agg #[.int .i64 0, .int .i64 0, .int .i64 0], by kernel_rfl, rfl⟩⟩
instance : TyZ Tryd.prog 134 [.int .i64 0, .int .i64 0, .slice none 0 0, .slice none 0 0, .nilFunc] := ⟨fun w => ⟨.agg #[.int .i64 0, .int .i64 0, .slice none 0 0, .slice none 0 0, .nilFunc], by kernel_rfl, rfl⟩⟩
instance : TyZ Tryd.prog 137 [.int .i64 0, .int .i64 0] := ⟨fun w => ⟨.agg #[.int .i64 0, .int .i64 0], by kernel_rfl, rfl⟩⟩
instance : TyZ Tryd.prog 142 [.int .i64 0, .int .i64 0, .int .i64 0, .int .i64 0, .int .i64 0] := ⟨fun w => ⟨.agg #[.int .i64 0, .int .i64 0, .int .i64 0, .int .i64 0, .int .i64 0], by kernel_rfl, rfl⟩⟩
instance : TyZ Tryd.prog 162 [.nilFunc] := ⟨fun w => ⟨.nilFunc, by kernel_rfl, rfl⟩⟩
instance : TyZ Tryd.prog 170 [.map none] := ⟨fun w => ⟨.map none, by kernel_rfl, rfl⟩⟩
instance : TyZ Tryd.prog 183 [.int .i64 0, .int .i64 0, .int .i64 0, .int .i64 0, .int .i64 0, .int .i64 0, .int .i64 0, .int .i64 0, .int .i64 0, .int .i64 0, .int .i64 0, .int .i64 0, .int .i64 0, .int .i64 0, .int .i64 0, .int .i64 0, .int .i64 0, .int .i64 0, .int .i64 0, .int .i64 0, .int .i64 0, .int .i64 0, .int .i64 0, .int .i64 0, .int .i64 0, .int .i64 0, .int .i64 0, .int .i64 0, .int .i64 0, .int .i64 0, .int .i64 0, .int .i64 0, .int .i64 0, .int .i64 0, .int .i64 0, .int .i64 0] := ⟨fun w => ⟨.agg #[.int .i64 0, .int .i64 0, .int .i64 0, .int .i64 0, .int .i64 0, .int .i64 0, .int .i64 0, .int .i64 0, .int .i64 0, .int .i64 0, .int .i64 0, .int .i64 0, .int .i64 0, .int .i64 0, .int .i64 0, .int .i64 0, .int .i64 0, .int .i64 0, .int .i64 0, .int .i64 0, .int .i64 0, .int .i64 0, .int .i64 0, .int .i64 0, .int .i64 0, .int .i64 0, .int .i64 0, .int .i64 0, .int .i64 0, .int .i64 0, .int .i64 0, .int .i64 0, .int .i64 0, .int .i64 0, .int .i64 0, .int .i64 0], by kernel_rfl, rfl⟩⟩
instance : TyZ Tryd.prog 184 [.nilFunc] := ⟨fun w => ⟨.nilFunc, by kernel_rfl, rfl⟩⟩
instance : TyZ Tryd.prog 185 [.map none] := ⟨fun w => ⟨.map none, by kernel_rfl, rfl⟩⟩
instance : TyZ Tryd.prog 187 [.map none] := ⟨fun w => ⟨.map none, by kernel_rfl, rfl⟩⟩
instance : TyF Tryd.prog 24 2 2 := ⟨fun a w => by kernel_rfl⟩
instance : TyF Tryd.prog 24 3 3 := ⟨fun a w => by kernel_rfl⟩
instance : TyF Tryd.prog 134 0 0 := ⟨fun a w => by kernel_rfl⟩
instance : TyF Tryd.prog 134 1 4 := ⟨fun a w => by kernel_rfl⟩
instance : TyF Tryd.prog 142 0 0 := ⟨fun a w => by kernel_rfl⟩
instance : TyF Tryd.prog 142 1 2 := ⟨fun a w => by kernel_rfl⟩
instance : TyF Tryd.prog 142 2 3 := ⟨fun a w => by kernel_rfl⟩
instance : TyF Tryd.prog 142 3 4 := ⟨fun a w => by kernel_rfl⟩
instance : TyE Tryd.prog 22 3 1 := tyE (z := .int .i64 0) (b := 8) (by kernel_rfl) (by kernel_rfl) (by decide) rfl (by decide)
instance : TyE Tryd.prog 48 109 3 := tyE (z := .agg #[.int .i64 0, .int .i64 0, .int .i64 0]) (b := 24) (by kernel_rfl) (by kernel_rfl) (by decide) rfl (by decide)
instance : TyE Tryd.prog 62 24 4 := tyE (z := .agg #[.int .i64 0, .int .i64 0, .slice none 0 0, .slice none 0 0]) (b := 64) (by kernel_rfl) (by kernel_rfl) (by decide) rfl (by decide)
instance : TyE Tryd.prog 93 22 1 := tyE (z := .slice none 0 0) (b := 24) (by kernel_rfl) (by kernel_rfl) (by decide) rfl (by decide)
instance : TyA Tryd.prog 137 2 1 := ⟨⟨3, by kernel_rfl, fun w => by kernel_rfl⟩, by decide⟩
instance : TyA Tryd.prog 182 6 1 := ⟨⟨3, by kernel_rfl, fun w => by kernel_rfl⟩, by decide⟩
instance : TyA Tryd.prog 183 6 6 := ⟨⟨182, by kernel_rfl, fun w => by kernel_rfl⟩, by decide⟩
instance : TyB Tryd.prog 24 [.int .i64 0, .int .i64 0, .slice none 0 0, .slice none 0 0] (fun i => (#[(0, 1), (1, 1), (2, 1), (3, 1)] : Array (Nat × Nat))[i]?) := tyB_struct (z := .agg #[.int .i64 0, .int .i64 0, .slice none 0 0, .slice none 0 0]) (fs := Program.fieldsOf Tryd.prog 24) (fun w => by kernel_rfl) rfl (by kernel_rfl) (fun w => by kernel_rfl)
instance : TyB Tryd.prog 64 [.int .i64 0, .int .i64 0, .int .i64 0, .int .i64 0] (fun i => (#[(0, 1), (1, 1), (2, 1), (3, 1)] : Array (Nat × Nat))[i]?) := tyB_struct (z := .agg #[.int .i64 0, .int .i64 0, .int .i64 0, .int .i64 0]) (fs := Program.fieldsOf Tryd.prog 64) (fun w => by kernel_rfl) rfl (by kernel_rfl) (fun w => by kernel_rfl)
instance : TyB Tryd.prog 68 [.int .i64 0, .int .i64 0] (fun i => (#[(0, 1), (1, 1)] : Array (Nat × Nat))[i]?) := tyB_struct (z := .agg #[.int .i64 0, .int .i64 0]) (fs := Program.fieldsOf Tryd.prog 68) (fun w => by kernel_rfl) rfl (by kernel_rfl) (fun w => by kernel_rfl)
instance : TyB Tryd.prog 109 [.int .i64 0, .int .i64 0, .int .i64 0] (fun i => (#[(0, 1), (1, 1), (2, 1)] : Array (Nat × Nat))[i]?) := tyB_struct (z := .agg #[.int .i64 0, .int .i64 0, .int .i64 0]) (fs := Program.fieldsOf Tryd.prog 109) (fun w => by kernel_rfl) rfl (by kernel_rfl) (fun w => by kernel_rfl)
instance : TyB Tryd.prog 134 [.int .i64 0, .int .i64 0, .slice none 0 0, .slice none 0 0, .nilFunc] (fun i => (#[(0, 4), (4, 1)] : Array (Nat × Nat))[i]?) := tyB_struct (z := .agg #[.int .i64 0, .int .i64 0, .slice none 0 0, .slice none 0 0, .nilFunc]) (fs := Program.fieldsOf Tryd.prog 134) (fun w => by kernel_rfl) rfl (by kernel_rfl) (fun w => by kernel_rfl)
instance : TyB Tryd.prog 137 [.int .i64 0, .int .i64 0] (fun i => some (i * 1, 1)) := tyB_array (z := .agg #[.int .i64 0, .int .i64 0]) (n := 2) (e := 3) (fun w => by kernel_rfl) rfl (by kernel_rfl) (fun w => by kernel_rfl)
instance : TyB Tryd.prog 142 [.int .i64 0, .int .i64 0, .int .i64 0, .int .i64 0, .int .i64 0] (fun i => (#[(0, 2), (2, 1), (3, 1), (4, 1)] : Array (Nat × Nat))[i]?) := tyB_struct (z := .agg #[.int .i64 0, .int .i64 0, .int .i64 0, .int .i64 0, .int .i64 0]) (fs := Program.fieldsOf Tryd.prog 142) (fun w => by kernel_rfl) rfl (by kernel_rfl) (fun w => by kernel_rfl)
instance : TyQ Tryd.prog 68 2 := ⟨fun x y xs ys w h1 h2 => by
 match xs, ys, h1, h2 with
 | [x0, x1], [y0, y1], _, _ => refine ⟨?_, ?_, ?_, ?_⟩ <;> simp [go_sem] <;> by_cases h10 : x0 = y0 <;> by_cases h11 : x1 = y1 <;> simp [*]⟩
instance : TyQ Tryd.prog 109 3 := ⟨fun x y xs ys w h1 h2 => by
 match xs, ys, h1, h2 with
 | [x0, x1, x2], [y0, y1, y2], _, _ => refine ⟨?_, ?_, ?_, ?_⟩ <;> simp [go_sem] <;> by_cases h10 : x0 = y0 <;> by_cases h11 : x1 = y1 <;> by_cases h12 : x2 = y2 <;> simp [*]⟩
end Go.Proofs.YthddoikmgpgakaaDoor.Sw
namespace Go.Proofs.YthddoikmgpgakaaDoor
open Go.RowKit Go.Proofs Go.Shelf
open Go.WideElems (Fit)
open Go.ChangeMaps (setBlock heap_setBlock_same heap_setBlock_other)
def plc (i k : Nat) : Value := .agg #[.int .i64 i, .int .i64 k]
def klit (i k : Nat) : Lit := .string (keyBytes [.int .i64 i, .int .i64 k])
abbrev anyE : Value → Option (DataW Nat × List MemPlace) := fun _ => some (.nil, [])
theorem plc_inj {i k i' k' : Nat} (h : plc i k = plc i' k') : i = i' ∧ k = k' := by
 simp [plc] at h
 omega
theorem row_place : 137 < (Tryd.prog).types.size := of_decide_eq_true (by kernel_rfl)
theorem laid_place : laidOutB Tryd.prog = true := by kernel_rfl
theorem deep_place : (Tryd.prog).keyTypeAt 2 137 = true := by kernel_rfl
theorem law_place : Go.WideMaps.KeyLaw Tryd.prog 137 := deep_law_laid laid_place (m := 2) (by omega) row_place deep_place (by rw [Tryd.underlying137])
theorem wf_nat {i : Nat} (h : i ≤ 4000) : (Lit.int .i64 (i : Int)).wf = true := by
 simp only [Lit.wf, IntKind.min, IntKind.max, IntKind.signed, IntKind.bits, Bool.and_eq_true, decide_eq_true_eq, if_true]
 omega
theorem keytype_place : (Tryd.prog).keyType 137 = true := by kernel_rfl
theorem cells_place : (Tryd.prog).cellsOf 137 = 2 := by kernel_rfl
theorem cells_int : (Tryd.prog).cellsOf 3 = 1 := by kernel_rfl
theorem keyed_place : Go.Maps.Keyed Tryd.prog 137 := Go.Maps.Keyed.of_law law_place
theorem key_place {i k : Nat} (hi : i ≤ 4000) (hk : k ≤ 4000) : keyOf Tryd.prog 137 (plc i k) = some (klit i k) := by
 have w1 := wf_nat hi
 have w2 := wf_nat hk
 have u1 : (Tryd.prog).underlying 137 = some (.array 2 3) := Tryd.underlying137
 have u2 : (Tryd.prog).underlying 3 = some (.int .i64) := Tryd.underlying3
 have c1 := cells_place
 have c2 := cells_int
 have kt := keytype_place
 have hs : ∃ m, (Tryd.prog).types.size = m + 1 := ⟨(Tryd.prog).types.size - 1, by have := row_place; omega⟩
 obtain ⟨m, hm⟩ := hs
 obtain ⟨d, hd⟩ : ∃ d, d = (Tryd.prog).types.size + 1 := ⟨_, rfl⟩
 have kl : (Tryd.prog).keyLits d 137 [.int .i64 i, .int .i64 k] = some [.int .i64 i, .int .i64 k] := by
  rw [hd, hm]
  unfold Program.keyLits
  simp only [u1]
  simp [c1, c2, Program.keyLits, u2, w1, w2, List.range, List.range.loop]
 unfold keyOf
 rw [← hd]
 simp only [u1]
 rw [if_pos (by simp [kt, plc, Value.formed, u1, c1])]
 show ((Tryd.prog).keyLits d 137 [.int .i64 i, .int .i64 k]).map _ = _
 rw [kl]
 rfl
def PMap (w : World) (b A B : Nat) (V : Nat → Nat → Value → Prop) : Prop :=
 ∃ es clock, w.heap[b]? = some (.map es clock) ∧ Fit Tryd.prog 137 anyE es clock ∧ ∀ x ∈ es.toList, ∃ i k, i ≤ A ∧ k ≤ B ∧ x.key = plc i k ∧ V i k x.val
theorem PMap.made (w : World) (A B : Nat) (V : Nat → Nat → Value → Prop) : PMap (w.alloc (.map #[] 0)) w.heap.size A B V := by
 have h : (w.alloc (.map #[] 0)).ownsMap Tryd.prog 137 anyE w.heap.size 0 (.map []) := World.ownsMap_made _ _ _ _
 obtain ⟨es, clock, h1, h2, h3, _⟩ := h
 refine ⟨es, clock, h1, h2, fun x hx => ?_⟩
 have : es.toList = [] := by cases es with | mk l => simp at h3; simpa using h3
 rw [this] at hx
 cases hx
theorem PMap.lt {w : World} {b A B : Nat} {V : Nat → Nat → Value → Prop} (h : PMap w b A B V) : b < w.heap.size := by
 obtain ⟨es, clock, h1, _⟩ := h
 exact (Array.getElem?_eq_some_iff.1 h1).1
theorem PMap.kept {w w' : World} {b A B : Nat} {V : Nat → Nat → Value → Prop} (h : PMap w b A B V) (hb : w'.heap[b]? = w.heap[b]?) : PMap w' b A B V := by
 obtain ⟨es, clock, h1, h2, h3⟩ := h
 exact ⟨es, clock, hb.trans h1, h2, h3⟩
theorem PMap.mono {w : World} {b A B : Nat} {V V' : Nat → Nat → Value → Prop} (h : PMap w b A B V) (hv : ∀ i k v, V i k v → V' i k v) : PMap w b A B V' := by
 obtain ⟨es, clock, h1, h2, h3⟩ := h
 exact ⟨es, clock, h1, h2, fun x hx => by obtain ⟨i, k, g1, g2, g3, g4⟩ := h3 x hx; exact ⟨i, k, g1, g2, g3, hv _ _ _ g4⟩⟩
theorem le_of_keys {es : List Value} (hn : es.Nodup) {ks : List Value} (hs : ∀ x ∈ es, x ∈ ks) : es.length ≤ ks.length := by
 induction es generalizing ks with
 | nil => simp
 | cons x r ih =>
  have hx : x ∈ ks := hs x (by simp)
  obtain ⟨s, t, rfl⟩ := List.append_of_mem hx
  have hn' := List.nodup_cons.1 hn
  have := ih hn'.2 (ks := s ++ t) (fun y hy => by
   have h1 := hs y (by simp [hy])
   rcases List.mem_append.1 h1 with h | h
   ·exact List.mem_append.2 (.inl h)
   ·rcases List.mem_cons.1 h with rfl | h
    ·exact absurd hy hn'.1
    ·exact List.mem_append.2 (.inr h))
  simp at this ⊢
  omega
theorem PMap.size {w : World} {b A B : Nat} {V : Nat → Nat → Value → Prop} {es : Array MapEntry} {clock : Nat} (F : Fit Tryd.prog 137 anyE es clock) (h : ∀ x ∈ es.toList, ∃ i k, i ≤ A ∧ k ≤ B ∧ x.key = plc i k ∧ V i k x.val) : es.size ≤ (A + 1) * (B + 1) := by
 have hn := F.stamped.2.2
 have h1 := le_of_keys hn (ks := (List.range (A + 1)).flatMap fun i => (List.range (B + 1)).map fun k => plc i k) (fun y hy => by
  obtain ⟨x, hx, rfl⟩ := List.mem_map.1 hy
  obtain ⟨i, k, hi, hk, e, _⟩ := h x hx
  exact List.mem_flatMap.2 ⟨i, List.mem_range.2 (by omega), List.mem_map.2 ⟨k, List.mem_range.2 (by omega), e.symm⟩⟩)
 have h2 : ((List.range (A + 1)).flatMap fun i => (List.range (B + 1)).map fun k => plc i k).length = (A + 1) * (B + 1) := by
  rw [List.length_flatMap]
  simp only [List.length_map, List.length_range, List.map_const', List.sum_replicate_nat]
 rw [h2] at h1
 simpa using h1
theorem PMap.look {w : World} {b A B : Nat} {V : Nat → Nat → Value → Prop} (h : PMap w b A B V) {t e : TypeId} (ht : (Tryd.prog).underlying t = some (.map 137 e)) {z : Value} (hz : (zeroValue e).run Tryd.prog w = .ok z w) {i k : Nat} (hi : i ≤ 4000) (hk : k ≤ 4000) :
  (Instr.lookup t (.map (some b)) (plc i k) true).run Tryd.prog w = .ok (.tuple #[z, .bool false]) w ∨ ∃ v, V i k v ∧ (Instr.lookup t (.map (some b)) (plc i k) true).run Tryd.prog w = .ok (.tuple #[v, .bool true]) w := by
 obtain ⟨es, clock, h1, h2, h3⟩ := h
 rcases Go.Maps.fit_look true keyed_place ht hz h1 h2 (key_place hi hk) with ⟨hr, _, _⟩ | ⟨e0, y, hm, hk0, hr, _⟩
 ·exact .inl hr
 ·obtain ⟨i', k', _, _, g1, g2⟩ := h3 e0 hm
  rw [hk0] at g1
  obtain ⟨rfl, rfl⟩ := plc_inj g1
  exact .inr ⟨e0.val, g2, hr⟩
theorem PMap.store {w : World} {b A B : Nat} {V : Nat → Nat → Value → Prop} (h : PMap w b A B V) {t e : TypeId} (ht : (Tryd.prog).underlying t = some (.map 137 e)) {i k : Nat} (hA : A ≤ 4000) (hB : B ≤ 4000) (hi : i ≤ A) (hk : k ≤ B) {v : Value} (hv : V i k v) :
  ∃ w', (Instr.mapUpdate t (.map (some b)) (plc i k) v).run Tryd.prog w = .ok () w' ∧ PMap w' b A B V ∧ w.grownBy w' (some b) ∧ w'.heap.size = w.heap.size := by
 obtain ⟨es, clock, h1, h2, h3⟩ := h
 have hsz := PMap.size (w := w) (b := b) h2 h3
 have hm : (A + 1) * (B + 1) ≤ 4001 * 4001 := Nat.mul_le_mul (by omega) (by omega)
 have hmax : maxLen = 9223372036854775807 := by rfl
 obtain ⟨es', clock', hr, F', _, _, _, hw⟩ := Go.Maps.fit_store (R' := anyE) (val := v) keyed_place ht h1 h2 (by omega) (fun _ _ _ z hz => hz) (key_place (i := i) (k := k) (by omega) (by omega)) (yv := (.nil, [])) rfl
 refine ⟨_, hr, ⟨es', clock', heap_setBlock_same h1 _, F', fun x hx => ?_⟩, ⟨rfl, rfl, rfl, by simp [setBlock], fun j _ hj => heap_setBlock_other h1 _ (fun e => hj (by rw [e]))⟩, by simp [setBlock]⟩
 rcases hw x hx with ⟨hx', _⟩ | ⟨hk', hv'⟩
 ·exact h3 x hx'
 ·exact ⟨i, k, hi, hk, hk', by rw [hv']; exact hv⟩
end Go.Proofs.YthddoikmgpgakaaDoor
