/- Proofs for the seat's cards: MtA, MtB, Lst, LsA, LsB, LsC, Slo, Twin, Copied, MtC, MtD, MtE, MtF, MtI, LsD, Srt, LsE, LsF. No condition of its own. -/
import Derived.Test.YthddoikmgpgakaaDoorProg
import Derived.Outline
import Derived.RangeFuncNested
import Derived.Shelf.Abstract
import Derived.Deep.QuietTactic
import Derived.BigQuiet
import Derived.Deep.RegionHeld3
import Derived.WalkSmall
import Derived.Laws.EntriesVeiled
import Derived.Deep.AppendLies
import Derived.Shelf.SlSortCmp.Whole1
import Derived.Shelf.Lay
import Derived.Test.YthddoikmgpgakaaDoorNa5
set_option linter.unusedVariables false
set_option linter.unusedSimpArgs false
set_option maxRecDepth 40000
set_option maxHeartbeats 32000000
namespace Go.Proofs.YthddoikmgpgakaaDoor.Sw
open Go.RowKit Go
section
variable {P : Program} {rs : List (Nat × AV)} {d : Option Nat} {ty : TypeId} {pos : String} {af : Array Edge} {g : Option (Nat × Bool)}
theorem lt_indexEA {α : Type} {x y : Operand} {t : TypeId} {len m n : Nat} [hT : TyA P t len m] {f : α → List AV} {xs : List α} {k j : Nat} {i : Int} {kk : Nat} {kd : IntKind} (hx : opv rs x = some (.el n f xs k j)) (hy : opv rs y = some (.val (.int kd i))) (hi : i = (kk : Int)) (hk : kk < len) :
  LT P ⟨d, .indexAddr t x y, ty, pos, af, g⟩ rs [] (Is (.el n f xs k (j + kk * m)) []) :=
 LT_val (fun _ e => by cases e) fun a w G hR hG => by
  obtain ⟨b, o, e1, hs⟩ : (AV.el n f xs k j).P G (a.eval x) := opv_ok hR hx
  have e2 : a.eval y = _ := opv_ok hR hy
  obtain ⟨e, hu, hsz⟩ := hT.und
  have hm := hT.many
  subst hi
  refine ⟨.pointer (some ⟨b, o + k * n + (j + kk * m), none⟩), ⟨b, o, rfl, hs⟩, ?_⟩
  simp only [execOp, e1, e2, Sem.run_bind]
  have h2 : (Instr.indexAt t (.pointer (some ⟨b, o + k * n + j, none⟩)) (.int kd kk)).run P w = .ok (.pointer (some ⟨b, o + k * n + j + kk * m, none⟩)) w := by
   have hk' : (0 : Int) ≤ (kk : Int) ∧ (kk : Int) < (len : Int) := by omega
   simp [Instr.indexAt, asIntOf, run_underlying hu, hk', hsz w, add_plain, Instr.sureAddr]
   intro h'; omega
  rw [h2, Nat.add_assoc]
  rfl
theorem lt_indexAA {x y : Operand} {t : TypeId} {len m : Nat} [hT : TyA P t len m] {p : Value} {j : Nat} {i : Int} {kk : Nat} {kd : IntKind} (hx : opv rs x = some (.at p j)) (hy : opv rs y = some (.val (.int kd i))) (hi : i = (kk : Int)) (hk : kk < len) :
  LT P ⟨d, .indexAddr t x y, ty, pos, af, g⟩ rs [] (Is (.at p (j + kk * m)) []) :=
 LT_val (fun _ e => by cases e) fun a w G hR hG => by
  obtain ⟨b, hp, e1⟩ : (AV.at p j).P G (a.eval x) := opv_ok hR hx
  have e2 : a.eval y = _ := opv_ok hR hy
  obtain ⟨e, hu, hsz⟩ := hT.und
  have hm := hT.many
  subst hi
  refine ⟨.pointer (some ⟨b, j + kk * m, none⟩), ⟨b, hp, rfl⟩, ?_⟩
  simp only [execOp, e1, e2, Sem.run_bind]
  have h2 : (Instr.indexAt t (.pointer (some ⟨b, j, none⟩)) (.int kd kk)).run P w = .ok (.pointer (some ⟨b, j + kk * m, none⟩)) w := by
   have hk' : (0 : Int) ≤ (kk : Int) ∧ (kk : Int) < (len : Int) := by omega
   simp [Instr.indexAt, asIntOf, run_underlying hu, hk', hsz w, add_plain, Instr.sureAddr]
   intro h'; omega
  rw [h2]
  rfl
theorem lt_lenVs {x : Operand} {t e : TypeId} {m : Nat} [h : TyS P t e m] {v : Value} {n : Nat} (hx : opv rs x = some (.val v)) (hv : ∃ a c, v = .slice a n c) :
  LT P ⟨d, .call { callee := .builtin .len, args := #[x], argTypes := #[t] }, ty, pos, af, g⟩ rs [] (Is (.val (.int .i64 n)) []) :=
 LT_val (fun _ e => by cases e) fun a w G hR hG => by
  obtain ⟨ad, c, e2⟩ := hv
  have e1 : a.eval x = v := opv_ok hR hx
  rw [e2] at e1
  refine ⟨_, rfl, ?_⟩
  simp [execOp, resolve, e1, invoke, builtin, Builtin.len_, run_underlying h.und, goInt]
end
theorem row_len {α : Type} {G : Nat → Option Obj} {F : List Nat} {w : World} {v : Value} {e : TypeId} {n : Nat} {f : α → List AV} {xs : List α} (h : (HA.row v e n f xs).P G F w) : ∃ a c, v = .slice a xs.length c := by
 obtain ⟨vs, _, _, _, _, _, h2⟩ := h
 rcases h2 with ⟨h3, h4⟩ | ⟨g, cap, cur, h3, _⟩
 ·rw [h3]; exact ⟨none, 0, by first | (rw [show xs.length = 0 by omega]) | simp_all⟩
 ·exact ⟨_, _, h3⟩
theorem W_rowLen {α : Type} {c : Cx} {rs : List (Nat × AV)} {hs r : List HA} {Q : Exit → S → Prop} {x : Code} {v : Value} {e : TypeId} {n : Nat} {f : α → List AV} {xs : List α} (hr : Rm hs (.row v e n f xs) r) (k : (∃ a c, v = .slice a xs.length c) → W c x ⟨rs, hs⟩ Q) : W c x ⟨rs, hs⟩ Q := ⟨fun a w st => by
 obtain ⟨G, F, hI, rr⟩ := st
 obtain ⟨A, B, ep, h1, h2⟩ := hr.sel hI.hs
 exact (k (row_len h1)).out a w ⟨G, F, hI, rr⟩⟩
def cells (g : Nat → Int) : List AV := (List.range 36).map fun q => .val (.int .i64 (g q))
theorem cells_at {g : Nat → Int} {j : Nat} (h : j < 36) : (cells g)[j]? = some (.val (.int .i64 (g j))) := by
 unfold cells
 rw [List.getElem?_map, List.getElem?_range h]; rfl
theorem cells_len (g : Nat → Int) : (cells g).length = 36 := by simp [cells]
theorem cells_put {g : Nat → Int} {j : Nat} {x : Int} (h : j < 36) : spl (cells g) j [.val (.int .i64 x)] = cells fun q => if q = j then x else g q := by
 unfold spl cells
 refine List.ext_getElem? fun i => ?_
 rw [List.getElem?_map]
 rcases Nat.lt_or_ge i 36 with hi | hi
 ·rw [List.getElem?_range hi]
  rcases Nat.lt_trichotomy i j with q | q | q
  ·rw [List.append_assoc, List.getElem?_append_left (by simp; omega), List.getElem?_take, if_pos q, List.getElem?_map, List.getElem?_range hi]
   simp [show i ≠ j by omega]
  ·subst q
   rw [List.append_assoc, List.getElem?_append_right (by rw [List.length_take]; exact Nat.min_le_left _ _)]
   simp [show min i 36 = i by omega]
  ·rw [List.append_assoc, List.getElem?_append_right (by simp; omega), List.getElem?_append_right (by simp; omega)]
   simp only [List.length_take, List.length_map, List.length_range, List.length_singleton, List.getElem?_drop, List.getElem?_map]
   rw [show j + 1 + (i - min j 36 - 1) = i by omega, List.getElem?_range hi]
   simp [show i ≠ j by omega]
 ·rw [List.getElem?_eq_none (by simp; omega), List.getElem?_eq_none (by simp; omega)]; rfl
def cst (g : Nat → Int) (i k : Nat) : Int := g (0 + i * 6 + k * 1)
abbrev kI : Int → Value := fun n => .int .i64 n
def bG : Bool → AV := fun b => .val (.bool b)
def mF (N : Nat) (s : List Nat) : List (Int × Bool) := ((List.range N).filter fun k => !decide (k ∈ s)).map fun (k : Nat) => ((k : Int), true)
theorem mF_del (N : Nat) (s : List Nat) (k : Nat) : delM (mF N s) (k : Int) = mF N (s ++ [k]) := by
 unfold delM mF
 rw [List.filter_map, List.filter_filter]
 congr 1
 refine List.filter_congr fun j _ => ?_
 by_cases h1 : j ∈ s <;> by_cases h2 : j = k <;> simp [h1, h2] <;> omega
theorem mF_pw (N : Nat) (s : List Nat) : (mF N s).Pairwise fun p q => p.1 ≠ q.1 := by
 unfold mF
 rw [List.pairwise_map]
 refine ((List.pairwise_lt_range (n := N)).filter _).imp fun h e => ?_
 dsimp only at e
 omega
theorem mF_mem {N : Nat} {s : List Nat} {k : Nat} : ((k : Int), true) ∈ mF N s ↔ k < N ∧ k ∉ s := by
 unfold mF
 rw [List.mem_map]
 constructor
 ·rintro ⟨j, hj, e⟩
  obtain ⟨h1, h2⟩ := List.mem_filter.1 hj
  have : j = k := by
   have := congrArg Prod.fst e
   dsimp only at this
   omega
  subst this
  exact ⟨List.mem_range.1 h1, by simpa using h2⟩
 ·rintro ⟨h1, h2⟩
  exact ⟨k, List.mem_filter.2 ⟨List.mem_range.2 h1, by simpa using h2⟩, rfl⟩
theorem mF_get {N : Nat} {s : List Nat} {k : Nat} (hk : k < N) : getM (mF N s) (k : Int) = if k ∈ s then none else some true := by
 split
 ·rename_i h
  refine getM_none.2 fun p hp e => ?_
  unfold mF at hp
  obtain ⟨j, hj, rfl⟩ := List.mem_map.1 hp
  have : j = k := by dsimp only at e; omega
  subst this
  exact absurd h (by simpa using (List.mem_filter.1 hj).2)
 ·rename_i h
  exact (getM_iff (mF_pw N s)).2 (mF_mem.2 ⟨hk, h⟩)
theorem mF_len (N : Nat) (s : List Nat) : (mF N s).length ≤ N := by
 unfold mF
 rw [List.length_map]
 exact Nat.le_trans (List.length_filter_le _ _) (by simp)
theorem getM_permB {κ α : Type} [DecidableEq κ] {k : κ} {a : α} : ∀ {l : List (κ × α)}, l.Pairwise (fun p q => p.1 ≠ q.1) → getM l k = some a → l.Perm ((k, a) :: delM l k)
 | p :: t, hp, h => by
  obtain ⟨h1, h2⟩ := List.pairwise_cons.1 hp
  by_cases e : p.1 = k
  ·have : p = (k, a) := by
    rw [getM, if_pos e] at h
    cases h; rw [← e]
   have hd : delM (p :: t) k = t := by
    unfold delM
    rw [List.filter_cons_of_neg (by simp [e])]
    exact List.filter_eq_self.2 fun q hq => by have := h1 q hq; rw [e] at this; simpa using fun z : q.1 = k => this z.symm
   rw [hd, this]
  ·rw [getM, if_neg e] at h
   have hd : delM (p :: t) k = p :: delM t k := by unfold delM; rw [List.filter_cons_of_pos (by simp [e])]
   rw [hd]
   exact ((getM_permB h2 h).cons p).trans (List.Perm.swap _ _ _)
 | [], _, h => by simp [getM] at h
theorem mF_put {N : Nat} {s : List Nat} {k : Nat} (hk : k < N) (hs : k ∉ s) : (mF N s).Perm (putM (mF N (s ++ [k])) (k : Int) true) := by
 have h := getM_permB (mF_pw N s) (show getM (mF N s) (k : Int) = some true by rw [mF_get hk, if_neg hs])
 unfold putM
 rw [mF_del, show mF N (s ++ [k] ++ [k]) = mF N (s ++ [k]) from by unfold mF; simp]
 rwa [mF_del] at h
theorem mF_up (i : Nat) : (mF (i + 1) []).Perm (putM (mF i []) (i : Int) true) := by
 have h := mF_put (N := i + 1) (s := []) (k := i) (by omega) (by simp)
 have e : mF (i + 1) [i] = mF i [] := by
  unfold mF
  rw [List.range_succ, List.filter_append]
  congr 1
  rw [List.filter_cons_of_neg (by simp), List.filter_nil, List.append_nil]
  refine List.filter_congr fun j hj => ?_
  have := List.mem_range.1 hj
  simp; omega
 rwa [List.nil_append, e] at h
theorem mp_perm {κ α : Type} {P : Program} {v : Value} {t : TypeId} {kv : κ → Value} {g : α → AV} {l l' : List (κ × α)} (h : l'.Perm l) : ∀ G F w, (HA.mp P v t kv g l).P G F w → (HA.mp P v t kv g l').P G F w :=
 fun _ _ _ ⟨b, es, clock, e1, e2, e3, e4, hm⟩ => ⟨b, es, clock, e1, e2, e3, e4, hm.permL h⟩
theorem Con.lend {P : Program} {k : FuncId} {av av' : AV} {args : List AV} {h0 : HA} {ι : Type} {a : ι → AV} {h : ι → List HA} (ht : Thaw h0 av av') (ha : ∀ i G G' v, (a i).P G v → (a i).P G' v) (hh : ∀ i G G' F w, hsP (h i) G F w → hsP (h i) G' F w)
  (hc : Con P k (av' :: args) [] (fun x y => ∃ i, x = a i ∧ y = h i)) : Con P k (av :: args) [h0] (fun x y => ∃ i, x = a i ∧ y = h i ++ [h0]) := ⟨hc.enters, fun G Fp vs w hf hI => by
 obtain ⟨F1, F2, ep, hh0, hps⟩ := hI.hs
 have h2 : F2 = [] := hps
 subst h2
 rw [List.append_nil] at ep
 have hm : ∀ b, b ∈ F1 ↔ b ∈ Fp := fun b => ep.mem_iff.symm
 have hle : Gle G (gall G F1 w) := gall_le fun b hb => (hI.own b ((hm b).1 hb)).2
 match vs, hf with
 | v :: vs, ⟨f1, f2⟩ =>
  refine (hc.calls (gall G F1 w) [] (v :: vs) w ⟨ht.out G F1 w hh0 hle v f1, f2.mono hle⟩ ⟨gall_in hI.gin, List.nodup_nil, fun _ hb => (by cases hb), rfl⟩).mono ?_
  rintro e w' ⟨u, av2, prod, G2, F2, e1, ⟨i, e2, e3⟩, hfr, hi, hu⟩
  subst e2 e3
  have hle3 : Gle G (fun b => if b ∈ F1 then none else G2 b) := fun b o e => by
   have hb : b ∉ F1 := fun hb => by rw [(hI.own b ((hm b).1 hb)).2] at e; cases e
   show (if b ∈ F1 then none else G2 b) = some o
   rw [if_neg hb]; exact hfr.gle b o (hle b o e)
  have hsame : ∀ b ∈ F1, w'.heap[b]? = w.heap[b]? := fun b hb => by
   have hlt := (hI.own b ((hm b).1 hb)).1
   exact hfr.same b hlt (by simp)
  have hnew : ∀ b ∈ F2, w.heap.size ≤ b := fun b hb => by
   rcases hfr.newF b hb with h | h
   ·cases h
   ·exact h
  refine ⟨u, _, _, (fun b => if b ∈ F1 then none else G2 b), F2 ++ F1, e1, ⟨i, rfl, rfl⟩, ⟨hfr.os, hfr.tape, hfr.output, hfr.size, fun b hb _ => hfr.same b hb (by simp), fun b hb => ?_, hle3, fun b o e => ?_⟩, ⟨fun b o e => ?_, ?_, fun b hb => ?_, ?_⟩, ha i _ _ _ hu⟩
  ·rcases List.mem_append.1 hb with h | h
   ·exact .inr (hnew b h)
   ·exact .inl ((hm b).1 h)
  ·split at e
   ·cases e
   ·rename_i hb
    rcases hfr.newG b o e with h | h | h
    ·unfold gall at h; rw [if_neg hb] at h; exact .inl h
    ·cases h
    ·exact .inr (.inr h)
  ·split at e
   ·cases e
   ·exact hi.gin b o e
  ·refine List.nodup_append.2 ⟨hi.nd, ep.nodup_iff.1 hI.nd, fun x hx y hy e => ?_⟩
   subst e
   have := hnew x hx
   have := (hI.own x ((hm x).1 hy)).1
   omega
  ·rcases List.mem_append.1 hb with h | h
   ·refine ⟨(hi.own b h).1, ?_⟩
    show (if b ∈ F1 then none else G2 b) = none
    split
    ·rfl
    ·exact (hi.own b h).2
   ·exact ⟨Nat.lt_of_lt_of_le (hI.own b ((hm b).1 h)).1 hfr.size, if_pos h⟩
  ·exact hsP.append (hh i _ _ _ _ hi.hs) ⟨F1, [], by simp, HA.mono _ hle3 (HA.loc _ hsame hh0), rfl⟩⟩
theorem fits_iC {G G' : Nat → Option Obj} : ∀ {xs : List Int} {vs : List Value}, Fits G (xs.flatMap iC) vs → Fits G' (xs.flatMap iC) vs
 | [], [], _ => trivial
 | _ :: _, _ :: _, h => ⟨h.1, fits_iC h.2⟩
 | [], _ :: _, h => h.elim
 | _ :: _, [], h => h.elim
theorem row_iC {G G' : Nat → Option Obj} {F : List Nat} {w : World} {v : Value} {e : TypeId} {xs : List Int} (h : (HA.row v e 1 iC xs).P G F w) : (HA.row v e 1 iC xs).P G' F w := by
 obtain ⟨vs, h1, h2, h3, h4⟩ := h
 exact ⟨vs, h1, h2, fits_iC h3, h4⟩
theorem thaw_row {α : Type} (v : Value) (e : TypeId) (n : Nat) (f : α → List AV) (xs : List α) : Thaw (.row v e n f xs) (.val v) (.sl n f xs) := ⟨fun G F w h hle u hu => by
 have hu' : u = v := hu
 subst hu'
 exact row_view1 h (fun _ h => h) hle⟩
end Go.Proofs.YthddoikmgpgakaaDoor.Sw
namespace Go.Proofs.YthddoikmgpgakaaDoor.Sw
open Go.RowKit Go Go.Shelf Go.Proofs
open Go.Proofs.YthddoikmgpgakaaDoor.Ma
theorem keyI : KeyT Tryd.prog 3 kI (fun n => -9223372036854775808 ≤ n ∧ n ≤ 9223372036854775807) := keyT_int Tryd.underlying3
theorem zE {p : Prop} (h : p := by (repeat (first | exact Elems.nil | (apply Elems.cons; exact rfl; exact inferInstance; exact rfl)))) : p := h
theorem cloneI_con (xs : List Int) (hl : xs.length ≤ 100000) : Con Tryd.prog 102 [.sl 1 iC xs] [] (Tok 3 1 iC xs) := by
 refine con_of Tryd.func102 rfl (enters_of Tryd.func102 (by kernel_rfl) rfl) rfl ?_; intro n w0 F0 G0
 refine zS ?_
 apply wl_eqlNil
 ·exact rfl
 ·exact inferInstance
 ·exact rfl
 intro b hb
 refine zS ?_
 refine w_cond rfl (fun h => ?_) (fun h => ?_)
 ·obtain rfl := hb h
  refine zS ?_
  refine Res_row0 3 1 iC ?_
  (apply resK; exact rfl; exact rfl; (apply Cut.cons; exact zN; exact Cut.nil); exact ⟨_, rfl, rfl⟩)
 ·refine zS ?_
  (apply wl_lit iC; exact inferInstance; exact inferInstance; exact inferInstance; exact zE; exact rfl; (first | exact (of_decide_eq_true rfl) | decide | (simp; done) | (simp; omega)); exact rfl)
  intro v0
  refine zS ?_
  (first | (apply wl_append; exact rfl; exact rfl; exact zN; exact inferInstance; exact inferInstance; (first | omega | (simp; omega)); exact rfl) | (apply wl_appendN; exact rfl; exact rfl; exact inferInstance; exact inferInstance; (first | omega | (simp; omega)); exact rfl))
  intro v1
  refine zS ?_
  (apply resK; exact rfl; exact rfl; (apply Cut.cons; exact zN; exact Cut.nil); exact ⟨_, rfl, rfl⟩)
theorem cloneO_con (v : Value) (xs : List Int) (hl : xs.length ≤ 100000) : Con Tryd.prog 102 [.val v] [.row v 3 1 iC xs] (fun x y => ∃ u : Value, x = .val u ∧ y = [.row u 3 1 iC xs, .row v 3 1 iC xs]) :=
 Con.lend (ι := Value) (a := fun u => .val u) (h := fun u => [.row u 3 1 iC xs]) (thaw_row v 3 1 iC xs) (fun _ _ _ _ h => h) (fun i G G' F w ⟨A, B, ep, h1, h2⟩ => ⟨A, B, ep, row_iC h1, h2⟩) (cloneI_con xs hl)
def mtC (x : List Nat × Int) (u : Value) : List AV := [.val u, .val (.int .i64 x.2)]
def mtR (x : List Nat × Int) (u : Value) : List HA := [.row u 3 1 iC (ints x.1)]
abbrev capT (yv p9 mv : Value) (ts : List Tl) (g : Nat → Int) : List AV := [.fp 1 [.sl 4 tC ts], .fp 1 [.val yv], .fp 1 [.val mv], .val p9, .fp 36 (cells g)]
abbrev preT {β : Type} (v yv p9 mv : Value) (ts : List Tl) (g : Nat → Int) (l s : List Nat) (H : β → List HA) (b : β) : List HA := [.row v 3 1 iC (ints l), .box p9 [.clo 116 (capT yv p9 mv ts g)] 184, .mp Tryd.prog mv 3 kI bG (mF ts.length s), .pack (H b)]
def goM (N : Nat) (c : Nat → Nat → Int) (m : Nat) (s : List Nat) (n : Int) (k : Nat) : List (List Nat × Int) := (List.range' k (N - k)).flatMap fun k => if k ∈ s then [] else mats N c m (s ++ [k]) (n + c s.length k)
theorem goM_0 (N : Nat) (c : Nat → Nat → Int) (m : Nat) (s : List Nat) (n : Int) : mats N c (m + 1) s n = goM N c m s n 0 := by rw [mats_succ, goM, List.range_eq_range', Nat.sub_zero]
theorem goM_step {N k : Nat} (h : k < N) (c : Nat → Nat → Int) (m : Nat) (s : List Nat) (n : Int) : goM N c m s n k = (if k ∈ s then [] else mats N c m (s ++ [k]) (n + c s.length k)) ++ goM N c m s n (k + 1) := by
 unfold goM
 rw [show N - k = (N - (k + 1)) + 1 by omega, List.range'_succ, List.flatMap_cons]
theorem goM_end (N : Nat) (c : Nat → Nat → Int) (m : Nat) (s : List Nat) (n : Int) : goM N c m s n N = [] := by unfold goM; rw [Nat.sub_self]; rfl
theorem ints_snoc (s : List Nat) (k : Nat) : ints (s ++ [k]) = ints s ++ [(k : Int)] := by simp [ints]
theorem ints_len (s : List Nat) : (ints s).length = s.length := by simp [ints]
theorem try_con {β βx : Type} (yv p9 mv : Value) (ts : List Tl) (g : Nat → Int) (XS : List (List Nat × Int)) (H : β → List HA) (Hx : βx → List HA) (I : Nat → β → Prop) (Ix : Nat → βx → Prop)
  (hN : ts.length ≤ 6) (hg : ∀ j, 0 ≤ g j ∧ g j ≤ 100000)
  (hY : ∀ k (hk : k < XS.length) b (u : Value), I k b → Yield Tryd.prog yv (mtC XS[k] u) (([] ++ mtR XS[k] u) ++ [.pack (H b)]) fun av prod => (av = .val (.bool true) ∧ ∃ b', I (k + 1) b' ∧ prod = [] ++ [.pack (H b')]) ∨ (av = .val (.bool false) ∧ ∃ b', Ix (k + 1) b' ∧ prod = [] ++ [.pack (Hx b')])) :
  ∀ (m : Nat) (v : Value) (l : List Nat) (cn : Int) (k0 : Nat) (b : β), l.length + m = ts.length → 0 ≤ cn ∧ cn ≤ 100000 * (l.length : Int) → mats ts.length (cst g) m l cn <+: XS.drop k0 → I k0 b →
   Con Tryd.prog 116 ([.val v, .val (.int .i64 cn)] ++ capT yv p9 mv ts g) (preT v yv p9 mv ts g l l H b) fun av prod =>
    (av = .val (.bool true) ∧ ∃ b', I (k0 + (mats ts.length (cst g) m l cn).length) b' ∧ prod = preT v yv p9 mv ts g l l H b') ∨
    (av = .val (.bool false) ∧ ∃ k b' s, 0 < k ∧ k ≤ XS.length ∧ Ix k b' ∧ prod = preT v yv p9 mv ts g l s Hx b') := by
 intro m
 induction m with
 | zero =>
  intro v l cn k0 b hlm hn hpre hI
  have hll := ints_len l
  have hk0 : k0 < XS.length := by
   obtain ⟨s, hs⟩ := hpre
   have := congrArg List.length hs
   simp [mats] at this; omega
  have hx0 : XS[k0] = (l, cn) := by
   obtain ⟨s, hs⟩ := hpre
   have h1 : (l, cn) :: s = XS[k0] :: XS.drop (k0 + 1) := hs.trans (List.drop_eq_getElem_cons hk0)
   injection h1 with h1 h2
   exact h1.symm
  refine con_of Tryd.func116 rfl (enters_of Tryd.func116 (by kernel_rfl) rfl) rfl ?_; intro n w0 F0 G0
  refine W_rowLen zN (fun hv => ?_)
  rw [hll] at hv
  refine zS ?_
  refine w_cond rfl (fun hm => ?_) (fun hm => ?_)
  ·refine zS ?_
   refine W_run 4 [16, 17, 18, 19] [0, 1, 2, 3] (Cut.cons (h := HA.row v 3 1 iC (ints l)) zN (Cut.nil)) rfl goFlt mixedS (by kernel_rfl) rfl ?_
   refine Run.pv [] [] rfl (fun vs => by apply ltr_pk; exact goPk; (refine ltr ?_; apply lt_loadE1'; exact rfl; exact rfl; exact rfl)) goApp ?_
   refine rpv [] [] ?_
   refine Run.tok [1] [1000] rfl (fun vs => by apply ltr_pk; exact goPk; (refine ltr ?_; refine lt_call ?_ (cloneO_con v (ints l) (by omega)); exact rfl)) goApp ?_
   refine rpv [] [] ?_
   refine ⟨⟨by kernel_rfl, by kernel_rfl⟩, fun vs => ?_⟩
   apply WL_auto [0, 2, 3]
   ·exact goPk
   ·exact goNrm
   ·kernel_rfl
   ·kernel_rfl
   refine zS ?_
   have Y := hY k0 hk0 b (vs 2) hI
   rw [hx0] at Y
   have Y' : Yield Tryd.prog yv [.val (vs 2), .val (.int .i64 cn)] [.row (vs 2) 3 1 iC (ints l), .pack (H b)] _ := Y
   refine zS ?_
   (apply wl_yield Y'; exact rfl; exact rfl; exact yC; exact rfl)
   rintro _ _ (⟨rfl, b', hb', rfl⟩ | ⟨rfl, b', hb', rfl⟩)
   ·refine zS ?_
    (apply resK1; exact rfl; exact rfl; exact .inl ⟨rfl, b', hb', rfl⟩; exact yC)
   ·refine zS ?_
    (apply resK1; exact rfl; exact rfl; exact .inr ⟨rfl, k0 + 1, b', l, by omega, by omega, hb', rfl⟩; exact yC)
  ·exfalso
   have := of_decide_eq_false hm
   omega
 | succ m ih =>
  intro v l cn k0 b hlm hn hpre hI
  have hll := ints_len l
  rw [goM_0] at hpre ⊢
  refine con_of Tryd.func116 rfl (enters_of Tryd.func116 (by kernel_rfl) rfl) rfl ?_; intro n w0 F0 G0
  refine W_rowLen zN (fun hv => ?_)
  rw [hll] at hv
  refine zS ?_
  refine w_cond rfl (fun hm => ?_) (fun hm => ?_)
  ·exfalso
   have := of_decide_eq_true hm
   omega
  refine zS ?_
  unfold preT
  refine W_loopJ (fun (q : Nat × Nat × β) => ⟨[(0, .val v), (1, .val (.int .i64 cn)), (2, .fp 1 [.sl 4 tC ts]), (3, .fp 1 [.val yv]), (4, .fp 1 [.val mv]), (5, .val p9), (6, .fp 36 (cells g)), (22, .val (.int .i64 ts.length)), (23, .val (.int .i64 q.1))], preT v yv p9 mv ts g l l H q.2.2⟩)
   (fun q => q.1 ≤ ts.length ∧ I q.2.1 q.2.2 ∧ goM ts.length (cst g) m l cn q.1 <+: XS.drop q.2.1 ∧ q.2.1 + (goM ts.length (cst g) m l cn q.1).length = k0 + (goM ts.length (cst g) m l cn 0).length) (fun q => ts.length - q.1) (0, k0, b) (fun _ _ st => st_sub2 st zR zP) ⟨Nat.zero_le _, hI, hpre, rfl⟩ ?_
  rintro ⟨i, k, b2⟩ ⟨hi1, hIk, hpk, hkl⟩
  dsimp only at hi1 hIk hpk hkl ⊢
  refine zS ?_
  refine w_cond rfl (fun hlt => ?_) (fun hlt => ?_)
  ·have hi' : i < ts.length := by simpa using hlt
   rw [goM_step hi'] at hpk hkl
   unfold preT
   have hik : -9223372036854775808 ≤ (i : Int) ∧ (i : Int) ≤ 9223372036854775807 := by omega
   refine zS ?_
   (apply wl_look1 (z := .bool false) keyI (i : Int) Tryd.underlying185 (fun w => by kernel_rfl); exact rfl; exact zM; exact rfl; exact KeyV.val; exact hik; exact rfl)
   rw [mF_get hi']
   by_cases hmem : i ∈ l
   ·rw [if_pos hmem] at hpk hkl ⊢
    rw [List.nil_append] at hpk hkl
    unfold lkA
    refine zS ?_
    (refine ⟨(i + 1, k, b2), fun _ _ st => st_sub2 st ?_ ?_, ?_, ?_⟩; exact zR; exact zP)
    ·exact ⟨hi', hIk, hpk, hkl⟩
    ·dsimp only; omega
   ·rw [if_neg hmem] at hpk hkl ⊢
    unfold lkA bG
    refine zS ?_
    (apply wl_mdel keyI (i : Int) Tryd.underlying185; exact rfl; exact zM; exact rfl; exact KeyV.val; exact hik; exact rfl)
    rw [mF_del]
    have hc := hg (0 + l.length * 6 + i * 1)
    have IH := fun u => ih u (l ++ [i]) (cn + cst g l.length i) k b2 (by rw [List.length_append, List.length_singleton]; omega) (by rw [List.length_append, List.length_singleton]; unfold cst; omega) ((List.prefix_append _ _).trans hpk) hIk
    unfold preT at IH
    rw [ints_snoc] at IH
    refine zS ?_
    refine W_run 13 [32, 33, 34, 35, 36, 37, 38, 39, 40, 41, 42, 43, 44] [0, 1, 2, 3, 4, 5, 6, 7, 8, 9, 10, 11, 12] (Cut.cons (h := HA.row v 3 1 iC (ints l)) zN (Cut.nil)) rfl goFlt mixedS (by kernel_rfl) rfl ?_
    refine rpv [] [] ?_
    refine rpv [] [] ?_
    refine rpv [] [] ?_
    refine Run.pv [2] [] rfl (fun vs => by apply ltr_pk; exact goPk; (refine ltr ?_; apply LT_frz; apply lt_lit (f := iC); exact zE; exact rfl; (first | exact (of_decide_eq_true rfl) | decide | (simp; done) | (simp; omega)))) goApp ?_
    refine Run.tok [1, 3] [1000] rfl (fun vs => by apply ltr_pk; exact goPk; (refine ltr ?_; apply lt_appendB; exact rfl; exact rfl; exact Nat.zero_lt_one; (simp; omega))) goApp ?_
    refine rpv [] [] ?_
    refine rpv [] [] ?_
    refine Run.pv [6] [] rfl (fun vs => by apply ltr_pk; exact goPk; (refine ltr ?_; apply lt_lenVs; exact rfl; exact hv)) goApp ?_
    refine rpv [] [] ?_
    refine Run.pv [7] [] rfl (fun vs => by apply ltr_pk; exact goPk; (refine ltr ?_; apply lt_indexEA (kk := l.length); exact rfl; exact rfl; exact rfl; omega)) goApp ?_
    refine Run.pv [8, 9] [] rfl (fun vs => by apply ltr_pk; exact goPk; (refine ltr ?_; apply lt_indexEA (kk := i); exact rfl; exact rfl; exact rfl; omega)) goApp ?_
    refine Run.pv [10] [] rfl (fun vs => by apply ltr_pk; exact goPk; (refine ltr ?_; apply lt_loadE1'; exact rfl; exact rfl; exact cells_at (by omega))) goApp ?_
    refine rpv [5, 11] [] ?_
    refine ⟨⟨by kernel_rfl, by kernel_rfl⟩, fun vs => ?_⟩
    apply WL_auto [0, 4, 12]
    ·exact goPk
    ·exact goNrm
    ·kernel_rfl
    ·kernel_rfl
    refine zS ?_
    refine zS ?_
    (apply wl_callVP (IH (vs 4)); exact rfl; exact rfl; exact yC; exact rfl)
    rintro _ _ (⟨rfl, b', hb', rfl⟩ | ⟨rfl, k', b', s', h1, h2, hb', rfl⟩)
    ·refine WL_back (xs := ints l) (ys := [(i : Int)]) (v := v) zN zN ?_
     refine zS ?_
     (apply wl_mput keyI (i : Int) true Tryd.underlying185; exact rfl; exact zM; exact rfl; exact KeyV.val; exact hik; exact rfl; (have := mF_len ts.length (l ++ [i]); omega))
     refine WL_imp zM (mp_perm (mF_put hi' hmem)) ?_
     refine zS ?_
     rw [List.length_append] at hkl
     (refine ⟨(i + 1, k + (mats ts.length (cst g) m (l ++ [i]) (cn + cst g l.length i)).length, b'), fun _ _ st => st_sub2 st ?_ ?_, ?_, ?_⟩; exact zR; exact zP)
     ·refine ⟨hi', hb', ?_, by dsimp only; omega⟩
      obtain ⟨s, hs⟩ := hpk
      refine ⟨s, ?_⟩
      have := congrArg (List.drop (mats ts.length (cst g) m (l ++ [i]) (cn + cst g l.length i)).length) hs
      rw [List.append_assoc, List.drop_left, List.drop_drop] at this
      exact this
     ·dsimp only; omega
    ·refine WL_back (xs := ints l) (ys := [(i : Int)]) (v := v) zN zN ?_
     refine zS ?_
     (apply resK1; exact rfl; exact rfl; exact .inr ⟨rfl, k', b', s', h1, h2, hb', rfl⟩; exact yC)
  ·have hii : i = ts.length := by simp at hlt; omega
   subst hii
   rw [goM_end] at hkl
   refine zS ?_
   have hIf : I (k0 + (goM ts.length (cst g) m l cn 0).length) b2 := by rw [← hkl]; exact hIk
   (apply resK1; exact rfl; exact rfl; exact .inl ⟨rfl, b2, hIf, rfl⟩; exact yC)
theorem WL_weak {c : Cx} {ops : Array Oper} {l : List Oper} {s : S} {Q : Exit → S → Prop} (s' : S) (h0 : ∀ a w, St c s a w → St c s' a w) (h : WL c ops l s' Q) : WL c ops l s Q := ⟨fun a w st => h.out a w (h0 a w st)⟩
theorem matches_iter (ts : List Tl) (g : Nat → Int) (hN : ts.length ≤ 6) (hg : ∀ j, 0 ≤ g j ∧ g j ≤ 100000) :
  Iter Tryd.prog 115 [.fp 1 [.sl 4 tC ts], .fp 36 (cells g)] [] mtC mtR (mats ts.length (cst g) ts.length [] 0) := by
 refine ⟨fun yv β βx H Hx I Ix hone hY b0 hI0 => ?_⟩
 refine con_of Tryd.func115 rfl (enters_of Tryd.func115 (by kernel_rfl) rfl) rfl ?_; intro n w0 F0 G0
 refine zS ?_;repeat(refine yA ?_;intro p hp;refine zS ?_)
 (apply WL_frzb 3 1; exact rfl; exact zN)
 (apply wl_mmake keyI bG; exact rfl; intro mv hmv)
 refine zS ?_;repeat(refine yA ?_;intro p hp;refine zS ?_)
 refine W_loopJ (fun (i : Nat) => ⟨[(1, .fp 1 [.sl 4 tC ts]), (2, .fp 36 (cells g)), (3, .fp 1 [.val yv]), (4, .val p), (9, .val (.int .i64 ts.length)), (10, .val (.int .i64 i))], [.box p [.val mv] 185, .mp Tryd.prog mv 3 kI bG (mF i []), .pack (H b0)]⟩) (fun i => i ≤ ts.length) (fun i => ts.length - i) 0 (fun _ _ st => st_sub2 st zR zP) (Nat.zero_le _) ?_
 intro i hi
 refine zS ?_;repeat(refine yA ?_;intro p hp;refine zS ?_)
 refine w_cond rfl (fun hlt => ?_) (fun hlt => ?_)
 ·have hi' : i < ts.length := by simpa using hlt
  have hik : -9223372036854775808 ≤ (i : Int) ∧ (i : Int) ≤ 9223372036854775807 := by omega
  refine zS ?_;repeat(refine yA ?_;intro p hp;refine zS ?_)
  (apply wl_mput keyI (i : Int) true Tryd.underlying185; exact rfl; exact zM; exact rfl; exact KeyV.val; exact hik; exact rfl; (have := mF_len i []; omega))
  refine WL_imp zM (mp_perm (mF_up i)) ?_
  refine zS ?_;repeat(refine yA ?_;intro p hp;refine zS ?_)
  (refine ⟨i + 1, fun _ _ st => st_sub2 st ?_ ?_, ?_, ?_⟩; exact zR; exact zP)
  ·exact hi'
  ·omega
 ·have hii : i = ts.length := by simp at hlt; omega
  subst hii
  (apply W_frzb 4 1; exact rfl; exact zN)
  refine zS ?_;repeat(refine yA ?_;intro p hp;refine zS ?_)
  have C := try_con yv p mv ts g (mats ts.length (cst g) ts.length [] 0) H Hx I Ix hN hg hY ts.length (.slice none 0 0) [] 0 0 b0 (by simp) (by simp) (by rw [List.drop_zero]; exact List.prefix_refl _) hI0
  unfold preT at C
  refine WL_weak _ (fun _ _ st => st_nil 3 1 iC st) ?_
  (apply wl_callVP C; exact rfl; exact rfl; exact yC; exact rfl)
  rintro _ _ (⟨rfl, b', hb', rfl⟩ | ⟨rfl, k', b', s', h1, h2, hb', rfl⟩)
  ·rw [Nat.zero_add] at hb'
   refine zS ?_;repeat(refine yA ?_;intro p hp;refine zS ?_)
   (apply resK0; exact rfl; exact .inl ⟨b', hb', rfl⟩; exact yC)
  ·refine zS ?_;repeat(refine yA ?_;intro p hp;refine zS ?_)
   (apply resK0; exact rfl; exact .inr ⟨k', b', h1, h2, hb', rfl⟩; exact yC)
end Go.Proofs.YthddoikmgpgakaaDoor.Sw
namespace Go.Proofs.YthddoikmgpgakaaDoor
open Go.RowKit Go.Proofs Go.Shelf
def combL (st fo : List Int) (T : Nat → Nat → List (List Int)) (i k : Nat) : List (List Int) := (bestL st fo i k).flatMap fun x => (notchesL x).flatMap fun n => (T x.i x.k).map (preL n)
theorem mem_combL {st fo : List Int} {T : Nat → Nat → List (List Int)} {i k : Nat} {l : List Int} : l ∈ combL st fo T i k ↔ ∃ x ∈ bestL st fo i k, ∃ n ∈ notchesL x, ∃ r ∈ T x.i x.k, l = preL n r := by
 unfold combL
 simp only [List.mem_flatMap, List.mem_map]
 exact ⟨fun ⟨x, hx, n, hn, r, hr, e⟩ => ⟨x, hx, n, hn, r, hr, e.symm⟩, fun ⟨x, hx, n, hn, r, hr, e⟩ => ⟨x, hx, n, hn, r, hr, e.symm⟩⟩
theorem ltL_pre (n : Int) (a b : List Int) : ltL (preL n a) (preL n b) = ltL a b := by
 unfold preL
 split
 ·exact ltL_same n a b
 ·rfl
theorem comb_fst {st fo : List Int} (hs : okN st = true) (hf : okN fo = true) {i k : Nat} (hi : i ≤ st.length) (hk : k ≤ fo.length) (hne : ¬ (i = st.length ∧ k = fo.length)) {T : Nat → Nat → List (List Int)}
  (hT : ∀ x ∈ bestL st fo i k, Fst 201 (TrueL (st.drop x.i) (fo.drop x.k)) (T x.i x.k)) {M : List (List Int)} (hM : Fst 201 (fun l => l ∈ combL st fo T i k) M) : Fst 201 (TrueL (st.drop i) (fo.drop k)) M := by
 refine hM.comb (fun l hl => ?_) (fun l hl => ?_)
 ·obtain ⟨x, hx, n, hn, r, hr, rfl⟩ := mem_combL.1 hl
  exact (true_iff hs hf hi hk hne _).2 ⟨x, hx, n, hn, r, (hT x hx).sub r hr, rfl⟩
 ·obtain ⟨x, hx, n, hn, r, hr, rfl⟩ := (true_iff hs hf hi hk hne l).1 hl
  rcases (hT x hx).all r hr with h | ⟨h1, h2⟩
  ·exact .inl (mem_combL.2 ⟨x, hx, n, hn, r, h, rfl⟩)
  ·refine .inr ⟨(T x.i x.k).map (preL n), List.pairwise_map.2 ((hT x hx).srt.imp fun h => by rw [ltL_pre]; exact h), by rw [List.length_map]; exact h1, fun y hy => ?_⟩
   obtain ⟨r', hr', rfl⟩ := List.mem_map.1 hy
   exact ⟨mem_combL.2 ⟨x, hx, n, hn, r', hr', rfl⟩, by rw [ltL_pre]; exact h2 r' hr'⟩
theorem fst_fold {n : Nat} : ∀ (xs : List (List Int)) {P : List Int → Prop} {L : List (List Int)}, Fst n P L → Fst n (fun y => P y ∨ y ∈ xs) (xs.foldl (putL n) L)
 | [], P, L, h => h.iff fun x => by simp
 | x :: xs, P, L, h => (fst_fold xs (h.put x)).iff fun y => by
   simp only [List.mem_cons]
   constructor
   ·rintro ((h | h) | h)
    ·exact .inl h
    ·exact .inr (.inl h)
    ·exact .inr (.inr h)
   ·rintro (h | h | h)
    ·exact .inl (.inl h)
    ·exact .inl (.inr h)
    ·exact .inr h
theorem fst_fold0 (n : Nat) (xs : List (List Int)) : Fst n (fun y => y ∈ xs) (xs.foldl (putL n) []) := (fst_fold xs (Fst.nil n)).iff fun y => by simp
def tellF (st fo : List Int) : Nat → Nat → Nat → List (List Int)
 | 0, _, _ => [[]]
 | f + 1, i, k => if i = st.length ∧ k = fo.length then [[]] else (combL st fo (tellF st fo f) i k).foldl (putL 201) []
theorem step_less {st fo : List Int} {i k : Nat} {x : St} (hx : x ∈ stepsL st fo i k) (hi : i ≤ st.length) (hk : k ≤ fo.length) : x.i ≤ st.length ∧ x.k ≤ fo.length ∧ (st.length - x.i) + (fo.length - x.k) < (st.length - i) + (fo.length - k) := by
 rw [stepsL, List.mem_append, List.mem_append] at hx
 rcases hx with hx | hx | hx
 ·by_cases hh : i < st.length ∧ k < fo.length
  ·rw [step1_yes hh.1 hh.2, List.mem_singleton] at hx
   subst hx; dsimp only; omega
  ·rw [step1_no hh] at hx; cases hx
 ·by_cases hh : i < st.length
  ·rw [step2_yes k hh, List.mem_singleton] at hx
   subst hx; dsimp only; omega
  ·rw [step2_no k hh] at hx; cases hx
 ·by_cases hh : k < fo.length
  ·rw [step3_yes i hh, List.mem_singleton] at hx
   subst hx; dsimp only; omega
  ·rw [step3_no i hh] at hx; cases hx
theorem tellF_fst {st fo : List Int} (hs : okN st = true) (hf : okN fo = true) : ∀ (f i k : Nat), i ≤ st.length → k ≤ fo.length → (st.length - i) + (fo.length - k) ≤ f → Fst 201 (TrueL (st.drop i) (fo.drop k)) (tellF st fo f i k)
 | f, i, k, hi, hk, hl => by
  by_cases he : i = st.length ∧ k = fo.length
  ·obtain ⟨rfl, rfl⟩ := he
   have e : tellF st fo f st.length fo.length = [[]] := by cases f <;> simp [tellF]
   rw [e]
   exact (Fst.one (by omega) []).iff fun l => (true_end l).symm
  ·match f with
   | 0 => omega
   | f + 1 =>
    rw [tellF, if_neg he]
    exact comb_fst hs hf hi hk he (fun x hx => by
     have h := step_less (mem_best.1 hx).1 hi hk
     exact tellF_fst hs hf f x.i x.k h.1 h.2.1 (by omega)) (fst_fold0 201 _)
def tellT (st fo : List Int) (i k : Nat) : List (List Int) := tellF st fo ((st.length - i) + (fo.length - k)) i k
theorem tellT_fst {st fo : List Int} (hs : okN st = true) (hf : okN fo = true) {i k : Nat} (hi : i ≤ st.length) (hk : k ≤ fo.length) : Fst 201 (TrueL (st.drop i) (fo.drop k)) (tellT st fo i k) := tellF_fst hs hf _ i k hi hk (Nat.le_refl _)
theorem tellT_end (st fo : List Int) : tellT st fo st.length fo.length = [[]] := by unfold tellT; rw [Nat.sub_self, Nat.sub_self]; rfl
theorem tell_eq {st fo : List Int} (hs : okN st = true) (hf : okN fo = true) {i k : Nat} (hi : i ≤ st.length) (hk : k ≤ fo.length) (hne : ¬ (i = st.length ∧ k = fo.length)) {M : List (List Int)} (hM : Fst 201 (fun l => l ∈ combL st fo (tellT st fo) i k) M) : M = tellT st fo i k :=
 (comb_fst hs hf hi hk hne (fun x hx => by
  have h := step_less (mem_best.1 hx).1 hi hk
  exact tellT_fst hs hf h.1 h.2.1) hM).unique (tellT_fst hs hf hi hk)
def cmpL : List (List Int) → List (List Int)
 | a :: b :: t => if a = b then cmpL (b :: t) else a :: cmpL (b :: t)
 | l => l
theorem cmpL_mem : ∀ (l : List (List Int)) (x : List Int), x ∈ cmpL l ↔ x ∈ l
 | [], x => Iff.rfl
 | [a], x => Iff.rfl
 | a :: b :: t, x => by
  rw [cmpL]
  split
  ·rename_i e
   subst e
   rw [cmpL_mem (a :: t) x]
   simp
  ·rw [List.mem_cons, cmpL_mem (b :: t) x]
   simp
theorem cmpL_srt : ∀ {l : List (List Int)}, l.Pairwise (fun a b => ltL b a = false) → SrtL (cmpL l)
 | [], _ => List.Pairwise.nil
 | [a], _ => List.pairwise_singleton _ _
 | a :: b :: t, h => by
  obtain ⟨h1, h2⟩ := List.pairwise_cons.1 h
  rw [cmpL]
  split
  ·exact cmpL_srt h2
  ·rename_i e
   refine List.pairwise_cons.2 ⟨fun y hy => ?_, cmpL_srt h2⟩
   have hy' := (cmpL_mem _ y).1 hy
   have hab : ltL a b = true := by
    rcases ltL_tri a b with g | g | g
    ·exact g
    ·exact absurd g e
    ·rw [h1 b (by simp)] at g; cases g
   rcases List.mem_cons.1 hy' with rfl | hy'
   ·exact hab
   ·have h3 := (List.pairwise_cons.1 h2).1 y hy'
    rcases ltL_tri b y with g | g | g
    ·exact ltL_trans hab g
    ·rw [← g]; exact hab
    ·rw [h3] at g; cases g
theorem cmp_fst {l : List (List Int)} (h : l.Pairwise (fun a b => ltL b a = false)) : Fst 201 (fun y => y ∈ l) ((cmpL l).take 201) := Fst.take (cmpL_srt h) fun x => (cmpL_mem l x).symm
end Go.Proofs.YthddoikmgpgakaaDoor
namespace Go.Proofs.YthddoikmgpgakaaDoor.Sw
open Go.RowKit Go Go.Shelf Go.Proofs
def plC (i k : Nat) : List AV := [.val (.int .i64 i), .val (.int .i64 k)]
def stC (x : Go.Proofs.YthddoikmgpgakaaDoor.St) : List AV := [.val (.int .i64 x.i), .val (.int .i64 x.k), .val (.int .i64 x.s), .val (.int .i64 x.f), .val (.int .i64 x.wr)]
def pairC (id hs : Int) (st fo : List Int) (fv : AV) : List AV := [.val (.int .i64 id), .val (.int .i64 hs), .sl 1 iC st, .sl 1 iC fo, fv]
theorem steps_con (id hs : Int) (st fo : List Int) (fv : AV) [One fv] (i k : Nat) : Con Tryd.prog 107 [.agg (pairC id hs st fo fv), .agg (plC i k)] [] (fun x y => ∃ q p, x = .clo 125 [.val q, .val p] ∧ y = [.box q (plC i k) 137, .box p (pairC id hs st fo fv) 134]) := by
 refine con_of Tryd.func107 rfl (enters_of Tryd.func107 (by kernel_rfl) rfl) rfl ?_; intro n w0 F0 G0
 refine zS ?_;repeat(refine yA ?_;intro p hp;refine zS ?_)
 (apply resK1; exact rfl; exact rfl; exact ⟨_, _, rfl, rfl⟩; exact yC)
theorem steps_iter (id hs : Int) (st fo : List Int) (fv : AV) [One fv] (i k : Nat) (hi : i ≤ st.length) (hk : k ≤ fo.length) (l1 : st.length ≤ 1000) (l2 : fo.length ≤ 1000) :
  Iter Tryd.prog 125 [.fp 2 (plC i k), .fp 5 (pairC id hs st fo fv)] [] (fun x (_ : Unit) => [.agg (stC x)]) (fun _ _ => []) (stepsL st fo i k) := by
 refine ⟨fun yv β βx H Hx I Ix hone hY b0 hI0 => ?_⟩
 refine con_of Tryd.func125 rfl (enters_of Tryd.func125 (by kernel_rfl) rfl) rfl ?_; intro n w0 F0 G0
 refine zS ?_;repeat(refine yA ?_;intro p hp;refine zS ?_)
 refine W_run 15 [7, 8, 9, 10, 11, 12, 13, 14, 15, 16, 17, 18, 19, 20, 4] [0, 1, 2, 3, 4, 5, 6, 7, 8, 9, 10, 11, 12, 13, 14] Cut.nil rfl goFlt mixedS (by kernel_rfl) rfl ?_
 refine Run.pv [] [] rfl (fun vs => by apply ltr_pk; exact goPk; (refine ltr ?_; apply lt_indexEA (kk := 0); exact rfl; exact rfl; exact rfl; omega)) goApp ?_
 refine Run.pv [0] [] rfl (fun vs => by apply ltr_pk; exact goPk; (refine ltr ?_; apply lt_loadE1'; exact rfl; exact rfl; exact rfl)) goApp ?_
 refine rpv [] [] ?_
 refine rpv [2] [] ?_
 refine Run.pv [3] [] rfl (fun vs => by apply ltr_pk; exact goPk; (refine ltr ?_; apply lt_loadE1'; exact rfl; exact rfl; exact rfl)) goApp ?_
 refine rpv [4] [] ?_
 refine rpv [1, 5] [] ?_
 refine Run.pv [] [] rfl (fun vs => by apply ltr_pk; exact goPk; (refine ltr ?_; apply lt_indexEA (kk := 1); exact rfl; exact rfl; exact rfl; omega)) goApp ?_
 refine Run.pv [7] [] rfl (fun vs => by apply ltr_pk; exact goPk; (refine ltr ?_; apply lt_loadE1'; exact rfl; exact rfl; exact rfl)) goApp ?_
 refine rpv [] [] ?_
 refine rpv [9] [] ?_
 refine Run.pv [10] [] rfl (fun vs => by apply ltr_pk; exact goPk; (refine ltr ?_; apply lt_loadE1'; exact rfl; exact rfl; exact rfl)) goApp ?_
 refine rpv [11] [] ?_
 refine rpv [8, 12] [] ?_
 refine rpv [6] [] ?_
 refine ⟨⟨by kernel_rfl, by kernel_rfl⟩, fun vs => ?_⟩
 apply WL_auto [13, 14]
 ·exact goPk
 ·exact goNrm
 ·kernel_rfl
 ·kernel_rfl
 refine zS ?_;repeat(refine yA ?_;intro p hp;refine zS ?_)
 have q1 : ∀ h : i < st.length, st[i]? = some st[i] := fun h => List.getElem?_eq_getElem h
 have q2 : ∀ h : k < fo.length, fo[k]? = some fo[k] := fun h => List.getElem?_eq_getElem h
 by_cases h1 : i < st.length
 ·have f1 := q1 h1
  by_cases h2 : k < fo.length
  ·have f2 := q2 h2
   have hxs : stepsL st fo i k = [⟨i + 1, k + 1, st[i], fo[k], if st[i] = fo[k] then 0 else 1⟩, ⟨i + 1, k, st[i], 0, 1⟩, ⟨i, k + 1, 0, fo[k], 1⟩] := by rw [stepsL, step1_yes h1 h2, step2_yes k h1, step3_yes i h2]; rfl
   rw [hxs] at hY ⊢
   have e1 : decide ((i : Int) < (st.length : Int)) = true := by simp; omega
   have e2 : decide ((k : Int) < (fo.length : Int)) = true := by simp; omega
   rw [e1, e2]
   refine zS ?_;repeat(refine yA ?_;intro p hp;refine zS ?_)
   refine W_run 23 [25, 26, 27, 28, 29, 30, 31, 32, 33, 34, 35, 36, 37, 38, 39, 40, 41, 42, 43, 44, 45, 46, 6] [0, 1, 2, 3, 4, 5, 6, 7, 8, 9, 10, 11, 12, 13, 14, 15, 16, 17, 18, 19, 20, 21, 22] Cut.nil rfl goFlt mixedS (by kernel_rfl) rfl ?_
   refine Run.pv [] [] rfl (fun vs => by apply ltr_pk; exact goPk; (refine ltr ?_; apply lt_indexEA (kk := 0); exact rfl; exact rfl; exact rfl; omega)) goApp ?_
   refine Run.pv [0] [] rfl (fun vs => by apply ltr_pk; exact goPk; (refine ltr ?_; apply lt_loadE1'; exact rfl; exact rfl; exact rfl)) goApp ?_
   refine rpv [1] [] ?_
   refine Run.pv [] [] rfl (fun vs => by apply ltr_pk; exact goPk; (refine ltr ?_; apply lt_indexEA (kk := 1); exact rfl; exact rfl; exact rfl; omega)) goApp ?_
   refine Run.pv [3] [] rfl (fun vs => by apply ltr_pk; exact goPk; (refine ltr ?_; apply lt_loadE1'; exact rfl; exact rfl; exact rfl)) goApp ?_
   refine rpv [4] [] ?_
   refine rpv [2, 5] [] ?_
   refine rpv [] [] ?_
   refine rpv [7] [] ?_
   refine Run.pv [8] [] rfl (fun vs => by apply ltr_pk; exact goPk; (refine ltr ?_; apply lt_loadE1'; exact rfl; exact rfl; exact rfl)) goApp ?_
   refine Run.pv [] [] rfl (fun vs => by apply ltr_pk; exact goPk; (refine ltr ?_; apply lt_indexEA (kk := 0); exact rfl; exact rfl; exact rfl; omega)) goApp ?_
   refine Run.pv [10] [] rfl (fun vs => by apply ltr_pk; exact goPk; (refine ltr ?_; apply lt_loadE1'; exact rfl; exact rfl; exact rfl)) goApp ?_
   refine rpv [9, 11] [] ?_
   refine rpv [12] [] ?_
   refine rpv [] [] ?_
   refine rpv [14] [] ?_
   refine Run.pv [15] [] rfl (fun vs => by apply ltr_pk; exact goPk; (refine ltr ?_; apply lt_loadE1'; exact rfl; exact rfl; exact rfl)) goApp ?_
   refine Run.pv [] [] rfl (fun vs => by apply ltr_pk; exact goPk; (refine ltr ?_; apply lt_indexEA (kk := 1); exact rfl; exact rfl; exact rfl; omega)) goApp ?_
   refine Run.pv [17] [] rfl (fun vs => by apply ltr_pk; exact goPk; (refine ltr ?_; apply lt_loadE1'; exact rfl; exact rfl; exact rfl)) goApp ?_
   refine rpv [16, 18] [] ?_
   refine rpv [19] [] ?_
   refine rpv [6, 13, 20] [] ?_
   refine Run.tok [] [] rfl (fun vs => by apply ltr_pk; exact goPk; exact goLtr) goApp ?_
   refine ⟨⟨by kernel_rfl, by kernel_rfl⟩, fun vs => ?_⟩
   apply WL_auto [21, 22]
   ·exact goPk
   ·exact goNrm
   ·kernel_rfl
   ·kernel_rfl
   refine zS ?_;repeat(refine yA ?_;intro p hp;refine zS ?_)
   refine zS ?_;repeat(refine yA ?_;intro p hp;refine zS ?_)
   by_cases he : st[i] = fo[k]
   ·rw [if_pos he] at hY ⊢
    rw [decide_eq_true he, Bool.not_true]
    refine zS ?_;repeat(refine yA ?_;intro p hp;refine zS ?_)
    (apply wl_yield (hY 0 (by simp) b0 () hI0); exact rfl; exact rfl; exact yC; exact rfl)
    rintro _ _ (⟨rfl, b1, hb1, rfl⟩ | ⟨rfl, b1, hb1, rfl⟩)
    ·refine zS ?_;repeat(refine yA ?_;intro p hp;refine zS ?_)
     refine W_run 17 [57, 58, 59, 60, 61, 62, 63, 64, 65, 66, 67, 68, 69, 70, 71, 72, 73] [0, 1, 2, 3, 4, 5, 6, 7, 8, 9, 10, 11, 12, 13, 14, 15, 16] Cut.nil rfl goFlt mixedS (by kernel_rfl) rfl ?_
     refine rpv [] [] ?_
     refine rpv [0] [] ?_
     refine ryv [1] ?_
     refine ryx [1] (fun vs => by apply ltr_pk; exact goPk; (refine ltr ?_; apply lt_indexEA (kk := 0); exact rfl; exact rfl; exact rfl; omega)) ?_
     refine ryx [1, 3] (fun vs => by apply ltr_pk; exact goPk; (refine ltr ?_; apply lt_loadE1'; exact rfl; exact rfl; exact rfl)) ?_
     refine ryv [1, 4] ?_
     refine ryx [1] (fun vs => by apply ltr_pk; exact goPk; (refine ltr ?_; apply lt_indexEA (kk := 1); exact rfl; exact rfl; exact rfl; omega)) ?_
     refine ryx [1, 6] (fun vs => by apply ltr_pk; exact goPk; (refine ltr ?_; apply lt_loadE1'; exact rfl; exact rfl; exact rfl)) ?_
     refine ryv [1, 5, 7] ?_
     refine ryv [1] ?_
     refine ryv [1, 9] ?_
     refine ryx [1, 10] (fun vs => by apply ltr_pk; exact goPk; (refine ltr ?_; apply lt_loadE1'; exact rfl; exact rfl; exact rfl)) ?_
     refine ryx [1] (fun vs => by apply ltr_pk; exact goPk; (refine ltr ?_; apply lt_indexEA (kk := 0); exact rfl; exact rfl; exact rfl; omega)) ?_
     refine ryx [1, 12] (fun vs => by apply ltr_pk; exact goPk; (refine ltr ?_; apply lt_loadE1'; exact rfl; exact rfl; exact rfl)) ?_
     refine ryv [1, 11, 13] ?_
     refine ryv [1, 14] ?_
     refine ryv [1, 8, 15] ?_
     refine ⟨⟨by kernel_rfl, by kernel_rfl⟩, fun vs => ?_⟩
     apply WL_auto [1, 2, 16]
     ·exact goPk
     ·exact goNrm
     ·kernel_rfl
     ·kernel_rfl
     refine zS ?_;repeat(refine yA ?_;intro p hp;refine zS ?_)
     refine zS ?_;repeat(refine yA ?_;intro p hp;refine zS ?_)
     (apply wl_yield (hY 1 (by simp) b1 () hb1); exact rfl; exact rfl; exact yC; exact rfl)
     rintro _ _ (⟨rfl, b2, hb2, rfl⟩ | ⟨rfl, b2, hb2, rfl⟩)
     ·refine zS ?_;repeat(refine yA ?_;intro p hp;refine zS ?_)
      refine W_run 15 [78, 79, 80, 81, 82, 83, 84, 85, 86, 87, 88, 89, 90, 91, 92] [0, 1, 2, 3, 4, 5, 6, 7, 8, 9, 10, 11, 12, 13, 14] Cut.nil rfl goFlt mixedS (by kernel_rfl) rfl ?_
      refine rpv [] [] ?_
      refine Run.pv [] [] rfl (fun vs => by apply ltr_pk; exact goPk; (refine ltr ?_; apply lt_indexEA (kk := 0); exact rfl; exact rfl; exact rfl; omega)) goApp ?_
      refine Run.pv [1] [] rfl (fun vs => by apply ltr_pk; exact goPk; (refine ltr ?_; apply lt_loadE1'; exact rfl; exact rfl; exact rfl)) goApp ?_
      refine Run.pv [] [] rfl (fun vs => by apply ltr_pk; exact goPk; (refine ltr ?_; apply lt_indexEA (kk := 1); exact rfl; exact rfl; exact rfl; omega)) goApp ?_
      refine Run.pv [3] [] rfl (fun vs => by apply ltr_pk; exact goPk; (refine ltr ?_; apply lt_loadE1'; exact rfl; exact rfl; exact rfl)) goApp ?_
      refine rpv [4] [] ?_
      refine rpv [2, 5] [] ?_
      refine rpv [] [] ?_
      refine rpv [7] [] ?_
      refine Run.pv [8] [] rfl (fun vs => by apply ltr_pk; exact goPk; (refine ltr ?_; apply lt_loadE1'; exact rfl; exact rfl; exact rfl)) goApp ?_
      refine Run.pv [] [] rfl (fun vs => by apply ltr_pk; exact goPk; (refine ltr ?_; apply lt_indexEA (kk := 1); exact rfl; exact rfl; exact rfl; omega)) goApp ?_
      refine Run.pv [10] [] rfl (fun vs => by apply ltr_pk; exact goPk; (refine ltr ?_; apply lt_loadE1'; exact rfl; exact rfl; exact rfl)) goApp ?_
      refine rpv [9, 11] [] ?_
      refine rpv [12] [] ?_
      refine rpv [6, 13] [] ?_
      refine ⟨⟨by kernel_rfl, by kernel_rfl⟩, fun vs => ?_⟩
      apply WL_auto [0, 14]
      ·exact goPk
      ·exact goNrm
      ·kernel_rfl
      ·kernel_rfl
      refine zS ?_;repeat(refine yA ?_;intro p hp;refine zS ?_)
      refine zS ?_;repeat(refine yA ?_;intro p hp;refine zS ?_)
      (apply wl_yield (hY 2 (by simp) b2 () hb2); exact rfl; exact rfl; exact yC; exact rfl)
      rintro _ _ (⟨rfl, b3, hb3, rfl⟩ | ⟨rfl, b3, hb3, rfl⟩)
      ·refine zS ?_;repeat(refine yA ?_;intro p hp;refine zS ?_)
       (apply resK0; exact rfl; exact .inl ⟨b3, hb3, rfl⟩; exact yC)
      ·refine zS ?_;repeat(refine yA ?_;intro p hp;refine zS ?_)
       (apply resK0; exact rfl; exact .inr ⟨3, b3, by omega, by simp, hb3, rfl⟩; exact yC)
     ·refine zS ?_;repeat(refine yA ?_;intro p hp;refine zS ?_)
      (apply resK0; exact rfl; exact .inr ⟨2, b2, by omega, by simp, hb2, rfl⟩; exact yC)
    ·refine zS ?_;repeat(refine yA ?_;intro p hp;refine zS ?_)
     (apply resK0; exact rfl; exact .inr ⟨1, b1, by omega, by simp, hb1, rfl⟩; exact yC)
   ·rw [if_neg he] at hY ⊢
    rw [decide_eq_false he, Bool.not_false]
    refine zS ?_;repeat(refine yA ?_;intro p hp;refine zS ?_)
    (apply wl_yield (hY 0 (by simp) b0 () hI0); exact rfl; exact rfl; exact yC; exact rfl)
    rintro _ _ (⟨rfl, b1, hb1, rfl⟩ | ⟨rfl, b1, hb1, rfl⟩)
    ·refine zS ?_;repeat(refine yA ?_;intro p hp;refine zS ?_)
     refine W_run 17 [57, 58, 59, 60, 61, 62, 63, 64, 65, 66, 67, 68, 69, 70, 71, 72, 73] [0, 1, 2, 3, 4, 5, 6, 7, 8, 9, 10, 11, 12, 13, 14, 15, 16] Cut.nil rfl goFlt mixedS (by kernel_rfl) rfl ?_
     refine rpv [] [] ?_
     refine rpv [0] [] ?_
     refine ryv [1] ?_
     refine ryx [1] (fun vs => by apply ltr_pk; exact goPk; (refine ltr ?_; apply lt_indexEA (kk := 0); exact rfl; exact rfl; exact rfl; omega)) ?_
     refine ryx [1, 3] (fun vs => by apply ltr_pk; exact goPk; (refine ltr ?_; apply lt_loadE1'; exact rfl; exact rfl; exact rfl)) ?_
     refine ryv [1, 4] ?_
     refine ryx [1] (fun vs => by apply ltr_pk; exact goPk; (refine ltr ?_; apply lt_indexEA (kk := 1); exact rfl; exact rfl; exact rfl; omega)) ?_
     refine ryx [1, 6] (fun vs => by apply ltr_pk; exact goPk; (refine ltr ?_; apply lt_loadE1'; exact rfl; exact rfl; exact rfl)) ?_
     refine ryv [1, 5, 7] ?_
     refine ryv [1] ?_
     refine ryv [1, 9] ?_
     refine ryx [1, 10] (fun vs => by apply ltr_pk; exact goPk; (refine ltr ?_; apply lt_loadE1'; exact rfl; exact rfl; exact rfl)) ?_
     refine ryx [1] (fun vs => by apply ltr_pk; exact goPk; (refine ltr ?_; apply lt_indexEA (kk := 0); exact rfl; exact rfl; exact rfl; omega)) ?_
     refine ryx [1, 12] (fun vs => by apply ltr_pk; exact goPk; (refine ltr ?_; apply lt_loadE1'; exact rfl; exact rfl; exact rfl)) ?_
     refine ryv [1, 11, 13] ?_
     refine ryv [1, 14] ?_
     refine ryv [1, 8, 15] ?_
     refine ⟨⟨by kernel_rfl, by kernel_rfl⟩, fun vs => ?_⟩
     apply WL_auto [1, 2, 16]
     ·exact goPk
     ·exact goNrm
     ·kernel_rfl
     ·kernel_rfl
     refine zS ?_;repeat(refine yA ?_;intro p hp;refine zS ?_)
     refine zS ?_;repeat(refine yA ?_;intro p hp;refine zS ?_)
     (apply wl_yield (hY 1 (by simp) b1 () hb1); exact rfl; exact rfl; exact yC; exact rfl)
     rintro _ _ (⟨rfl, b2, hb2, rfl⟩ | ⟨rfl, b2, hb2, rfl⟩)
     ·refine zS ?_;repeat(refine yA ?_;intro p hp;refine zS ?_)
      refine W_run 15 [78, 79, 80, 81, 82, 83, 84, 85, 86, 87, 88, 89, 90, 91, 92] [0, 1, 2, 3, 4, 5, 6, 7, 8, 9, 10, 11, 12, 13, 14] Cut.nil rfl goFlt mixedS (by kernel_rfl) rfl ?_
      refine rpv [] [] ?_
      refine Run.pv [] [] rfl (fun vs => by apply ltr_pk; exact goPk; (refine ltr ?_; apply lt_indexEA (kk := 0); exact rfl; exact rfl; exact rfl; omega)) goApp ?_
      refine Run.pv [1] [] rfl (fun vs => by apply ltr_pk; exact goPk; (refine ltr ?_; apply lt_loadE1'; exact rfl; exact rfl; exact rfl)) goApp ?_
      refine Run.pv [] [] rfl (fun vs => by apply ltr_pk; exact goPk; (refine ltr ?_; apply lt_indexEA (kk := 1); exact rfl; exact rfl; exact rfl; omega)) goApp ?_
      refine Run.pv [3] [] rfl (fun vs => by apply ltr_pk; exact goPk; (refine ltr ?_; apply lt_loadE1'; exact rfl; exact rfl; exact rfl)) goApp ?_
      refine rpv [4] [] ?_
      refine rpv [2, 5] [] ?_
      refine rpv [] [] ?_
      refine rpv [7] [] ?_
      refine Run.pv [8] [] rfl (fun vs => by apply ltr_pk; exact goPk; (refine ltr ?_; apply lt_loadE1'; exact rfl; exact rfl; exact rfl)) goApp ?_
      refine Run.pv [] [] rfl (fun vs => by apply ltr_pk; exact goPk; (refine ltr ?_; apply lt_indexEA (kk := 1); exact rfl; exact rfl; exact rfl; omega)) goApp ?_
      refine Run.pv [10] [] rfl (fun vs => by apply ltr_pk; exact goPk; (refine ltr ?_; apply lt_loadE1'; exact rfl; exact rfl; exact rfl)) goApp ?_
      refine rpv [9, 11] [] ?_
      refine rpv [12] [] ?_
      refine rpv [6, 13] [] ?_
      refine ⟨⟨by kernel_rfl, by kernel_rfl⟩, fun vs => ?_⟩
      apply WL_auto [0, 14]
      ·exact goPk
      ·exact goNrm
      ·kernel_rfl
      ·kernel_rfl
      refine zS ?_;repeat(refine yA ?_;intro p hp;refine zS ?_)
      refine zS ?_;repeat(refine yA ?_;intro p hp;refine zS ?_)
      (apply wl_yield (hY 2 (by simp) b2 () hb2); exact rfl; exact rfl; exact yC; exact rfl)
      rintro _ _ (⟨rfl, b3, hb3, rfl⟩ | ⟨rfl, b3, hb3, rfl⟩)
      ·refine zS ?_;repeat(refine yA ?_;intro p hp;refine zS ?_)
       (apply resK0; exact rfl; exact .inl ⟨b3, hb3, rfl⟩; exact yC)
      ·refine zS ?_;repeat(refine yA ?_;intro p hp;refine zS ?_)
       (apply resK0; exact rfl; exact .inr ⟨3, b3, by omega, by simp, hb3, rfl⟩; exact yC)
     ·refine zS ?_;repeat(refine yA ?_;intro p hp;refine zS ?_)
      (apply resK0; exact rfl; exact .inr ⟨2, b2, by omega, by simp, hb2, rfl⟩; exact yC)
    ·refine zS ?_;repeat(refine yA ?_;intro p hp;refine zS ?_)
     (apply resK0; exact rfl; exact .inr ⟨1, b1, by omega, by simp, hb1, rfl⟩; exact yC)
  ·have hxs : stepsL st fo i k = [⟨i + 1, k, st[i], 0, 1⟩] := by rw [stepsL, step1_no (fun h => h2 h.2), step2_yes k h1, step3_no i h2]; rfl
   rw [hxs] at hY ⊢
   have e1 : decide ((i : Int) < (st.length : Int)) = true := by simp; omega
   have e2 : decide ((k : Int) < (fo.length : Int)) = false := by simp; omega
   rw [e1, e2]
   refine zS ?_;repeat(refine yA ?_;intro p hp;refine zS ?_)
   refine W_run 17 [57, 58, 59, 60, 61, 62, 63, 64, 65, 66, 67, 68, 69, 70, 71, 72, 73] [0, 1, 2, 3, 4, 5, 6, 7, 8, 9, 10, 11, 12, 13, 14, 15, 16] Cut.nil rfl goFlt mixedS (by kernel_rfl) rfl ?_
   refine rpv [] [] ?_
   refine rpv [0] [] ?_
   refine ryv [1] ?_
   refine ryx [1] (fun vs => by apply ltr_pk; exact goPk; (refine ltr ?_; apply lt_indexEA (kk := 0); exact rfl; exact rfl; exact rfl; omega)) ?_
   refine ryx [1, 3] (fun vs => by apply ltr_pk; exact goPk; (refine ltr ?_; apply lt_loadE1'; exact rfl; exact rfl; exact rfl)) ?_
   refine ryv [1, 4] ?_
   refine ryx [1] (fun vs => by apply ltr_pk; exact goPk; (refine ltr ?_; apply lt_indexEA (kk := 1); exact rfl; exact rfl; exact rfl; omega)) ?_
   refine ryx [1, 6] (fun vs => by apply ltr_pk; exact goPk; (refine ltr ?_; apply lt_loadE1'; exact rfl; exact rfl; exact rfl)) ?_
   refine ryv [1, 5, 7] ?_
   refine ryv [1] ?_
   refine ryv [1, 9] ?_
   refine ryx [1, 10] (fun vs => by apply ltr_pk; exact goPk; (refine ltr ?_; apply lt_loadE1'; exact rfl; exact rfl; exact rfl)) ?_
   refine ryx [1] (fun vs => by apply ltr_pk; exact goPk; (refine ltr ?_; apply lt_indexEA (kk := 0); exact rfl; exact rfl; exact rfl; omega)) ?_
   refine ryx [1, 12] (fun vs => by apply ltr_pk; exact goPk; (refine ltr ?_; apply lt_loadE1'; exact rfl; exact rfl; exact rfl)) ?_
   refine ryv [1, 11, 13] ?_
   refine ryv [1, 14] ?_
   refine ryv [1, 8, 15] ?_
   refine ⟨⟨by kernel_rfl, by kernel_rfl⟩, fun vs => ?_⟩
   apply WL_auto [1, 2, 16]
   ·exact goPk
   ·exact goNrm
   ·kernel_rfl
   ·kernel_rfl
   refine zS ?_;repeat(refine yA ?_;intro p hp;refine zS ?_)
   refine zS ?_;repeat(refine yA ?_;intro p hp;refine zS ?_)
   (apply wl_yield (hY 0 (by simp) b0 () hI0); exact rfl; exact rfl; exact yC; exact rfl)
   rintro _ _ (⟨rfl, b1, hb1, rfl⟩ | ⟨rfl, b1, hb1, rfl⟩)
   ·refine zS ?_;repeat(refine yA ?_;intro p hp;refine zS ?_)
    (apply resK0; exact rfl; exact .inl ⟨b1, hb1, rfl⟩; exact yC)
   ·refine zS ?_;repeat(refine yA ?_;intro p hp;refine zS ?_)
    (apply resK0; exact rfl; exact .inr ⟨1, b1, by omega, by simp, hb1, rfl⟩; exact yC)
 ·by_cases h2 : k < fo.length
  ·have f2 := q2 h2
   have hxs : stepsL st fo i k = [⟨i, k + 1, 0, fo[k], 1⟩] := by rw [stepsL, step1_no (fun h => h1 h.1), step2_no k h1, step3_yes i h2]; rfl
   rw [hxs] at hY ⊢
   have e1 : decide ((i : Int) < (st.length : Int)) = false := by simp; omega
   have e2 : decide ((k : Int) < (fo.length : Int)) = true := by simp; omega
   rw [e1, e2]
   refine zS ?_;repeat(refine yA ?_;intro p hp;refine zS ?_)
   refine W_run 17 [57, 58, 59, 60, 61, 62, 63, 64, 65, 66, 67, 68, 69, 70, 71, 72, 73] [0, 1, 2, 3, 4, 5, 6, 7, 8, 9, 10, 11, 12, 13, 14, 15, 16] Cut.nil rfl goFlt mixedS (by kernel_rfl) rfl ?_
   refine rpv [] [] ?_
   refine rpv [0] [] ?_
   refine rno [1] ?_
   refine rno [1] ?_
   refine rno [1, 3] ?_
   refine rno [1, 4] ?_
   refine rno [1] ?_
   refine rno [1, 6] ?_
   refine rno [1, 5, 7] ?_
   refine rno [1] ?_
   refine rno [1, 9] ?_
   refine rno [1, 10] ?_
   refine rno [1] ?_
   refine rno [1, 12] ?_
   refine rno [1, 11, 13] ?_
   refine rno [1, 14] ?_
   refine rno [1, 8, 15] ?_
   refine ⟨⟨by kernel_rfl, by kernel_rfl⟩, fun vs => ?_⟩
   apply WL_auto [1, 2, 16]
   ·exact goPk
   ·exact goNrm
   ·kernel_rfl
   ·kernel_rfl
   refine zS ?_;repeat(refine yA ?_;intro p hp;refine zS ?_)
   refine zS ?_;repeat(refine yA ?_;intro p hp;refine zS ?_)
   refine W_run 15 [78, 79, 80, 81, 82, 83, 84, 85, 86, 87, 88, 89, 90, 91, 92] [0, 1, 2, 3, 4, 5, 6, 7, 8, 9, 10, 11, 12, 13, 14] Cut.nil rfl goFlt mixedS (by kernel_rfl) rfl ?_
   refine rpv [] [] ?_
   refine Run.pv [] [] rfl (fun vs => by apply ltr_pk; exact goPk; (refine ltr ?_; apply lt_indexEA (kk := 0); exact rfl; exact rfl; exact rfl; omega)) goApp ?_
   refine Run.pv [1] [] rfl (fun vs => by apply ltr_pk; exact goPk; (refine ltr ?_; apply lt_loadE1'; exact rfl; exact rfl; exact rfl)) goApp ?_
   refine Run.pv [] [] rfl (fun vs => by apply ltr_pk; exact goPk; (refine ltr ?_; apply lt_indexEA (kk := 1); exact rfl; exact rfl; exact rfl; omega)) goApp ?_
   refine Run.pv [3] [] rfl (fun vs => by apply ltr_pk; exact goPk; (refine ltr ?_; apply lt_loadE1'; exact rfl; exact rfl; exact rfl)) goApp ?_
   refine rpv [4] [] ?_
   refine rpv [2, 5] [] ?_
   refine rpv [] [] ?_
   refine rpv [7] [] ?_
   refine Run.pv [8] [] rfl (fun vs => by apply ltr_pk; exact goPk; (refine ltr ?_; apply lt_loadE1'; exact rfl; exact rfl; exact rfl)) goApp ?_
   refine Run.pv [] [] rfl (fun vs => by apply ltr_pk; exact goPk; (refine ltr ?_; apply lt_indexEA (kk := 1); exact rfl; exact rfl; exact rfl; omega)) goApp ?_
   refine Run.pv [10] [] rfl (fun vs => by apply ltr_pk; exact goPk; (refine ltr ?_; apply lt_loadE1'; exact rfl; exact rfl; exact rfl)) goApp ?_
   refine rpv [9, 11] [] ?_
   refine rpv [12] [] ?_
   refine rpv [6, 13] [] ?_
   refine ⟨⟨by kernel_rfl, by kernel_rfl⟩, fun vs => ?_⟩
   apply WL_auto [0, 14]
   ·exact goPk
   ·exact goNrm
   ·kernel_rfl
   ·kernel_rfl
   refine zS ?_;repeat(refine yA ?_;intro p hp;refine zS ?_)
   refine zS ?_;repeat(refine yA ?_;intro p hp;refine zS ?_)
   (apply wl_yield (hY 0 (by simp) b0 () hI0); exact rfl; exact rfl; exact yC; exact rfl)
   rintro _ _ (⟨rfl, b1, hb1, rfl⟩ | ⟨rfl, b1, hb1, rfl⟩)
   ·refine zS ?_;repeat(refine yA ?_;intro p hp;refine zS ?_)
    (apply resK0; exact rfl; exact .inl ⟨b1, hb1, rfl⟩; exact yC)
   ·refine zS ?_;repeat(refine yA ?_;intro p hp;refine zS ?_)
    (apply resK0; exact rfl; exact .inr ⟨1, b1, by omega, by simp, hb1, rfl⟩; exact yC)
  ·have hxs : stepsL st fo i k = [] := by rw [stepsL, step1_no (fun h => h1 h.1), step2_no k h1, step3_no i h2]; rfl
   rw [hxs] at hY ⊢
   have e1 : decide ((i : Int) < (st.length : Int)) = false := by simp; omega
   have e2 : decide ((k : Int) < (fo.length : Int)) = false := by simp; omega
   rw [e1, e2]
   refine zS ?_;repeat(refine yA ?_;intro p hp;refine zS ?_)
   refine W_run 17 [57, 58, 59, 60, 61, 62, 63, 64, 65, 66, 67, 68, 69, 70, 71, 72, 73] [0, 1, 2, 3, 4, 5, 6, 7, 8, 9, 10, 11, 12, 13, 14, 15, 16] Cut.nil rfl goFlt mixedS (by kernel_rfl) rfl ?_
   refine rpv [] [] ?_
   refine rpv [0] [] ?_
   refine rno [1] ?_
   refine rno [1] ?_
   refine rno [1, 3] ?_
   refine rno [1, 4] ?_
   refine rno [1] ?_
   refine rno [1, 6] ?_
   refine rno [1, 5, 7] ?_
   refine rno [1] ?_
   refine rno [1, 9] ?_
   refine rno [1, 10] ?_
   refine rno [1] ?_
   refine rno [1, 12] ?_
   refine rno [1, 11, 13] ?_
   refine rno [1, 14] ?_
   refine rno [1, 8, 15] ?_
   refine ⟨⟨by kernel_rfl, by kernel_rfl⟩, fun vs => ?_⟩
   apply WL_auto [1, 2, 16]
   ·exact goPk
   ·exact goNrm
   ·kernel_rfl
   ·kernel_rfl
   refine zS ?_;repeat(refine yA ?_;intro p hp;refine zS ?_)
   refine zS ?_;repeat(refine yA ?_;intro p hp;refine zS ?_)
   (apply resK0; exact rfl; exact .inl ⟨b0, hI0, rfl⟩; exact yC)
section
variable {P : Program} {rs : List (Nat × AV)} {d : Option Nat} {ty : TypeId} {pos : String} {af : Array Edge} {g : Option (Nat × Bool)}
theorem lt_loadP {x : Operand} {t tb : TypeId} {n j : Nat} [TyN P t n] {p : Value} {cs ds : List AV} (hx : Pt rs x p j) (hd : (cs.drop j).take n = ds) (hn : ds.length = n) : LT P ⟨d, .load t x, ty, pos, af, g⟩ rs [.box p cs tb] (Is (.agg ds) [.box p cs tb]) :=
 LT_read (fun _ e => by cases e) fun a w G F hR _ ⟨b, vs, hp, _, hf, hb⟩ => by
  have hf2 : Fits G ds ((vs.drop j).take n) := by rw [← hd]; exact (hf.drop j).take n
  refine ⟨.agg ((vs.drop j).take n).toArray, ⟨_, rfl, hf2⟩, ?_⟩
  simp only [execOp, hx.ok hR hp, Sem.run_bind]
  rw [run_loadN (n := n) (vs := (vs.drop j).take n) (by rw [hf2.length, hn]) (fun k u e => by
   rw [cell_of_row w b _ _ _ _ hb]
   rw [List.getElem?_take] at e
   split at e
   ·rw [List.getElem?_drop] at e; simpa using e
   ·cases e)]
  rfl
theorem ltr_loadP {hsR : List HA} {f : HA → List HA} {x : Operand} {t tb : TypeId} {n j : Nat} [TyN P t n] {p : Value} {cs ds : List AV} (hx : Pt rs x p j) (hat : At hsR (.box p cs tb) f) (hd : (cs.drop j).take n = ds) (hn : ds.length = n) : LTr P ⟨d, .load t x, ty, pos, af, g⟩ rs hsR [] (Is (.agg ds) []) := ltr_rd (lt_loadP hx hd hn) hat
end
theorem wl_loadP {c : Cx} {rs : List (Nat × AV)} {hs : List HA} {Q : Exit → S → Prop} {ops : Array Oper} {tl : List Oper} {d : Nat} {ty : TypeId} {pos : String} {af : Array Edge} {x : Operand} {t tb : TypeId} {n j : Nat} {p : Value} {cs ds : List AV} {f : HA → List HA} (hx : Pt rs x p j) (hat : At hs (.box p cs tb) f) [TyN c.P t n] (hds : (cs.drop j).take n = ds) (hn : ds.length = n) (hd : Nat.blt d c.nt = true) (k : WL c ops tl ⟨(d, .agg ds) :: rs, hs⟩ Q) : WL c ops (⟨some d, .load t x, ty, pos, af, none⟩ :: tl) ⟨rs, hs⟩ Q := wl_rd (lt_loadP hx hds hn) hat hd k
attribute [local go_sem] eqPlace
instance : TyQ Tryd.prog 137 2 := ⟨fun x y xs ys w h1 h2 => by
 match xs, ys, h1, h2 with
 | [x0, x1], [y0, y1], _, _ => refine ⟨?_, ?_, ?_, ?_⟩ <;> simp [go_sem] <;> by_cases h10 : x0 = y0 <;> by_cases h11 : x1 = y1 <;> simp [*]⟩
instance {x : Go.Proofs.YthddoikmgpgakaaDoor.St} : OneL (stC x) := inferInstanceAs (OneL [_, _, _, _, _])
instance {i k : Nat} : OneL (plC i k) := inferInstanceAs (OneL [_, _])
def kPl (p : Nat × Nat) : Value := plc p.1 p.2
theorem keyPl : KeyT Tryd.prog 137 kPl (fun p => p.1 ≤ 4000 ∧ p.2 ≤ 4000) :=
 ⟨keyed_place, fun p h => ⟨_, key_place h.1 h.2⟩, fun a b e => by
  obtain ⟨h1, h2⟩ := plc_inj (show plc a.1 a.2 = plc b.1 b.2 from e)
  exact Prod.ext h1 h2⟩
theorem kvPl (i k : Nat) : KeyV (.agg (plC i k)) (kPl (i, k)) := KeyV.ints (xs := [(i : Int), (k : Int)]) (by (repeat (first | exact Ints.nil | apply Ints.cons)))
def kI' : Int → AV := fun n => .val (.int .i64 n)
structure OkM {α : Type} (A B : Nat) (T : Nat → Nat → α) (es : List ((Nat × Nat) × α)) : Prop where
 pw : es.Pairwise fun p q => p.1 ≠ q.1
 ok : ∀ e ∈ es, e.1.1 ≤ A ∧ e.1.2 ≤ B ∧ e.2 = T e.1.1 e.1.2
theorem OkM.nil {α : Type} {A B : Nat} {T : Nat → Nat → α} : OkM A B T [] := ⟨List.Pairwise.nil, fun _ h => by cases h⟩
theorem OkM.get {α : Type} {A B : Nat} {T : Nat → Nat → α} {es : List ((Nat × Nat) × α)} (h : OkM A B T es) {i k : Nat} {v : α} (e : getM es (i, k) = some v) : v = T i k := (h.ok _ ((getM_iff h.pw).1 e)).2.2
theorem OkM.put {α : Type} {A B : Nat} {T : Nat → Nat → α} {es : List ((Nat × Nat) × α)} (h : OkM A B T es) {i k : Nat} (hi : i ≤ A) (hk : k ≤ B) : OkM A B T (putM es (i, k) (T i k)) := by
 refine ⟨List.pairwise_cons.2 ⟨fun q hq e => ?_, h.pw.filter _⟩, fun e he => ?_⟩
 ·have := (List.mem_filter.1 hq).2
  simp at this
  exact this e.symm
 ·rcases List.mem_cons.1 he with rfl | he
  ·exact ⟨hi, hk, rfl⟩
  ·exact h.ok e (List.mem_filter.1 he).1
theorem OkM.len {α : Type} {A B : Nat} {T : Nat → Nat → α} {es : List ((Nat × Nat) × α)} (h : OkM A B T es) (ha : A ≤ 900) (hb : B ≤ 900) : es.length ≤ 1000000 := by
 have h1 : (es.map (·.1)).Nodup := List.pairwise_map.2 h.pw
 have h2 := sub_len (ks := (List.range (A + 1)).flatMap fun i => (List.range (B + 1)).map fun k => (i, k)) h1 fun p hp => by
  obtain ⟨e, he, rfl⟩ := List.mem_map.1 hp
  have := h.ok e he
  exact List.mem_flatMap.2 ⟨e.1.1, List.mem_range.2 (by omega), List.mem_map.2 ⟨e.1.2, List.mem_range.2 (by omega), rfl⟩⟩
 rw [List.length_map] at h2
 have h3 : ((List.range (A + 1)).flatMap fun i => (List.range (B + 1)).map fun k => (i, k)).length = (A + 1) * (B + 1) := by
  rw [List.length_flatMap]
  simp only [List.length_map, List.length_range]
  rw [List.map_const', List.sum_replicate_nat, List.length_range]
 have h4 : (A + 1) * (B + 1) ≤ 901 * 901 := Nat.mul_le_mul (by omega) (by omega)
 omega
abbrev lcap (pb mv : Value) (st fo : List Int) : List AV := [.fp 2 (plC st.length fo.length), .fp 1 [.val mv], .val pb]
abbrev leftF (pb mv : Value) (st fo : List Int) : AV := .clo 106 (lcap pb mv st fo)
def ddI (st fo : List Int) (i k : Nat) : Int := (dd st fo i k : Int)
abbrev memH (mv : Value) (st fo : List Int) (es : List ((Nat × Nat) × Int)) : List HA := [.fact (OkM st.length fo.length (ddI st fo) es), .mp Tryd.prog mv 137 kPl kI' es]
def memL (mv : Value) (st fo : List Int) : HA := .exs (memH mv st fo)
abbrev MEM (id hs : Int) (st fo : List Int) (pb mv : Value) : List HA := [memL mv st fo, .box pb (pairC id hs st fo (leftF pb mv st fo)) 134]
theorem Con.tok {P : Program} {k : FuncId} {args : List AV} {pre prod : List HA} {v : Value} (c : Con P k args pre (Is (.val v) prod)) : Con P k args pre (fun x y => ∃ u, x = .val u ∧ y = .fact (u = v) :: prod) :=
 ⟨c.enters, fun G Fp vs w hf hI => (c.calls G Fp vs w hf hI).mono fun en w' ⟨u, av, pr, G', F', h1, ⟨h2, h3⟩, h4, h5, h6⟩ => by
  subst h2 h3
  exact ⟨u, .val u, _, G', F', h1, ⟨u, rfl, rfl⟩, h4, ⟨h5.gin, h5.nd, h5.own, hsP.fact.2 ⟨h6, h5.hs⟩⟩, rfl⟩⟩
theorem step_wr {st fo : List Int} {i k : Nat} {x : Go.Proofs.YthddoikmgpgakaaDoor.St} (hx : x ∈ stepsL st fo i k) : 0 ≤ x.wr ∧ x.wr ≤ 1 := by
 rw [stepsL, List.mem_append, List.mem_append] at hx
 rcases hx with hx | hx | hx
 ·by_cases hh : i < st.length ∧ k < fo.length
  ·rw [step1_yes hh.1 hh.2, List.mem_singleton] at hx
   subst hx; dsimp only; split <;> omega
  ·rw [step1_no hh] at hx; cases hx
 ·by_cases hh : i < st.length
  ·rw [step2_yes k hh, List.mem_singleton] at hx
   subst hx; dsimp only; omega
  ·rw [step2_no k hh] at hx; cases hx
 ·by_cases hh : k < fo.length
  ·rw [step3_yes i hh, List.mem_singleton] at hx
   subst hx; dsimp only; omega
  ·rw [step3_no i hh] at hx; cases hx
theorem Res_mkExs {P : Program} {fn : Func} {post : AV → List HA → Prop} {rs : List (Nat × AV)} {hs r : List HA} {σ : Type} {h : σ → List HA} (s : σ) (hc : Cut hs (h s) r) (k : Res P fn post ⟨rs, .exs h :: r⟩) : Res P fn post ⟨rs, hs⟩ := by
 obtain ⟨av, prod, hp, k⟩ := k
 exact ⟨av, prod, hp, fun a w G F hR hI => k a w G F hR (by
  obtain ⟨A, B, ep, h1, h2⟩ := hsP.split (hc.sel hI.hs)
  exact ⟨hI.gin, hI.nd, hI.own, A, B, ep, ⟨s, h1⟩, h2⟩)⟩
theorem Res_mkFact {P : Program} {fn : Func} {post : AV → List HA → Prop} {rs : List (Nat × AV)} {hs : List HA} {p : Prop} (hp' : p) (k : Res P fn post ⟨rs, .fact p :: hs⟩) : Res P fn post ⟨rs, hs⟩ := by
 obtain ⟨av, prod, hp, k⟩ := k
 exact ⟨av, prod, hp, fun a w G F hR hI => k a w G F hR ⟨hI.gin, hI.nd, hI.own, hsP.fact.2 ⟨hp', hI.hs⟩⟩⟩
theorem left_con (id hs : Int) (st fo : List Int) (pb mv : Value) (l1 : st.length ≤ 900) (l2 : fo.length ≤ 900) : ∀ (m i k : Nat), i ≤ st.length → k ≤ fo.length → (st.length - i) + (fo.length - k) ≤ m →
  Con Tryd.prog 106 (.agg (plC i k) :: lcap pb mv st fo) (MEM id hs st fo pb mv) (Is (.val (.int .i64 (ddI st fo i k))) (MEM id hs st fo pb mv))
 | m, i, k, hi, hk, hm => by
  refine con_of Tryd.func106 rfl (enters_of Tryd.func106 (by kernel_rfl) rfl) rfl ?_; intro n w0 F0 G0
  refine W_exs zN (fun es => ?_)
  refine W_fact zN (fun hok => ?_)
  refine zS ?_;repeat(refine yA ?_;intro p hp;refine zS ?_)
  by_cases he : i = st.length ∧ k = fo.length
  ·have hd : ddI st fo i k = 0 := by
    unfold ddI dd
    rw [he.1, he.2, List.drop_length, List.drop_length, dist_nil]; rfl
   have e1 : decide ([(i : Int), (k : Int)] = [(st.length : Int), (fo.length : Int)]) = true := by simp [he.1, he.2]
   rw [e1, hd]
   refine zS ?_;repeat(refine yA ?_;intro p hp;refine zS ?_)
   refine Res_mkFact hok ?_
   refine Res_mkExs (h := memH mv st fo) es yC ?_
   (apply resK1; exact rfl; exact rfl; exact ⟨rfl, rfl⟩; exact yC)
  ·have e1 : decide ([(i : Int), (k : Int)] = [(st.length : Int), (fo.length : Int)]) = false := by
    simp only [decide_eq_false_iff_not, List.cons.injEq, and_true]
    omega
   rw [e1]
   refine zS ?_;repeat(refine yA ?_;intro p hp;refine zS ?_)
   (apply wl_look2 (z := .int .i64 0) keyPl (i, k) Tryd.underlying170 (fun w => by kernel_rfl); exact rfl; exact zM; exact rfl; exact kvPl i k; exact ⟨by omega, by omega⟩; exact rfl)
   cases hg : getM es (i, k) with
   | some v =>
    have hv := hok.get hg
    subst hv
    dsimp only [lkA, kI', Option.isSome]
    refine zS ?_;repeat(refine yA ?_;intro p hp;refine zS ?_)
    refine Res_mkFact hok ?_
    refine Res_mkExs (h := memH mv st fo) es yC ?_
    (apply resK1; exact rfl; exact rfl; exact ⟨rfl, rfl⟩; exact yC)
   | none =>
    dsimp only [lkA, Option.isSome]
    refine zS ?_;repeat(refine yA ?_;intro p hp;refine zS ?_)
    rename_i p4 hp4
    (apply wl_callP ((steps_con id hs st fo (leftF pb mv st fo) i k)); exact rfl; exact yC; exact rfl)
    rintro _ _ ⟨q9, p9, rfl, rfl⟩
    (apply WL_frzC 24 0 2; exact rfl; exact rfl; exact zN)
    (apply WL_frzC 24 1 5; exact rfl; exact rfl; exact zN)
    refine WL_mkFact hok ?_
    refine WL_mkExs (h := memH mv st fo) es yC ?_
    have IT := steps_iter id hs st fo (leftF pb mv st fo) i k hi hk (by omega) (by omega)
    have hls := lst_steps hi hk he
    have hmem : ∀ x ∈ stepsL st fo i k, (x.i ≤ st.length ∧ x.k ≤ fo.length ∧ (st.length - x.i) + (fo.length - x.k) < (st.length - i) + (fo.length - k)) ∧ 0 ≤ x.wr ∧ x.wr ≤ 1 := fun x h => ⟨step_less h hi hk, step_wr h⟩
    generalize hxs : stepsL st fo i k = xs at IT hls hmem
    refine zS ?_;repeat(refine yA ?_;intro p hp;refine zS ?_)
    refine W_range (own := []) (by exact rfl) IT yC (fun j (b : Nat) => b = j) (fun b => [.box p [.val (.int .i64 (lst (dd st fo) (xs.take b)))] 3, .box p4 (plC i k) 137, memL mv st fo, .box pb (pairC id hs st fo (leftF pb mv st fo)) 134]) (fun _ _ => False) (fun _ _ => []) 0 (by exact rfl) zP (by intro _ _ _; exact rfl) (by exact rfl) ?_ ?_ (fun _ _ _ h => h.elim)
    ·intro lr m' w1 F1 G1 hrec j hj b u hI
     have hI' : b = j := hI
     subst hI'
     dsimp only [zipR, List.cons_append, List.nil_append]
     refine zS ?_;repeat(refine yA ?_;intro p hp;refine zS ?_)
     intro w2 F2 G2 hrec2
     obtain ⟨⟨x1, x2, x3⟩, x4, x5⟩ := hmem _ (List.getElem_mem hj)
     have hdd := dd_le st fo xs[b].i xs[b].k (by omega) (by omega)
     match m, hm with
     | 0, hm => exact absurd x3 (by omega)
     | m0 + 1, hm =>
      have LC := Con.tok (left_con id hs st fo pb mv l1 l2 m0 xs[b].i xs[b].k x1 x2 (by omega))
      unfold ddI at LC
      refine zS ?_;repeat(refine yA ?_;intro p hp;refine zS ?_)
      refine W_run 7 [26, 27, 28, 29, 30, 31, 32] [0, 1, 2, 3, 4, 5, 6] (Cut.cons (h := memL mv st fo) zN (Cut.cons (h := HA.box pb (pairC id hs st fo (leftF pb mv st fo)) 134) zN (Cut.nil))) rfl goFlt mixedS (by kernel_rfl) rfl ?_
      refine rpv [] [] ?_
      refine rpv [0] [] ?_
      refine Run.rd [] [] [1000, 1001] rfl (fun vs => by apply ltr_pk; exact goPk; exact goLtr) goApp ?_
      refine Run.rd [2] [] [1000, 1001] rfl (fun vs => by apply ltr_pk; exact goPk; exact goLtr) goApp ?_
      refine rpv [] [] ?_
      refine Run.pv [4] [] rfl (fun vs => by apply ltr_pk; exact goPk; (apply ltr_loadP; (first | exact .inl rfl | exact .inr ⟨rfl, rfl⟩); exact zM; exact rfl; exact rfl)) goApp ?_
      refine Run.tok [3, 5] [1000, 1001] rfl (fun vs => by apply ltr_pk; exact goPk; (refine ltr ?_; apply lt_callV; exact rfl; exact rfl; exact LC)) goApp ?_
      refine ⟨⟨by kernel_rfl, by kernel_rfl⟩, fun vs => ?_⟩
      apply WL_auto [1, 6]
      ·exact goPk
      ·exact goNrm
      ·kernel_rfl
      ·kernel_rfl
      refine zS ?_;repeat(refine yA ?_;intro p hp;refine zS ?_)
      refine WL_fact zN (fun hvs => ?_)
      rw [hvs]
      have hst : xs.take (b + 1) = xs.take b ++ [xs[b]] := by rw [List.take_succ_eq_append_getElem hj]
      have hsn := lst_snoc (dd st fo) (xs.take b) xs[b]
      rw [← hst] at hsn
      refine zS ?_;repeat(refine yA ?_;intro p hp;refine zS ?_)
      refine wl_part rfl rfl (fun h1 => ?_) (fun h1 => ?_)
      ·rw [if_pos (.inl (of_decide_eq_true h1))] at hsn
       refine zS ?_;repeat(refine yA ?_;intro p hp;refine zS ?_)
       refine ⟨b + 1, rfl, fun a w st => st_sub2 st zR (by dsimp only; rw [hsn]; exact zP)⟩
      ·have h1' : ¬ lst (dd st fo) (xs.take b) < 0 := of_decide_eq_false h1
       refine zS ?_;repeat(refine yA ?_;intro p hp;refine zS ?_)
       refine w_cond rfl (fun h2 => ?_) (fun h2 => ?_)
       ·rw [if_pos (.inr (of_decide_eq_true h2))] at hsn
        refine zS ?_;repeat(refine yA ?_;intro p hp;refine zS ?_)
        refine ⟨b + 1, rfl, fun a w st => st_sub2 st zR (by dsimp only; rw [hsn]; exact zP)⟩
       ·rw [if_neg (by rintro (h | h); exact h1' h; exact of_decide_eq_false h2 h)] at hsn
        refine zS ?_;repeat(refine yA ?_;intro p hp;refine zS ?_)
        refine ⟨b + 1, rfl, fun a w st => st_sub2 st zR (by dsimp only; rw [hsn]; exact zP)⟩
    ·rintro b hI
     have hI' : b = xs.length := hI
     subst hI'
     show W _ _ _ _
     rw [List.take_length, hls]
     (repeat (first | refine th_norm ?_ | refine th_exit ?_ | refine th_ret ?_ | refine bl_norm ?_ | refine bl_eq ?_ | refine bl_ne rfl ?_ | refine bl_ret ?_ | refine rt_norm ?_ | refine rt_ret ?_))
     refine W_exs (h := memH mv st fo) zN (fun es2 => ?_)
     refine W_fact zN (fun hok2 => ?_)
     refine zS ?_;repeat(refine yA ?_;intro p hp;refine zS ?_)
     (apply wl_mput keyPl (i, k) (ddI st fo i k) Tryd.underlying170; exact rfl; exact zM; exact rfl; exact kvPl i k; exact ⟨by omega, by omega⟩; exact rfl; exact hok2.len l1 l2)
     refine zS ?_;repeat(refine yA ?_;intro p hp;refine zS ?_)
     refine Res_mkFact (hok2.put hi hk) ?_
     refine Res_mkExs (h := memH mv st fo) (putM es2 (i, k) (ddI st fo i k)) yC ?_
     (apply resK1; exact rfl; exact rfl; exact ⟨rfl, rfl⟩; exact yC)
instance {id hs : Int} {st fo : List Int} {fv : AV} [One fv] : OneL (pairC id hs st fo fv) := inferInstanceAs (OneL [_, _, _, _, _])
theorem halves_con (t : Tl) : Con Tryd.prog 83 [.agg (tC t)] [] (fun x y => ∃ pb mv, x = .agg (pairC t.id t.hs t.st t.fo (leftF pb mv t.st t.fo)) ∧ y = MEM t.id t.hs t.st t.fo pb mv) := by
 refine con_of Tryd.func83 rfl (enters_of Tryd.func83 (by kernel_rfl) rfl) rfl ?_; intro n w0 F0 G0
 refine zS ?_;repeat(refine yA ?_;intro p hp;refine zS ?_)
 rename_i p1 hp1 p2 hp2 p3 hp3
 (apply wl_mmake keyPl kI'; exact rfl; intro mv hmv)
 refine yA ?_
 intro p5 hp5
 (apply wl_store (j := 0); (first | exact .inl rfl | exact .inr ⟨rfl, rfl⟩); exact zM; exact rfl; exact inferInstance; exact inferInstance; exact inferInstance; exact rfl; exact (of_decide_eq_true rfl))
 refine WL_nil ?_
 (repeat (first | refine th_norm ?_ | refine th_exit ?_ | refine th_ret ?_ | refine bl_norm ?_ | refine bl_eq ?_ | refine bl_ne rfl ?_ | refine bl_ret ?_ | refine rt_norm ?_ | refine rt_ret ?_))
 (apply W_frzb 4 2; exact rfl; exact zN)
 (apply W_frzb 5 1; exact rfl; exact zN)
 refine zS ?_;repeat(refine yA ?_;intro p hp;refine zS ?_)
 refine Res_mkFact (OkM.nil (A := t.st.length) (B := t.fo.length) (T := ddI t.st t.fo)) ?_
 refine Res_mkExs (h := memH mv t.st t.fo) [] yC ?_
 (apply resKN; exact rfl; exact rfl; exact zM; exact inferInstance; exact rfl; exact ⟨p3, mv, rfl, rfl⟩; exact yC)
theorem bestP_con (id hs : Int) (st fo : List Int) (fv : AV) [One fv] (i k : Nat) : Con Tryd.prog 87 [.agg (pairC id hs st fo fv), .agg (plC i k)] [] (fun x y => ∃ p q, x = .clo 108 [.val p, .val q] ∧ y = [.box p (pairC id hs st fo fv) 134, .box q (plC i k) 137]) := by
 refine con_of Tryd.func87 rfl (enters_of Tryd.func87 (by kernel_rfl) rfl) rfl ?_; intro n w0 F0 G0
 refine zS ?_;repeat(refine yA ?_;intro p hp;refine zS ?_)
 (apply resK1; exact rfl; exact rfl; exact ⟨_, _, rfl, rfl⟩; exact yC)
theorem Con.tkv {P : Program} {k : FuncId} {args : List AV} {pre prod : List HA} {av : AV} (c : Con P k args pre (Is av prod)) : Con P k args pre (fun x y => ∃ u, x = .both av u ∧ y = prod) :=
 ⟨c.enters, fun G Fp vs w hf hI => (c.calls G Fp vs w hf hI).mono fun en w' ⟨u, av', pr, G', F', h1, ⟨h2, h3⟩, h4, h5, h6⟩ => by
  subst h2 h3
  exact ⟨u, _, _, G', F', h1, ⟨u, rfl, rfl⟩, h4, h5, rfl, h6⟩⟩
theorem regOK_as {rs : List (Nat × AV)} {G : Nat → Option Obj} {a : Act} {av av' : AV} {i : Nat} (hl : look rs i = some av) (h : ∀ G v, av.P G v → av'.P G v) (hR : RegOK rs G a) : RegOK ((i, av') :: rs) G a := fun k av2 ek => by
 simp only [look] at ek
 cases hb : Nat.beq i k with
 | true =>
  rw [hb] at ek
  obtain rfl := Nat.eq_of_beq_eq_true hb
  simp only [cond_true, Option.some.injEq] at ek
  subst ek
  exact h _ _ (hR _ _ hl)
 | false =>
  rw [hb] at ek
  exact hR k av2 ek
theorem LT_as {P : Program} {o : Oper} {rs : List (Nat × AV)} {cons : List HA} {post : AV → List HA → Prop} {av av' : AV} (i : Nat) (hl : look rs i = some av) (h : ∀ G v, av.P G v → av'.P G v) (k : LT P o ((i, av') :: rs) cons post) : LT P o rs cons post := ⟨fun F n hF a w G Fp K Q hR hI hk => k.go F n hF a w G Fp K Q (regOK_as hl h hR) hI hk⟩
theorem both_r {av : AV} {u : Value} : ∀ G v, (AV.both av u).P G v → av.P G v := fun _ _ h => h.2
def HXp {β βx : Type} (H : β → List HA) (Hx : βx → List HA) : β ⊕ βx → List HA
 | .inl b => H b
 | .inr b => Hx b
theorem filter_at {α : Type} (q : α → Bool) (xs : List α) (j : Nat) (h : j < xs.length) (hq : q xs[j] = true) : ∃ h1 : ((xs.take j).filter q).length < (xs.filter q).length, (xs.filter q)[((xs.take j).filter q).length] = xs[j] ∧ ((xs.take (j + 1)).filter q).length = ((xs.take j).filter q).length + 1 := by
 have e : xs.filter q = (xs.take j).filter q ++ xs[j] :: (xs.drop (j + 1)).filter q := by
  conv => lhs; rw [← List.take_append_drop j xs, List.drop_eq_getElem_cons h]
  rw [List.filter_append, List.filter_cons_of_pos hq]
 refine ⟨by rw [e, List.length_append, List.length_cons]; omega, ?_, ?_⟩
 ·apply Option.some.inj
  rw [← List.getElem?_eq_getElem, e, List.getElem?_append_right (Nat.le_refl _), Nat.sub_self]
  rfl
 ·rw [List.take_succ_eq_append_getElem h, List.filter_append, List.filter_cons_of_pos hq, List.length_append]; rfl
theorem filter_no {α : Type} (q : α → Bool) (xs : List α) (j : Nat) (h : j < xs.length) (hq : q xs[j] = false) : ((xs.take (j + 1)).filter q).length = ((xs.take j).filter q).length := by
 rw [List.take_succ_eq_append_getElem h, List.filter_append, List.filter_cons_of_neg (by rw [hq]; simp), List.length_append]; rfl
theorem best_iter (id hs : Int) (st fo : List Int) (pb mv : Value) (i k : Nat) (hi : i ≤ st.length) (hk : k ≤ fo.length) (l1 : st.length ≤ 900) (l2 : fo.length ≤ 900) :
  Iter Tryd.prog 108 [.fp 5 (pairC id hs st fo (leftF pb mv st fo)), .fp 2 (plC i k)] (MEM id hs st fo pb mv) (fun x (_ : Unit) => [.agg (stC x)]) (fun _ _ => []) (bestL st fo i k) := by
 refine ⟨fun yv β βx H Hx I Ix hone hY b0 hI0 => ?_⟩
 have hmem : ∀ x ∈ stepsL st fo i k, (x.i ≤ st.length ∧ x.k ≤ fo.length) ∧ 0 ≤ x.wr ∧ x.wr ≤ 1 := fun x h => ⟨⟨(step_less h hi hk).1, (step_less h hi hk).2.1⟩, step_wr h⟩
 have IT := steps_iter id hs st fo (leftF pb mv st fo) i k hi hk (by omega) (by omega)
 have hddk := dd_le st fo i k (by omega) (by omega)
 unfold bestL at hY ⊢
 generalize stepsL st fo i k = xs at IT hmem hY ⊢
 refine con_of Tryd.func108 rfl (enters_of Tryd.func108 (by kernel_rfl) rfl) rfl ?_; intro n w0 F0 G0
 refine zS ?_;repeat(refine yA ?_;intro p hp;refine zS ?_)
 (apply wl_callP ((steps_con id hs st fo (leftF pb mv st fo) i k)); exact rfl; exact yC; exact rfl)
 rintro _ _ ⟨q9, p9, rfl, rfl⟩
 (apply WL_frzC 7 0 2; exact rfl; exact rfl; exact zN)
 (apply WL_frzC 7 1 5; exact rfl; exact rfl; exact zN)
 refine zS ?_;repeat(refine yA ?_;intro p hp;refine zS ?_)
 refine W_range (own := []) (by exact rfl) IT yC (fun j (b : Nat × (β ⊕ βx)) => ∃ b', b = (((xs.take j).filter (isBest st fo i k)).length, .inl b') ∧ I ((xs.take j).filter (isBest st fo i k)).length b') (fun b => [.box p [.val yv] 172, memL mv st fo, .box pb (pairC id hs st fo (leftF pb mv st fo)) 134, .pack (HXp H Hx b.2)]) (fun e b => e = .ret ∧ ∃ c b', b = (c, .inr b') ∧ 0 < c ∧ c ≤ (xs.filter (isBest st fo i k)).length ∧ Ix c b') (fun _ b => [.box p [.val yv] 172, memL mv st fo, .box pb (pairC id hs st fo (leftF pb mv st fo)) 134, .pack (HXp H Hx b.2)]) (0, .inl b0) ⟨b0, rfl, hI0⟩ zP (by intro _ _ _; exact rfl) (by exact rfl) ?_ ?_ ?_
 ·intro lr m' w1 F1 G1 hrec j hj b u hI
  obtain ⟨b', rfl, hI⟩ := hI
  obtain ⟨⟨x1, x2⟩, x4, x5⟩ := hmem _ (List.getElem_mem hj)
  have hdd := dd_le st fo xs[j].i xs[j].k (by omega) (by omega)
  have L1 := Con.tkv (left_con id hs st fo pb mv l1 l2 _ xs[j].i xs[j].k x1 x2 (Nat.le_refl _))
  have L2 := Con.tkv (left_con id hs st fo pb mv l1 l2 _ i k hi hk (Nat.le_refl _))
  unfold ddI at L1 L2
  dsimp only [zipR, HXp, List.cons_append, List.nil_append]
  refine zS ?_;repeat(refine yA ?_;intro p hp;refine zS ?_)
  intro w2 F2 G2 hrec2
  refine zS ?_;repeat(refine yA ?_;intro p hp;refine zS ?_)
  cases hq : decide (xs[j].wr + (dd st fo xs[j].i xs[j].k : Int) = (dd st fo i k : Int)) with
  | true =>
   obtain ⟨y1, y2, y3⟩ := filter_at (isBest st fo i k) xs j hj hq
   have Y := hY _ y1 b' () hI
   rw [y2] at Y
   refine W_run 16 [9, 10, 11, 12, 13, 14, 15, 16, 17, 18, 19, 20, 21, 22, 23, 24] [0, 1, 2, 3, 4, 5, 7, 8, 9, 10, 11, 12, 13, 14, 15] (Cut.cons (h := memL mv st fo) zN (Cut.cons (h := HA.box pb (pairC id hs st fo (leftF pb mv st fo)) 134) zN (Cut.nil))) rfl goFlt mixedS (by kernel_rfl) rfl ?_
   refine rpv [] [] ?_
   refine rpv [0] [] ?_
   refine rpv [] [] ?_
   refine Run.pv [2] [] rfl (fun vs => by apply ltr_pk; exact goPk; (refine ltr ?_; apply lt_loadE1'; exact rfl; exact rfl; exact rfl)) goApp ?_
   refine rpv [] [] ?_
   refine Run.pv [4] [] rfl (fun vs => by apply ltr_pk; exact goPk; (apply ltr_loadP; (first | exact .inl rfl | exact .inr ⟨rfl, rfl⟩); exact zM; exact rfl; exact rfl)) goApp ?_
   refine Run.tk [3, 5] [1000, 1001] rfl (fun vs => by apply ltr_pk; exact goPk; (refine ltr ?_; apply lt_callV; exact rfl; exact rfl; exact L1)) goApp ?_
   refine Run.pv [1, 6] [] rfl (fun vs => by apply ltr_pk; exact goPk; (refine ltr ?_; apply LT_as 15 rfl both_r; apply lt_add; exact rfl; exact rfl; omega; omega)) goApp ?_
   refine rpv [] [] ?_
   refine Run.pv [8] [] rfl (fun vs => by apply ltr_pk; exact goPk; (refine ltr ?_; apply lt_loadE1'; exact rfl; exact rfl; exact rfl)) goApp ?_
   refine Run.pv [] [] rfl (fun vs => by apply ltr_pk; exact goPk; (refine ltr ?_; apply lt_loadEN'; exact rfl; exact rfl; exact rfl)) goApp ?_
   refine Run.tk [9, 10] [6] rfl (fun vs => by apply ltr_pk; exact goPk; (refine ltr ?_; apply lt_callV; exact rfl; exact rfl; exact L2)) goApp ?_
   refine Run.pv [7, 11] [] rfl (fun vs => by apply ltr_pk; exact goPk; (refine ltr ?_; apply LT_bool true; apply LT_as 20 rfl both_r; apply lt_eql; exact rfl; exact rfl; exact hq)) goApp ?_
   refine rpv [12] [] ?_
   refine ryv [13] ?_
   refine ryv [13] ?_
   refine ⟨⟨by kernel_rfl, by kernel_rfl⟩, fun vs => ?_⟩
   apply WL_auto [13, 14, 15]
   ·exact goPk
   ·exact goNrm
   ·kernel_rfl
   ·kernel_rfl
   refine zS ?_;repeat(refine yA ?_;intro p hp;refine zS ?_)
   refine zS ?_;repeat(refine yA ?_;intro p hp;refine zS ?_)
   (apply wl_yield Y; exact rfl; exact rfl; exact yC; exact rfl)
   rintro _ _ (⟨rfl, b2, hb2, rfl⟩ | ⟨rfl, b2, hb2, rfl⟩)
   ·refine zS ?_;repeat(refine yA ?_;intro p hp;refine zS ?_)
    refine ⟨(_, .inl b2), ⟨b2, rfl, by rw [y3]; exact hb2⟩, fun a w st => st_sub2 st zR zP⟩
   ·refine zS ?_;repeat(refine yA ?_;intro p hp;refine zS ?_)
    refine ⟨(_, .inr b2), ⟨rfl, _, b2, rfl, by omega, by omega, hb2⟩, fun a w st => st_sub2 st zR zP⟩
  | false =>
   have y3 := filter_no (isBest st fo i k) xs j hj hq
   refine W_run 16 [9, 10, 11, 12, 13, 14, 15, 16, 17, 18, 19, 20, 21, 22, 23, 24] [0, 1, 2, 3, 4, 5, 7, 8, 9, 10, 11, 12, 13, 14, 15] (Cut.cons (h := memL mv st fo) zN (Cut.cons (h := HA.box pb (pairC id hs st fo (leftF pb mv st fo)) 134) zN (Cut.nil))) rfl goFlt mixedS (by kernel_rfl) rfl ?_
   refine rpv [] [] ?_
   refine rpv [0] [] ?_
   refine rpv [] [] ?_
   refine Run.pv [2] [] rfl (fun vs => by apply ltr_pk; exact goPk; (refine ltr ?_; apply lt_loadE1'; exact rfl; exact rfl; exact rfl)) goApp ?_
   refine rpv [] [] ?_
   refine Run.pv [4] [] rfl (fun vs => by apply ltr_pk; exact goPk; (apply ltr_loadP; (first | exact .inl rfl | exact .inr ⟨rfl, rfl⟩); exact zM; exact rfl; exact rfl)) goApp ?_
   refine Run.tk [3, 5] [1000, 1001] rfl (fun vs => by apply ltr_pk; exact goPk; (refine ltr ?_; apply lt_callV; exact rfl; exact rfl; exact L1)) goApp ?_
   refine Run.pv [1, 6] [] rfl (fun vs => by apply ltr_pk; exact goPk; (refine ltr ?_; apply LT_as 15 rfl both_r; apply lt_add; exact rfl; exact rfl; omega; omega)) goApp ?_
   refine rpv [] [] ?_
   refine Run.pv [8] [] rfl (fun vs => by apply ltr_pk; exact goPk; (refine ltr ?_; apply lt_loadE1'; exact rfl; exact rfl; exact rfl)) goApp ?_
   refine Run.pv [] [] rfl (fun vs => by apply ltr_pk; exact goPk; (refine ltr ?_; apply lt_loadEN'; exact rfl; exact rfl; exact rfl)) goApp ?_
   refine Run.tk [9, 10] [6] rfl (fun vs => by apply ltr_pk; exact goPk; (refine ltr ?_; apply lt_callV; exact rfl; exact rfl; exact L2)) goApp ?_
   refine Run.pv [7, 11] [] rfl (fun vs => by apply ltr_pk; exact goPk; (refine ltr ?_; apply LT_bool false; apply LT_as 20 rfl both_r; apply lt_eql; exact rfl; exact rfl; exact hq)) goApp ?_
   refine rpv [12] [] ?_
   refine rno [13] ?_
   refine rno [13] ?_
   refine ⟨⟨by kernel_rfl, by kernel_rfl⟩, fun vs => ?_⟩
   apply WL_auto [13, 14, 15]
   ·exact goPk
   ·exact goNrm
   ·kernel_rfl
   ·kernel_rfl
   refine zS ?_;repeat(refine yA ?_;intro p hp;refine zS ?_)
   refine zS ?_;repeat(refine yA ?_;intro p hp;refine zS ?_)
   refine ⟨(_, .inl b'), ⟨b', rfl, by rw [y3]; exact hI⟩, fun a w st => st_sub2 st zR zP⟩
 ·rintro _ ⟨b', rfl, hI⟩
  dsimp only [HXp]
  rw [List.take_length] at hI
  (repeat (first | refine th_norm ?_ | refine th_exit ?_ | refine th_ret ?_ | refine bl_norm ?_ | refine bl_eq ?_ | refine bl_ne rfl ?_ | refine bl_ret ?_ | refine rt_norm ?_ | refine rt_ret ?_))
  refine zS ?_;repeat(refine yA ?_;intro p hp;refine zS ?_)
  (apply resK0; exact rfl; exact .inl ⟨b', hI, rfl⟩; exact yC)
 ·rintro _ _ _ ⟨rfl, k', b', rfl, h1, h2, h3⟩
  dsimp only [HXp]
  (repeat (first | refine th_norm ?_ | refine th_exit ?_ | refine th_ret ?_ | refine bl_norm ?_ | refine bl_eq ?_ | refine bl_ne rfl ?_ | refine bl_ret ?_ | refine rt_norm ?_ | refine rt_ret ?_))
  (apply resK0; exact rfl; exact .inr ⟨k', b', h1, h2, h3, rfl⟩; exact yC)
def AV.slO (G0 : Nat → Option Obj) (e : TypeId) (xs : List Int) : AV :=
 ⟨fun G v => (v = .slice none 0 0 ∧ xs = []) ∨ ∃ g cap cur, v = .slice (some ⟨g, 0, none⟩) xs.length cap ∧ G0 g = none ∧ G g = some (.cells cur e (0, 0)) ∧ xs.length ≤ cap ∧ cap ≤ maxLen ∧ cur.size = cap * 1 ∧ cur.toList.take (xs.length * 1) = xs.map (Value.int .i64),
  fun h k => k.imp id fun ⟨g, cap, cur, h1, h2, h3, h4⟩ => ⟨g, cap, cur, h1, h2, h _ _ h3, h4⟩⟩
theorem slO_sl {G0 G : Nat → Option Obj} {e : TypeId} {xs : List Int} {v : Value} (h : (AV.slO G0 e xs).P G v) : (AV.sl 1 iC xs).P G v := by
 rcases h with ⟨rfl, rfl⟩ | ⟨g, cap, cur, rfl, _, hg, hc, _, _, ht⟩
 ·exact ⟨none, 0, rfl, Nat.le_refl _, fun i h => absurd h (Nat.not_lt_zero _)⟩
 ·refine ⟨_, cap, rfl, hc, fun i hi => ⟨g, 0, rfl, fun j av ej => ?_⟩⟩
  match j, ej with
  | 0, ej =>
   have : av = .val (.int .i64 xs[i]) := by simpa [iC] using ej.symm
   subst this
   refine ⟨.int .i64 xs[i], ?_, rfl⟩
   unfold cellG
   rw [hg]
   show cur[0 + i * 1 + 0]? = _
   rw [show 0 + i * 1 + 0 = i by omega, ← Array.getElem?_toList]
   have q : (cur.toList.take (xs.length * 1))[i]? = (xs.map (Value.int .i64))[i]? := by rw [ht]
   rw [List.getElem?_take, if_pos (by omega), List.getElem?_map, List.getElem?_eq_getElem hi] at q
   exact q
  | j + 1, ej => simp [iC] at ej
instance {G0 : Nat → Option Obj} {e : TypeId} {xs : List Int} : One (.slO G0 e xs) := ⟨fun G v h => by rcases h with ⟨rfl, _⟩ | ⟨g, cap, cur, rfl, _⟩ <;> rfl⟩
abbrev lsC (A : List Int → AV) (x : List Int) : List AV := [A x]
abbrev sloC (G0 : Nat → Option Obj) (e : TypeId) : List Int → List AV := lsC (AV.slO G0 e)
instance {G0 : Nat → Option Obj} {e : TypeId} {xs : List Int} : OneL (sloC G0 e xs) := inferInstanceAs (OneL [_])
instance {G0 : Nat → Option Obj} {e : TypeId} : OneF (sloC G0 e) := ⟨fun _ => inferInstance⟩
instance {G0 : Nat → Option Obj} {e : TypeId} : LenF (sloC G0 e) 1 := ⟨fun _ => rfl⟩
def HA.gh (G0 : Nat → Option Obj) : HA := ⟨fun G F _ => F = [] ∧ Gle G0 G, fun h k => ⟨k.1, k.2.trans h⟩, fun _ k => k⟩
theorem row_ints {G : Nat → Option Obj} : ∀ {xs : List Int} {vs : List Value}, Fits G (xs.flatMap iC) vs → vs = xs.map (Value.int .i64)
 | [], [], _ => rfl
 | x :: xs, v :: vs, h => by
  have h1 : v = .int .i64 x := h.1
  rw [h1, row_ints h.2]; rfl
 | [], _ :: _, h => h.elim
 | _ :: _, [], h => h.elim
theorem row_freezeO {G0 G : Nat → Option Obj} {F : List Nat} {w : World} {v : Value} {e : TypeId} {xs : List Int} {rest : List HA} (hg : Gle G0 G) (h : Inv G F (.row v e 1 iC xs :: rest) w) :
  ∃ G' F', Inv G' F' rest w ∧ Fr w w F F' G G' ∧ (AV.slO G0 e xs).P G' v := by
 obtain ⟨F1, F2, ep, ⟨vs, hF1, hlen, hf, hone, hown⟩, h2⟩ := h.hs
 have nd := ep.nodup_iff.1 h.nd
 have hm : ∀ b, b ∈ F2 → b ∈ F := fun b hb => ep.mem_iff.2 (by simp [hb])
 rcases hown.2 with ⟨rfl, hn0⟩ | ⟨b, cap, cur, rfl, _, hb, hnc, hcm, hcs, htake⟩
 ·exact ⟨G, F2, ⟨h.gin, (List.nodup_append.1 nd).2.1, fun b hb => h.own b (hm b hb), h2⟩, ⟨rfl, rfl, rfl, Nat.le_refl _, fun _ _ _ => rfl, fun b hb => .inl (hm b hb), Gle.refl _, fun _ _ h => .inl h⟩, .inl ⟨rfl, List.eq_nil_of_length_eq_zero hn0⟩⟩
 ·have hF1' : F1 = [b] := hF1
  subst hF1'
  have hbF : b ∈ F := ep.mem_iff.2 (by simp)
  have hgb := (h.own b hbF).2
  have hbn : b ∉ F2 := fun hin => (List.nodup_append.1 nd).2.2 b (by simp) b hin rfl
  have hg0 : G0 b = none := by
   cases hq : G0 b with
   | none => rfl
   | some o => have := hg b o hq; rw [hgb] at this; cases this
  refine ⟨gadd G b (.cells cur e (0, 0)), F2, ⟨fun k o ek => ?_, (List.nodup_append.1 nd).2.1, fun k hk => ⟨(h.own k (hm k hk)).1, ?_⟩, hsP.mono (gle_add hgb) h2⟩, ⟨rfl, rfl, rfl, Nat.le_refl _, fun _ _ _ => rfl, fun k hk => .inl (hm k hk), gle_add hgb, fun k o ek => ?_⟩, .inr ⟨b, cap, cur, rfl, hg0, by unfold gadd; rw [if_pos rfl], hnc, hcm, hcs, by rw [htake]; exact row_ints hf⟩⟩
  ·unfold gadd at ek
   by_cases hk : k = b
   ·subst hk; rw [if_pos rfl] at ek; cases ek; exact hb
   ·rw [if_neg hk] at ek; exact h.gin k o ek
  ·unfold gadd; rw [if_neg (fun eq => hbn (by rw [← eq]; exact hk))]; exact (h.own k (hm k hk)).2
  ·unfold gadd at ek
   by_cases hk : k = b
   ·subst hk; exact .inr (.inl hbF)
   ·rw [if_neg hk] at ek; exact .inl ek
theorem st_frzO {G0 : Nat → Option Obj} {c : Cx} {rs : List (Nat × AV)} {hs r r' : List HA} {e : TypeId} {xs : List Int} {v : Value} {i : Nat} {a : Act} {w : World} (hl : look rs i = some (.val v)) (hr : Rm hs (.row v e 1 iC xs) r) (hg : Rm r (.gh G0) r') (st : St c ⟨rs, hs⟩ a w) : St c ⟨(i, .slO G0 e xs) :: rs, r⟩ a w := by
 obtain ⟨G, F, hI, hF, hR, rr⟩ := st
 have hsel := hr.sel hI.hs
 have hle : Gle G0 G := by
  obtain ⟨A, B, _, _, hB⟩ := hsel
  obtain ⟨C, D, _, hC, _⟩ := hg.sel hB
  exact hC.2
 obtain ⟨G', F', h1, h2, h3⟩ := row_freezeO (rest := r) hle ⟨hI.gin, hI.nd, hI.own, hsel⟩
 refine ⟨G', F', h1, hF.trans h2, fun k av ek => ?_, rr.1, rr.2.step h2⟩
 simp only [look] at ek
 cases hb : Nat.beq i k with
 | true =>
  rw [hb] at ek
  obtain rfl := Nat.eq_of_beq_eq_true hb
  simp only [cond_true, Option.some.injEq] at ek
  subst ek
  have : a.tmps.getD i undef = v := hR _ _ hl
  rw [this]; exact h3
 | false =>
  rw [hb] at ek
  exact av.mono h2.gle (hR k av ek)
theorem WL_frzO {G0 : Nat → Option Obj} {c : Cx} {rs : List (Nat × AV)} {hs r r' : List HA} {Q : Exit → S → Prop} {ops : Array Oper} {l : List Oper} {e : TypeId} {xs : List Int} {v : Value} (i : Nat) (hl : look rs i = some (.val v)) (hr : Rm hs (.row v e 1 iC xs) r) (hg : Rm r (.gh G0) r') (k : WL c ops l ⟨(i, .slO G0 e xs) :: rs, r⟩ Q) : WL c ops l ⟨rs, hs⟩ Q := ⟨fun a w st => k.out a w (st_frzO hl hr hg st)⟩
theorem st_as {c : Cx} {rs : List (Nat × AV)} {hs : List HA} {av av' : AV} {i : Nat} {a : Act} {w : World} (hl : look rs i = some av) (h : ∀ G v, av.P G v → av'.P G v) (st : St c ⟨rs, hs⟩ a w) : St c ⟨(i, av') :: rs, hs⟩ a w := by
 obtain ⟨G, F, hI, hF, hR, rr⟩ := st
 refine ⟨G, F, hI, hF, fun k av2 ek => ?_, rr⟩
 simp only [look] at ek
 cases hb : Nat.beq i k with
 | true =>
  rw [hb] at ek
  obtain rfl := Nat.eq_of_beq_eq_true hb
  simp only [cond_true, Option.some.injEq] at ek
  subst ek
  exact h _ _ (hR _ _ hl)
 | false =>
  rw [hb] at ek
  exact hR k av2 ek
theorem WL_as' {c : Cx} {rs : List (Nat × AV)} {hs : List HA} {Q : Exit → S → Prop} {ops : Array Oper} {l : List Oper} {av av' : AV} (i : Nat) (hl : look rs i = some av) (h : ∀ G v, av.P G v → av'.P G v) (k : WL c ops l ⟨(i, av') :: rs, hs⟩ Q) : WL c ops l ⟨rs, hs⟩ Q := ⟨fun a w st => k.out a w (st_as hl h st)⟩
theorem Con.own {P : Program} {k : FuncId} {args : List AV} {e : TypeId} {x : AV} {l : List Int}
  (hc : ∀ G0, Con P k args [HA.gh G0, HA.tab] (Is (.tup [.slO G0 e l, x]) [HA.gh G0, HA.tab])) (hx : ∀ G G' v, x.P G v → x.P G' v) : Con P k args [HA.tab] (fun av y => ∃ u : Value, av = .tup [.val u, x] ∧ y = [.row u e 1 iC l, HA.tab]) := ⟨(hc fun _ => none).enters, fun G Fp vs w hf hI => by
 obtain ⟨F1, F2, ep, ⟨hF1, hT⟩, hF2⟩ := hI.hs
 have hF2' : F2 = [] := hF2
 subst hF1 hF2'
 obtain rfl : Fp = [] := List.Perm.eq_nil (by simpa using ep)
 refine ((hc G).calls G [] vs w hf ⟨hI.gin, hI.nd, hI.own, [], [], .refl _, ⟨rfl, Gle.refl _⟩, hI.hs⟩).mono ?_
 rintro en w' ⟨v, av, prod, G', F', rfl, ⟨e1, e2⟩, hfr, hi, hv⟩
 subst e1 e2
 obtain ⟨us, rfl, hus⟩ := hv
 match us, hus with
 | [u, z], ⟨hu, hz, _⟩ =>
  have hgin : Gin G w' := fun b o q => hi.gin b o (hfr.gle b o q)
  rcases hu with ⟨rfl, rfl⟩ | ⟨g, cap, cur, rfl, hg0, hg, hcl, hcm, hcs, ht⟩
  ·refine ⟨_, _, _, G, [], rfl, ⟨.slice none 0 0, rfl, rfl⟩, ⟨hfr.os, hfr.tape, hfr.output, hfr.size, hfr.same, fun b h => (by cases h), Gle.refl _, fun _ _ h => .inl h⟩, ⟨hgin, List.nodup_nil, fun b h => (by cases h), [], [], .refl _, ⟨[], rfl, fun _ h => (by cases h), trivial, fun _ h => (by cases h), by simp, .inl ⟨rfl, rfl⟩⟩, [], [], .refl _, ⟨rfl, hT⟩, rfl⟩, ⟨[_, _], rfl, rfl, hx _ _ _ hz, trivial⟩⟩
  ·have hnew : w.heap.size ≤ g := by
    rcases hfr.newG g _ hg with h | h | h
    ·rw [hg0] at h; cases h
    ·cases h
    ·exact h
   have hw := hi.gin g _ hg
   have hlt : g < w'.heap.size := (Array.getElem?_eq_some_iff.1 hw).1
   refine ⟨_, _, _, G, [g], rfl, ⟨_, rfl, rfl⟩, ⟨hfr.os, hfr.tape, hfr.output, hfr.size, hfr.same, fun b h => .inr (by rw [List.mem_singleton.1 h]; exact hnew), Gle.refl _, fun _ _ h => .inl h⟩, ⟨hgin, by simp, fun b h => by
     have : b = g := by simpa using h
     subst this; exact ⟨hlt, hg0⟩, [g], [], .refl _, ⟨l.map (Value.int .i64), rfl, fun _ _ => rfl, fits_i l, fun u hu => by obtain ⟨x, _, rfl⟩ := List.mem_map.1 hu; rfl, by simp, .inr ⟨g, cap, cur, rfl, Nat.zero_le _, hw, hcl, hcm, hcs, ht⟩⟩, [], [], .refl _, ⟨rfl, hT⟩, rfl⟩, ⟨[_, _], rfl, rfl, hx _ _ _ hz, trivial⟩⟩⟩
where fits_i {G : Nat → Option Obj} : ∀ xs : List Int, Fits G (xs.flatMap iC) (xs.map (Value.int .i64))
 | [] => trivial
 | _ :: t => ⟨rfl, fits_i t⟩
end Go.Proofs.YthddoikmgpgakaaDoor.Sw
namespace Go.Proofs.YthddoikmgpgakaaDoor
open Go.RowKit Go.Proofs Go.Shelf
theorem mixed : Tryd.prog.follows .mixedOrders = true := by kernel_rfl
theorem wp_goal {K : Act → World → Prop} {a : Act} {w : World} (T : World → Prop) (hT : T w) (h : ∀ w', T w' → K a w') : K a w := h w hT
theorem copied_any (t : Tl) (sa fa : Option Addr) (sc fc : Nat) (w : World) (hl : t.st.length ≤ 4000) (hl2 : t.fo.length ≤ 4000) (h1 : RdI w sa t.st) (h2 : RdI w fa t.fo) :
  Calls Tryd.prog 86 #[.agg #[.int .i64 t.id, .int .i64 t.hs, .slice sa t.st.length sc, .slice fa t.fo.length fc]] w fun e w' => ∃ v, e = .returned v ∧ Below w.heap.size w w' ∧ NewT w.heap.size w' v t := by
 have HX := hid h1; clear h1
 have HY := hid h2; clear h2
 have hm := mixed
 go_enter Tryd.func86, Tryd.ntmps86
 go_wp2_with fail
 refine wp_world (fun w0 => Box w0 w.heap.size #[.int .i64 t.id, .int .i64 t.hs, .slice sa t.st.length sc, .slice fa t.fo.length fc] 24 ∧ Box w0 (w.heap.size + 1) #[.int .i64 0, .int .i64 0, .slice none 0 0, .slice none 0 0] 24 ∧ w0.heap.size = w.heap.size + 2 ∧ Below w.heap.size w w0) ⟨(Box.new _ _ _).alloc _, by simpa using Box.new (w.alloc _) _ _, by simp, goBl⟩ ?_
 rintro w0 ⟨b1, b2, hz, hb0⟩
 have c2 : w0.cell? ⟨w.heap.size, 2, none⟩ = some (.slice sa t.st.length sc) := b1.cell 2
 have c3 : w0.cell? ⟨w.heap.size, 3, none⟩ = some (.slice fa t.fo.length fc) := b1.cell 3
 have hlt : w.heap.size < w0.heap.size := b1.lt
 have hlt2 : w.heap.size + 1 < w0.heap.size := b2.lt
 have B1 := hid b1; have B2 := hid b2; clear b1 b2
 refine wp_region_F [1, 4] (fun w' => w'.cell? ⟨w.heap.size, 2, none⟩ = some (.slice sa t.st.length sc) ∧ w'.cell? ⟨w.heap.size, 3, none⟩ = some (.slice fa t.fo.length fc)) hm ⟨by go_simp, by go_simp⟩ ?_
 intro hS0; have hS := hid hS0; clear hS0
 (apply wpAnyF_pure (i := 0) rfl (by kernel_rfl) (fun _ _ _ h => h); · first | exact .inr ⟨rfl, rfl⟩ | exact .inl ⟨rfl, fun w' => by go_simp; rfl⟩); simp only [Act.put, List.setIfInBounds_toArray, List.set_cons_succ, List.set_cons_zero, List.getElem_toArray, List.getElem_cons_succ, List.getElem_cons_zero]
 (apply wpAnyF_held (i := 1) rfl (by kernel_rfl) (fun _ _ _ h => h) hS.out; · first | exact .inr ⟨rfl, rfl⟩ | exact .inl ⟨rfl, fun w' hS' => by (obtain ⟨s1, s2⟩ := hS'; go_simp; rfl)⟩); simp only [Act.put, List.setIfInBounds_toArray, List.set_cons_succ, List.set_cons_zero, List.getElem_toArray, List.getElem_cons_succ, List.getElem_cons_zero]
 (apply wpAnyF_pure (i := 3) rfl (by kernel_rfl) (fun _ _ _ h => h); · first | exact .inr ⟨rfl, rfl⟩ | exact .inl ⟨rfl, fun w' => by go_simp; rfl⟩); simp only [Act.put, List.setIfInBounds_toArray, List.set_cons_succ, List.set_cons_zero, List.getElem_toArray, List.getElem_cons_succ, List.getElem_cons_zero]
 (apply wpAnyF_held (i := 4) rfl (by kernel_rfl) (fun _ _ _ h => h) hS.out; · first | exact .inr ⟨rfl, rfl⟩ | exact .inl ⟨rfl, fun w' hS' => by (obtain ⟨s1, s2⟩ := hS'; go_simp; rfl)⟩); simp only [Act.put, List.setIfInBounds_toArray, List.set_cons_succ, List.set_cons_zero, List.getElem_toArray, List.getElem_cons_succ, List.getElem_cons_zero]
 refine wpAnyF_one (i := 2) rfl ⟨by kernel_rfl, by kernel_rfl⟩ ?_
 intro K hK
 go_simp
 refine (clone_any sa sc t.st w0.drew hl ((HX.out.below hb0).drew)).mono ?_
 rintro e w1 ⟨sa', sc', rfl, hb1, o1⟩
 have hb1' : Below w0.heap.size w0 w1 := ⟨hb1.os, hb1.tape, hb1.output, hb1.size, hb1.block⟩
 refine shutS hK ⟨(hb1'.cell (p := ⟨w.heap.size, 2, none⟩) hlt).trans c2, (hb1'.cell (p := ⟨w.heap.size, 3, none⟩) hlt).trans c3⟩ (fun hS => ?_)
 (apply wpAnyF_pure (i := 6) rfl (by kernel_rfl) (fun _ _ _ h => h); · first | exact .inr ⟨rfl, rfl⟩ | exact .inl ⟨rfl, fun w' => by go_simp; rfl⟩); simp only [Act.put, List.setIfInBounds_toArray, List.set_cons_succ, List.set_cons_zero, List.getElem_toArray, List.getElem_cons_succ, List.getElem_cons_zero]
 refine wpAnyF_one (i := 5) rfl ⟨by kernel_rfl, by kernel_rfl⟩ ?_
 intro K hK
 go_simp
 refine (clone_any fa fc t.fo w1 hl2 ((HY.out.below hb0).below hb1')).mono ?_
 rintro e w2 ⟨fa', fc', rfl, hb2, o2⟩
 have B12 := (B1.out.below hb1' hlt).below hb2 (by have := hb1'.size; omega)
 have B22 := (B2.out.below hb1' hlt2).below hb2 (by have := hb1'.size; omega)
 have g2 : w2.cell? ⟨w.heap.size, 2, none⟩ = some (.slice sa t.st.length sc) := B12.cell 2
 have g3 : w2.cell? ⟨w.heap.size, 3, none⟩ = some (.slice fa t.fo.length fc) := B12.cell 3
 have k2 := B12.frozen 2; have k3 := B12.frozen 3
 have l12 := B12.lt
 refine shutN hK (by kernel_rfl) ?_
 refine wpAnyF_one (i := 7) rfl ⟨by kernel_rfl, by kernel_rfl⟩ ?_
 intro K hK
 go_simp
 refine shutN hK (by kernel_rfl) ?_
 (apply wpAnyF_pure (i := 8) rfl (by kernel_rfl) (fun _ _ _ h => h); · first | exact .inr ⟨rfl, rfl⟩ | exact .inl ⟨rfl, fun w' => by go_simp; rfl⟩); simp only [Act.put, List.setIfInBounds_toArray, List.set_cons_succ, List.set_cons_zero, List.getElem_toArray, List.getElem_cons_succ, List.getElem_cons_zero]
 refine wpAnyF_one (i := 9) rfl ⟨by kernel_rfl, by kernel_rfl⟩ ?_
 intro K hK
 go_simp
 refine shutN hK (by kernel_rfl) ?_
 refine wpAnyF_done (by kernel_rfl) ?_ _
 clear hS
 have hap := own_apart o1 o2 (Nat.le_refl _)
 have o1' : w2.ownsRow w0.heap.size 3 1 (.slice sa' t.st.length sc') t.st.length (t.st.map (Value.int .i64)) := own_below o1 hb2 (Nat.le_refl _)
 have hsz1 := hb1'.size
 have hbw : Below w.heap.size w w2 := (hb0.trans (hb1'.mono (by omega))).trans (hb2.mono (by omega))
 refine wp_goal (fun W => Box W w.heap.size #[.int .i64 t.id, .int .i64 t.hs, .slice sa' t.st.length sc', .slice fa' t.fo.length fc'] 24 ∧ Box W (w.heap.size + 1) #[.int .i64 0, .int .i64 0, .slice none 0 0, .slice none 0 0] 24 ∧ W.ownsRow w0.heap.size 3 1 (.slice sa' t.st.length sc') t.st.length (t.st.map (Value.int .i64)) ∧ W.ownsRow w0.heap.size 3 1 (.slice fa' t.fo.length fc') t.fo.length (t.fo.map (Value.int .i64)) ∧ Below w.heap.size w W) ⟨(B12.set 2 _).set 3 _, (B22.other _ _ _ (by omega)).other _ _ _ (by omega), own_other (own_other o1' hlt) hlt, own_other (own_other (own_base o2 hsz1) hlt) hlt, (hbw.setCell (p := ⟨w.heap.size, 2, none⟩) (Nat.le_refl _) _).setCell (p := ⟨w.heap.size, 3, none⟩) (Nat.le_refl _) _⟩ ?_
 rintro W ⟨d1, d2, r1, r2, hbW⟩
 clear B12 B22 o1' o1 o2 hbw hb1 hb2 hb1' g2 g3 k2 k3 l12
 have e0 : W.cell? ⟨w.heap.size, 0, none⟩ = some (.int .i64 t.id) := d1.cell 0
 have e1 : W.cell? ⟨w.heap.size, 1, none⟩ = some (.int .i64 t.hs) := d1.cell 1
 have e2 : W.cell? ⟨w.heap.size, 2, none⟩ = some (.slice sa' t.st.length sc') := d1.cell 2
 have e3 : W.cell? ⟨w.heap.size, 3, none⟩ = some (.slice fa' t.fo.length fc') := d1.cell 3
 have q0 : W.cell? ⟨w.heap.size + 1, 0, none⟩ = some (.int .i64 0) := d2.cell 0
 have q1 : W.cell? ⟨w.heap.size + 1, 1, none⟩ = some (.int .i64 0) := d2.cell 1
 have q2 : W.cell? ⟨w.heap.size + 1, 2, none⟩ = some (.slice none 0 0) := d2.cell 2
 have q3 : W.cell? ⟨w.heap.size + 1, 3, none⟩ = some (.slice none 0 0) := d2.cell 3
 have k0 := d2.frozen 0; have k1 := d2.frozen 1; have k2 := d2.frozen 2; have k3 := d2.frozen 3
 have ld1 := d1.lt; have ld2 := d2.lt
 have R1 := hid r1; have R2 := hid r2; clear r1 r2
 go_wp2_with fail
 refine bodyPost_ret (v := .agg #[.int .i64 t.id, .int .i64 t.hs, .slice sa' t.st.length sc', .slice fa' t.fo.length fc']) (by simp [results, Tryd.results86, go_sem, q0, q1, q2, q3]) rfl ?_
 have hlt3 : w.heap.size + 1 < w0.heap.size := hlt2
 exact ⟨_, rfl, (((hbW.setCell (p := ⟨w.heap.size + 1, 0, none⟩) (Nat.le_succ _) _).setCell (p := ⟨w.heap.size + 1, 1, none⟩) (Nat.le_succ _) _).setCell (p := ⟨w.heap.size + 1, 2, none⟩) (Nat.le_succ _) _).setCell (p := ⟨w.heap.size + 1, 3, none⟩) (Nat.le_succ _) _,
  sa', sc', fa', fc', rfl, own_base (own_other (own_other (own_other (own_other R1.out hlt3) hlt3) hlt3) hlt3) (by omega), own_base (own_other (own_other (own_other (own_other R2.out hlt3) hlt3) hlt3) hlt3) (by omega), hap⟩
end Go.Proofs.YthddoikmgpgakaaDoor
namespace Go.Proofs.YthddoikmgpgakaaDoor.Sw
open Go.RowKit Go Go.Shelf Go.Proofs
open Go.Proofs.YthddoikmgpgakaaDoor.Ma
theorem fits_slI {G : Nat → Option Obj} {w : World} (hG : Gin G w) {xs : List Int} {v : Value} (h : (AV.sl 1 iC xs).P G v) : ∃ a c, v = .slice a xs.length c ∧ RdI w a xs := by
 obtain ⟨a, c, e, _, hs⟩ := h
 exact ⟨a, c, e, rdI_of hG hs⟩
theorem between_con (a b : List Int) (h1 : a.length ≤ 2000) (h2 : b.length ≤ 2000) : Con Tryd.prog 84 [.sl 1 iC a, .sl 1 iC b] [] (Is (.val (.int .i64 (dist a b : Int))) []) := by
 refine con_same (enters_of Tryd.func84 (by kernel_rfl) rfl) fun G vs w hf hG => ?_
 match vs, hf with
 | [v, v'], ⟨h, h', _⟩ =>
  obtain ⟨sa, sc, rfl, g1⟩ := fits_slI hG h
  obtain ⟨sb, sd, rfl, g2⟩ := fits_slI hG h'
  exact (between_any a b sa sb sc sd w h1 h2 g1 g2).mono fun e w' ⟨h, hb⟩ => ⟨_, h, rfl, hb⟩
theorem all_con (ts : List Tl) (hl : ts.length ≤ 4000) (hs : ∀ t ∈ ts, t.small) : Con Tryd.prog 79 [.sl 4 tC ts] [HA.tab] (Is (.val (.int .i64 (errAll ts))) [HA.tab]) := by
 refine con_tab (enters_of Tryd.func79 (by kernel_rfl) rfl) fun G vs w hf hG hT => ?_
 match vs, hf with
 | [v], ⟨h, _⟩ =>
  obtain ⟨la, lc, rfl, g1⟩ := fits_tls hG h
  exact (all_any la lc ts w hl hT hs g1).mono fun e w' ⟨h, hb⟩ => ⟨_, h, rfl, hb⟩
theorem wl_indexAA {c : Cx} {rs : List (Nat × AV)} {hs : List HA} {Q : Exit → S → Prop} {ops : Array Oper} {tl : List Oper} {d : Nat} {ty : TypeId} {pos : String} {af : Array Edge} {x y : Operand} {t : TypeId} {len m : Nat} {p : Value} {j : Nat} {i : Int} {kk : Nat} {kd : IntKind} (hx : opv rs x = some (.at p j)) (hy : opv rs y = some (.val (.int kd i))) (hi : i = (kk : Int)) (hT : TyA c.P t len m) (hk : kk < len) (hd : Nat.blt d c.nt = true) (k : WL c ops tl ⟨(d, .at p (j + kk * m)) :: rs, hs⟩ Q) : WL c ops (⟨some d, .indexAddr t x y, ty, pos, af, none⟩ :: tl) ⟨rs, hs⟩ Q := wl_ex (lt_indexAA (hT := hT) hx hy hi hk) hd k
structure Cst (ts : List Tl) (g : Nat → Int) : Prop where
 at' : ∀ i k (hi : i < ts.length) (hk : k < ts.length), g (0 + i * 6 + k * 1) = (dist ts[i].st ts[k].fo : Int)
 btw : ∀ j, 0 ≤ g j ∧ g j ≤ 100000
structure CstI (ts : List Tl) (i k : Nat) (g : Nat → Int) : Prop where
 old : ∀ a c (ha : a < ts.length) (hc : c < ts.length), a < i ∨ (a = i ∧ c < k) → g (0 + a * 6 + c * 1) = (dist ts[a].st ts[c].fo : Int)
 btw : ∀ j, 0 ≤ g j ∧ g j ≤ 100000
theorem matches_con (ts : List Tl) (hN : ts.length ≤ 6) (hs : ∀ t ∈ ts, t.st.length ≤ 1000 ∧ t.fo.length ≤ 1000) : Con Tryd.prog 98 [.sl 4 tC ts] [] (fun x y => ∃ g, Cst ts g ∧ x = .clo 115 [.fp 1 [.sl 4 tC ts], .fp 36 (cells g)] ∧ y = []) := by
 refine con_of Tryd.func98 rfl (enters_of Tryd.func98 (by kernel_rfl) rfl) rfl ?_; intro n w0 F0 G0
 refine zS ?_;repeat(refine yA ?_;intro p hp;refine zS ?_)
 rename_i p1 hp1
 refine W_loopJ (fun (q : Nat × (Nat → Int)) => ⟨[(1, .val p1), (2, .val .nilFunc), (3, .val p), (8, .sl 4 tC ts), (9, .val (.int .i64 ts.length)), (10, .val (.int .i64 q.1))], [.box p (cells q.2) 183, .box p1 [.sl 4 tC ts] 62]⟩) (fun q => q.1 ≤ ts.length ∧ CstI ts q.1 0 q.2) (fun q => ts.length - q.1) (0, fun _ => 0) (fun _ _ st => st_sub2 st zR zP) ⟨Nat.zero_le _, ⟨fun a c _ _ h => by omega, fun j => by simp⟩⟩ ?_
 rintro ⟨i, g⟩ ⟨hi, hg⟩
 dsimp only at hi hg ⊢
 refine zS ?_;repeat(refine yA ?_;intro p hp;refine zS ?_)
 refine w_cond rfl (fun hlt => ?_) (fun hlt => ?_)
 ·have hi' : i < ts.length := by simpa using hlt
  refine zS ?_;repeat(refine yA ?_;intro p hp;refine zS ?_)
  rename_i pc hpc
  refine W_loopJ (fun (q : Nat × (Nat → Int)) => ⟨[(1, .val p1), (2, .val .nilFunc), (3, .val pc), (4, .val (.int .i64 i)), (5, .val p), (8, .sl 4 tC ts), (9, .val (.int .i64 ts.length)), (10, .val (.int .i64 i)), (15, .sl 4 tC ts), (16, .val (.int .i64 ts.length)), (17, .val (.int .i64 q.1))], [.box p (tC ts[i]) 24, .box pc (cells q.2) 183, .box p1 [.sl 4 tC ts] 62]⟩) (fun q => q.1 ≤ ts.length ∧ CstI ts i q.1 q.2) (fun q => ts.length - q.1) (0, g) (fun _ _ st => st_sub2 st zR zP) ⟨Nat.zero_le _, hg⟩ ?_
  rintro ⟨k, g2⟩ ⟨hk, hg2⟩
  dsimp only at hk hg2 ⊢
  refine zS ?_;repeat(refine yA ?_;intro p hp;refine zS ?_)
  refine w_cond rfl (fun hlt2 => ?_) (fun hlt2 => ?_)
  ·have hk' : k < ts.length := by simpa using hlt2
   have s1 := hs _ (List.getElem_mem hi')
   have s2 := hs _ (List.getElem_mem hk')
   have B := between_con ts[i].st ts[k].fo (by omega) (by omega)
   refine zS ?_;repeat(refine yA ?_;intro p hp;refine zS ?_)
   refine W_run 8 [22, 23, 24, 25, 26, 27, 28, 29] [0, 1, 2, 3, 4, 5, 6, 7] Cut.nil rfl goFlt mixedS (by kernel_rfl) rfl ?_
   refine rpv [] [] ?_
   refine rpv [] [] ?_
   refine rpv [] [] ?_
   refine rpv [2] [] ?_
   refine rpv [] [] ?_
   refine rpv [4] [] ?_
   refine Run.pv [3, 5] [] rfl (fun vs => by apply ltr_pk; exact goPk; (refine ltr ?_; refine lt_call ?_ B; exact rfl)) goApp ?_
   refine rpv [0] [] ?_
   refine ⟨⟨by kernel_rfl, by kernel_rfl⟩, fun vs => ?_⟩
   apply WL_auto [1, 6, 7]
   ·exact goPk
   ·exact goNrm
   ·kernel_rfl
   ·kernel_rfl
   refine zS ?_;repeat(refine yA ?_;intro p hp;refine zS ?_)
   (apply wl_indexAA (kk := k); exact rfl; exact rfl; exact rfl; exact inferInstance; omega; exact rfl)
   (apply wl_store (j := i * 6 + k * 1); (first | exact .inl rfl | exact .inr ⟨rfl, rfl⟩); exact zM; exact rfl; exact inferInstance; exact inferInstance; exact inferInstance; exact rfl; (rw [cells_len]; omega))
   rw [cells_put (by omega)]
   refine zS ?_;repeat(refine yA ?_;intro p hp;refine zS ?_)
   (refine ⟨(k + 1, fun q => if q = i * 6 + k * 1 then (dist ts[i].st ts[k].fo : Int) else g2 q), fun _ _ st => st_sub2 st ?_ ?_, ?_, ?_⟩; exact zR; exact zP)
   ·have hd := dist_le ts[i].st ts[k].fo
    refine ⟨hk', ⟨fun a c ha hc h => ?_, fun j => ?_⟩⟩
    ·dsimp only
     by_cases e : 0 + a * 6 + c * 1 = i * 6 + k * 1
     ·obtain rfl : a = i := by omega
      obtain rfl : c = k := by omega
      rw [if_pos e]
     ·rw [if_neg e]
      exact hg2.old a c ha hc (by
       rcases h with h | ⟨h, h'⟩
       ·exact .inl h
       ·subst h
        exact .inr ⟨rfl, by omega⟩)
    ·dsimp only
     split
     ·omega
     ·exact hg2.btw j
   ·dsimp only; omega
  ·have hkk : k = ts.length := by simp at hlt2; omega
   subst hkk
   refine zS ?_;repeat(refine yA ?_;intro p hp;refine zS ?_)
   (refine ⟨(i + 1, g2), fun _ _ st => st_sub2 st ?_ ?_, ?_, ?_⟩; exact zR; exact zP)
   ·refine ⟨hi', ⟨fun a c ha hc h => hg2.old a c ha hc (by omega), hg2.btw⟩⟩
   ·dsimp only; omega
 ·have hii : i = ts.length := by simp at hlt; omega
  subst hii
  (apply W_frzb 1 1; exact rfl; exact zN)
  (apply W_frzb 3 36; exact rfl; exact zN)
  refine zS ?_;repeat(refine yA ?_;intro p hp;refine zS ?_)
  (apply resK1; exact rfl; exact rfl; exact ⟨g, ⟨fun a c ha hc => hg.old a c ha hc (.inl ha), hg.btw⟩, rfl, rfl⟩; exact yC)
def costT (ts : List Tl) (i k : Nat) : Int := if h : i < ts.length ∧ k < ts.length then (dist ts[i].st ts[k].fo : Int) else 0
def matsT (ts : List Tl) : List (List Nat × Int) := mats ts.length (costT ts) ts.length [] 0
theorem flatMap_eqs {α β : Type} {f f' : α → List β} : ∀ {l : List α}, (∀ x ∈ l, f x = f' x) → l.flatMap f = l.flatMap f'
 | [], _ => rfl
 | x :: l, h => by rw [List.flatMap_cons, List.flatMap_cons, h x (by simp), flatMap_eqs fun y hy => h y (by simp [hy])]
theorem mats_congr {N : Nat} {c c' : Nat → Nat → Int} (h : ∀ i k, i < N → k < N → c i k = c' i k) : ∀ (m : Nat) (s : List Nat) (cn : Int), s.length + m ≤ N → mats N c m s cn = mats N c' m s cn
 | 0, _, _, _ => rfl
 | m + 1, s, cn, hl => by
  rw [mats_succ, mats_succ]
  refine flatMap_eqs fun k hk => ?_
  rw [h s.length k (by omega) (List.mem_range.1 hk), mats_congr h m (s ++ [k]) _ (by rw [List.length_append, List.length_singleton]; omega)]
theorem Cst.mats {ts : List Tl} {g : Nat → Int} (h : Cst ts g) : mats ts.length (cst g) ts.length [] 0 = matsT ts :=
 mats_congr (fun i k hi hk => by rw [cst, h.at' i k hi hk, costT, dif_pos ⟨hi, hk⟩]) _ _ _ (by simp)
theorem costT_nonneg (ts : List Tl) (i k : Nat) : 0 ≤ costT ts i k := by unfold costT; split <;> omega
theorem matsT_nonneg (ts : List Tl) : ∀ q ∈ matsT ts, 0 ≤ q.2 := mats_nonneg (costT_nonneg ts) (Int.le_refl _)
theorem matsT_len (ts : List Tl) : ∀ q ∈ matsT ts, q.1.length = ts.length := fun q hq => by rw [mats_len q hq]; simp
def matchR (ts : List Tl) : List Nat × Int × Int := if errAll ts = 0 then ((bst (matsT ts)).1, (bst (matsT ts)).2, 0) else ([], 0, errAll ts)
theorem err_len {ts : List Tl} (h : errAll ts = 0) : ts.length ≤ 6 := by
 unfold errAll at h
 split at h
 ·cases h
 ·omega
def small3 (ts : List Tl) : Prop := ∀ t ∈ ts, t.st.length ≤ 1000 ∧ t.fo.length ≤ 1000
theorem small3.small {ts : List Tl} (h : small3 ts) : ∀ t ∈ ts, t.small := fun t ht => by have := h t ht; exact ⟨by omega, by omega⟩
theorem match_con (ts : List Tl) (hl : ts.length ≤ 4000) (hs : small3 ts) : Con Tryd.prog 49 [.sl 4 tC ts] [HA.tab] (fun x y => ∃ u : Value, x = .tup [.val u, .val (.int .i64 (matchR ts).2.1), .val (.int .i64 (matchR ts).2.2)] ∧ y = [.row u 3 1 iC (ints (matchR ts).1), HA.tab]) := by
 have AC := all_con ts hl hs.small
 unfold matchR
 refine con_of Tryd.func49 rfl (enters_of Tryd.func49 (by kernel_rfl) rfl) rfl ?_; intro n w0 F0 G0
 refine zS ?_;repeat(refine yA ?_;intro p hp;refine zS ?_)
 (first | (apply wl_call (AC); exact rfl; exact rfl) | (apply wl_callR (AC); exact rfl; exact zM; exact rfl))
 refine zS ?_;repeat(refine yA ?_;intro p hp;refine zS ?_)
 refine w_cond rfl (fun he => ?_) (fun he => ?_)
 ·have he' : ¬ errAll ts = 0 := by simpa using he
  rw [if_neg he']
  refine zS ?_;repeat(refine yA ?_;intro p hp;refine zS ?_)
  refine Res_row0 3 1 iC ?_
  (apply resK3; exact rfl; exact rfl; exact rfl; exact rfl; exact ⟨_, rfl, rfl⟩; exact yC)
 ·have he' : errAll ts = 0 := by simpa using he
  rw [if_pos he']
  have h6 := err_len he'
  have MC := matches_con ts h6 hs
  refine zS ?_;repeat(refine yA ?_;intro p hp;refine zS ?_)
  (apply wl_callP (MC); exact rfl; exact yC; exact rfl)
  rintro _ _ ⟨g, hg, rfl, rfl⟩
  have IT := matches_iter ts g h6 hg.btw
  rw [hg.mats] at IT
  have hnn := matsT_nonneg ts
  generalize matsT ts = xs at IT hnn ⊢
  rename_i p6 hp6
  refine zS ?_;repeat(refine yA ?_;intro p hp;refine zS ?_)
  refine W_weak ⟨[(6, .val p6), (7, .val p), (16, .clo 115 [.fp 1 [.sl 4 tC ts], .fp 36 (cells g)])], [.box p [.val (.int .i64 (-1))] 3, .box p6 [.val (.slice none 0 0)] 22, .row (.slice none 0 0) 3 1 iC [], HA.tab]⟩ (fun _ _ st => st_sub2 (st_nil 3 1 iC st) zR zP) ?_
  refine W_range (own := []) (by exact rfl) IT yC (fun k (b : Nat × Value) => b.1 = k) (fun b => [.box p [.val (.int .i64 (bst (xs.take b.1)).2)] 3, .box p6 [.val b.2] 22, .row b.2 3 1 iC (ints (bst (xs.take b.1)).1), HA.tab]) (fun _ _ => False) (fun _ _ => []) (0, .slice none 0 0) (by exact rfl) zP (by intro _ _ _; exact rfl) (by exact rfl) ?_ ?_ (fun _ _ _ h => h.elim)
  ·intro lr m w1 F1 G1 hrec k hk b u hI
   obtain ⟨j, v⟩ := b
   dsimp only at hI
   subst hI
   dsimp only [zipR, mtC, mtR, List.cons_append, List.nil_append]
   have hst : xs.take (j + 1) = xs.take j ++ [xs[j]] := by rw [List.take_succ_eq_append_getElem hk]
   have hb : bst (xs.take (j + 1)) = stepB (bst (xs.take j)) xs[j] := by rw [hst, bst_snoc]
   unfold stepB at hb
   refine zS ?_;repeat(refine yA ?_;intro p hp;refine zS ?_)
   intro w2 F2 G2 hrec2
   refine zS ?_;repeat(refine yA ?_;intro p hp;refine zS ?_)
   refine wl_part rfl rfl (fun h1 => ?_) (fun h1 => ?_)
   ·rw [if_pos (.inl (of_decide_eq_true h1))] at hb
    refine zS ?_;repeat(refine yA ?_;intro p hp;refine zS ?_)
    refine WL_one At.here (fun hone2 => ?_)
    refine zS ?_;repeat(refine yA ?_;intro p hp;refine zS ?_)
    refine ⟨(j + 1, u), rfl, fun a w st => st_sub2 st zR (by dsimp only; rw [hb]; exact zP)⟩
   ·have h1' : ¬ (bst (xs.take j)).2 < 0 := of_decide_eq_false h1
    refine zS ?_;repeat(refine yA ?_;intro p hp;refine zS ?_)
    refine w_cond rfl (fun h2 => ?_) (fun h2 => ?_)
    ·rw [if_pos (.inr (of_decide_eq_true h2))] at hb
     refine zS ?_;repeat(refine yA ?_;intro p hp;refine zS ?_)
     refine WL_one At.here (fun hone2 => ?_)
     refine zS ?_;repeat(refine yA ?_;intro p hp;refine zS ?_)
     refine ⟨(j + 1, u), rfl, fun a w st => st_sub2 st zR (by dsimp only; rw [hb]; exact zP)⟩
    ·rw [if_neg (by rintro (h | h); exact h1' h; exact of_decide_eq_false h2 h)] at hb
     refine zS ?_;repeat(refine yA ?_;intro p hp;refine zS ?_)
     refine ⟨(j + 1, v), rfl, fun a w st => st_sub2 st zR (by dsimp only; rw [hb]; exact zP)⟩
  ·rintro ⟨j, v⟩ hI
   dsimp only at hI
   subst hI
   dsimp only
   rw [List.take_length]
   (repeat (first | refine th_norm ?_ | refine th_exit ?_ | refine th_ret ?_ | refine bl_norm ?_ | refine bl_eq ?_ | refine bl_ne rfl ?_ | refine bl_ret ?_ | refine rt_norm ?_ | refine rt_ret ?_))
   refine zS ?_;repeat(refine yA ?_;intro p hp;refine zS ?_)
   refine W_run 3 [28, 29, 2] [0, 1, 2] Cut.nil rfl goFlt mixedS (by kernel_rfl) rfl ?_
   refine rpv [] [] ?_
   refine rpv [] [] ?_
   refine rpv [0] [] ?_
   refine ⟨⟨by kernel_rfl, by kernel_rfl⟩, fun vs => ?_⟩
   apply WL_auto [1, 2]
   ·exact goPk
   ·exact goNrm
   ·kernel_rfl
   ·kernel_rfl
   refine zS ?_;repeat(refine yA ?_;intro p hp;refine zS ?_)
   refine zS ?_;repeat(refine yA ?_;intro p hp;refine zS ?_)
   (apply resK3; exact rfl; exact rfl; exact rfl; exact rfl; exact ⟨_, rfl, rfl⟩; exact yC)
def sureR (ts : List Tl) : List Int × Int := if errAll ts = 0 then (sure (matsT ts), 0) else ([], errAll ts)
def accS (B : List Nat × Int) (l : List (List Nat × Int)) : List Int := (l.filter fun p => decide (p.2 ≤ B.2)).foldl (fun a p => msk a p.1) (ints B.1)
theorem accS_snoc (B : List Nat × Int) (l : List (List Nat × Int)) (p : List Nat × Int) : accS B (l ++ [p]) = if p.2 ≤ B.2 then msk (accS B l) p.1 else accS B l := by
 unfold accS
 rw [List.filter_append, List.foldl_append]
 by_cases h : p.2 ≤ B.2
 ·rw [if_pos h, List.filter_cons_of_pos (by simpa using h)]; rfl
 ·rw [if_neg h, List.filter_cons_of_neg (by simpa using h)]; rfl
theorem msk_len (a : List Int) (m : List Nat) : (msk a m).length = min a.length m.length := by simp [msk]
theorem accS_len {N : Nat} {B : List Nat × Int} (hB : B.1.length = N) : ∀ (r l : List (List Nat × Int)), (∀ q ∈ l ++ r, q.1.length = N) → (accS B l).length = N → (accS B (l ++ r)).length = N
 | [], l, _, h => by rw [List.append_nil]; exact h
 | p :: r, l, hl, h => by
  have e : (accS B (l ++ [p])).length = N := by
   rw [accS_snoc]
   split
   ·rw [msk_len, h, hl p (by simp), Nat.min_self]
   ·exact h
  have := accS_len hB r (l ++ [p]) (by simpa using hl) e
  rwa [List.append_assoc] at this
theorem accS_len' {N : Nat} {B : List Nat × Int} (hB : B.1.length = N) (l : List (List Nat × Int)) (hl : ∀ q ∈ l, q.1.length = N) : (accS B l).length = N :=
 accS_len (B := B) hB l [] hl (by rw [← hB]; exact ints_len _)
def mskA (a : List Int) (m : List Nat) (i : Nat) : List Int := (msk a m).take i ++ a.drop i
theorem mskA_0 (a : List Int) (m : List Nat) : mskA a m 0 = a := by simp [mskA]
theorem mskA_end {a : List Int} {m : List Nat} (h : a.length = m.length) : mskA a m m.length = msk a m := by
 unfold mskA
 rw [List.take_of_length_le (by rw [msk_len]; omega), List.drop_of_length_le (by omega), List.append_nil]
theorem mskA_len {a : List Int} {m : List Nat} (h : a.length = m.length) {i : Nat} (hi : i ≤ m.length) : (mskA a m i).length = a.length := by
 unfold mskA
 rw [List.length_append, List.length_take, List.length_drop, msk_len]; omega
theorem mskA_at {a : List Int} {m : List Nat} (h : a.length = m.length) {i : Nat} (hi : i < m.length) : (mskA a m i)[i]'(by rw [mskA_len h (by omega)]; omega) = a[i] := by
 unfold mskA
 rw [List.getElem_append_right (by rw [List.length_take, msk_len]; omega)]
 simp [msk_len, show min i (min a.length m.length) = i by omega]
theorem mskA_step {a : List Int} {m : List Nat} (h : a.length = m.length) {i : Nat} (hi : i < m.length) : mskA a m (i + 1) = (mskA a m i).set i (if a[i] = (m[i] : Int) then a[i] else -1) := by
 have e : (msk a m)[i]'(by rw [msk_len]; omega) = if a[i] = (m[i] : Int) then a[i] else -1 := by simp [msk]
 unfold mskA
 rw [List.take_succ_eq_append_getElem (by rw [msk_len]; omega), e, List.set_append_right _ _ (by rw [List.length_take, msk_len]; omega), List.length_take, msk_len, show i - min i (min a.length m.length) = 0 by omega, List.drop_eq_getElem_cons (by omega : i < a.length), List.set_cons_zero, List.append_assoc]
 rfl
theorem mskA_same {a : List Int} {m : List Nat} (h : a.length = m.length) {i : Nat} (hi : i < m.length) (e : a[i] = (m[i] : Int)) : mskA a m (i + 1) = mskA a m i := by
 rw [mskA_step h hi, if_pos e, ← mskA_at h hi, List.set_getElem_self]
theorem mskA_other {a : List Int} {m : List Nat} (h : a.length = m.length) {i : Nat} (hi : i < m.length) (e : ¬ a[i] = (m[i] : Int)) : mskA a m (i + 1) = (mskA a m i).set i (-1) := by
 rw [mskA_step h hi, if_neg e]
theorem sure_con (ts : List Tl) (hl : ts.length ≤ 4000) (hs : small3 ts) : Con Tryd.prog 51 [.sl 4 tC ts] [HA.tab] (fun x y => ∃ u : Value, x = .tup [.val u, .val (.int .i64 (sureR ts).2)] ∧ y = [.row u 3 1 iC (sureR ts).1, HA.tab]) := by
 have MC := match_con ts hl hs
 unfold matchR at MC
 unfold sureR
 by_cases he' : errAll ts = 0
 ·rw [if_pos he'] at MC ⊢
  have h6 := err_len he'
  have MM := matches_con ts h6 hs
  have hnn := matsT_nonneg ts
  have hml := matsT_len ts
  have hbm := (bi _ hnn).mem
  refine con_of Tryd.func51 rfl (enters_of Tryd.func51 (by kernel_rfl) rfl) rfl ?_; intro n w0 F0 G0
  refine zS ?_;repeat(refine yA ?_;intro p hp;refine zS ?_)
  (apply wl_callP (MC); exact rfl; exact yC; exact rfl)
  rintro _ _ ⟨v0, rfl, rfl⟩
  refine WL_one At.here (fun hone => ?_)
  refine zS ?_;repeat(refine yA ?_;intro p hp;refine zS ?_)
  (apply wl_callP (MM); exact rfl; exact yC; exact rfl)
  rintro _ _ ⟨g, hg, rfl, rfl⟩
  have IT := matches_iter ts g h6 hg.btw
  rw [hg.mats] at IT
  refine zS ?_;repeat(refine yA ?_;intro p hp;refine zS ?_)
  rename_i p4 hp4
  generalize matsT ts = xs at IT hnn hml hbm ⊢
  have hac : ∀ j, xs ≠ [] → (accS (bst xs) (xs.take j)).length = ts.length := fun j hne => accS_len' (hml _ (hbm hne)) _ fun q hq => hml q (List.mem_of_mem_take hq)
  refine W_range (own := []) (by exact rfl) IT yC (fun k (b : Nat) => b = k) (fun b => [.box p [.val (.int .i64 (bst xs).2)] 3, .box p4 [.val v0] 22, .row v0 3 1 iC (accS (bst xs) (xs.take b)), HA.tab]) (fun _ _ => False) (fun _ _ => []) 0 (by exact rfl) zP (by intro _ _ _; exact rfl) (by exact rfl) ?_ ?_ (fun _ _ _ h => h.elim)
  ·intro lr m w1 F1 G1 hrec k hk b u hI
   have hI' : b = k := hI
   subst hI'
   dsimp only [zipR, mtC, mtR, List.cons_append, List.nil_append]
   have hst : xs.take (b + 1) = xs.take b ++ [xs[b]] := by rw [List.take_succ_eq_append_getElem hk]
   have hb : accS (bst xs) (xs.take (b + 1)) = if xs[b].2 ≤ (bst xs).2 then msk (accS (bst xs) (xs.take b)) xs[b].1 else accS (bst xs) (xs.take b) := by rw [hst, accS_snoc]
   have hne : xs ≠ [] := fun e => by subst e; exact absurd hk (Nat.not_lt_zero _)
   have hA := hac b hne
   have hM := hml _ (List.getElem_mem hk)
   generalize accS (bst xs) (xs.take b) = A at hA hb ⊢
   refine zS ?_;repeat(refine yA ?_;intro p hp;refine zS ?_)
   intro w2 F2 G2 hrec2
   refine zS ?_;repeat(refine yA ?_;intro p hp;refine zS ?_)
   refine w_cond rfl (fun hgt => ?_) (fun hgt => ?_)
   ·rw [if_neg (by have := of_decide_eq_true hgt; omega)] at hb
    refine zS ?_;repeat(refine yA ?_;intro p hp;refine zS ?_)
    refine ⟨b + 1, rfl, fun a w st => st_sub2 st zR (by dsimp only; rw [hb]; exact zP)⟩
   ·rw [if_pos (by have := of_decide_eq_false hgt; omega)] at hb
    have hil := ints_len xs[b].1
    refine zS ?_;repeat(refine yA ?_;intro p hp;refine zS ?_)
    refine W_loopJ (fun (i : Nat) => ⟨[(4, .val p4), (5, .val p), (21, .clo 115 [.fp 1 [.sl 4 tC ts], .fp 36 (cells g)]), (27, .val u), (28, .val (.int .i64 ts.length)), (29, .val (.int .i64 i))], [.row u 3 1 iC (ints xs[b].1), .box p [.val (.int .i64 (bst xs).2)] 3, .box p4 [.val v0] 22, .row v0 3 1 iC (mskA A xs[b].1 i), HA.tab]⟩) (fun i => i ≤ ts.length) (fun i => ts.length - i) 0 (fun _ _ st => st_sub2 st (by rw [← hM, ← hil]; exact zR) (by rw [mskA_0]; exact zP)) (Nat.zero_le _) ?_
    intro i hi
    have hAM : A.length = xs[b].1.length := by omega
    have hml2 := mskA_len hAM (i := i) (by omega)
    refine zS ?_;repeat(refine yA ?_;intro p hp;refine zS ?_)
    refine w_cond rfl (fun hlt => ?_) (fun hlt => ?_)
    ·have hi' : i < xs[b].1.length := by have : i < ts.length := by simpa using hlt
                                         omega
     have e2 : (ints xs[b].1)[i]'(by omega) = (xs[b].1[i] : Int) := by simp [ints]
     have e1 := mskA_at hAM hi'
     refine zS ?_;repeat(refine yA ?_;intro p hp;refine zS ?_)
     refine w_cond rfl (fun hn => ?_) (fun hn => ?_)
     ·have hn' : ¬ A[i] = (xs[b].1[i] : Int) := by rw [← e1, ← e2]; simpa using hn
      refine zS ?_;repeat(refine yA ?_;intro p hp;refine zS ?_)
      have hs1 := mskA_other hAM hi' hn'
      refine ⟨i + 1, fun _ _ st => st_sub2 st zR (by rw [hs1]; exact zP), ?_, ?_⟩
      ·show i + 1 ≤ ts.length
       omega
      ·omega
     ·have hn' : A[i] = (xs[b].1[i] : Int) := by rw [← e1, ← e2]; simpa using hn
      have hs1 := mskA_same hAM hi' hn'
      refine zS ?_;repeat(refine yA ?_;intro p hp;refine zS ?_)
      refine ⟨i + 1, fun _ _ st => st_sub2 st zR (by rw [hs1]; exact zP), ?_, ?_⟩
      ·show i + 1 ≤ ts.length
       omega
      ·omega
    ·have hii : i = ts.length := by simp at hlt; omega
     rw [hii, ← hM, mskA_end hAM, ← hb]
     refine zS ?_;repeat(refine yA ?_;intro p hp;refine zS ?_)
     refine ⟨b + 1, rfl, fun a w st => st_sub2 st zR zP⟩
  ·rintro b hI
   have hI' : b = xs.length := hI
   subst hI'
   dsimp only
   rw [List.take_length]
   (repeat (first | refine th_norm ?_ | refine th_exit ?_ | refine th_ret ?_ | refine bl_norm ?_ | refine bl_eq ?_ | refine bl_ne rfl ?_ | refine bl_ret ?_ | refine rt_norm ?_ | refine rt_ret ?_))
   refine zS ?_;repeat(refine yA ?_;intro p hp;refine zS ?_)
   (apply resK2; exact rfl; exact rfl; exact rfl; exact ⟨_, rfl, rfl⟩; exact yC)
 ·rw [if_neg he'] at MC ⊢
  refine con_of Tryd.func51 rfl (enters_of Tryd.func51 (by kernel_rfl) rfl) rfl ?_; intro n w0 F0 G0
  refine zS ?_;repeat(refine yA ?_;intro p hp;refine zS ?_)
  (apply wl_callP (MC); exact rfl; exact yC; exact rfl)
  rintro _ _ ⟨v0, rfl, rfl⟩
  refine WL_one At.here (fun hone => ?_)
  refine zS ?_;repeat(refine yA ?_;intro p hp;refine zS ?_)
  simp only [he', decide_false, Bool.not_false]
  refine zS ?_;repeat(refine yA ?_;intro p hp;refine zS ?_)
  refine Res_row0 3 1 iC ?_
  (apply resK2; exact rfl; exact rfl; exact rfl; exact ⟨_, rfl, rfl⟩; exact yC)
theorem row_ofN {G : Nat → Option Obj} {w : World} {B : Nat} {v : Value} {xs : List Int} (h : w.ownsRow B 3 1 v xs.length (xs.map (Value.int .i64))) : (HA.row v 3 1 iC xs).P G v.ownBlock.toList w :=
 ⟨_, rfl, fun _ _ => rfl, by
  induction xs with
  | nil => trivial
  | cons x t ih => exact ⟨rfl, fitsN t⟩, fun u hu => by obtain ⟨x, _, rfl⟩ := List.mem_map.1 hu; rfl, own_base h (Nat.zero_le _)⟩
where fitsN : ∀ xs : List Int, Fits G (xs.flatMap iC) (xs.map (Value.int .i64))
 | [] => trivial
 | _ :: t => ⟨rfl, fitsN t⟩
theorem con_newO {P : Program} {k : FuncId} {args : List AV} {t : Tl} (he : ∀ args w, (callFunc k args).run P w = .ok (.enter k args) w)
  (h : ∀ (G : Nat → Option Obj) (vs : List Value) (w : World), Fits G args vs → Gin G w → Calls P k vs.toArray w fun en w' => ∃ v, en = .returned v ∧ Below w.heap.size w w' ∧ NewT w.heap.size w' v t) :
  Con P k args [] (fun x y => ∃ i : OV × OV, x = .agg [.val (.int .i64 t.id), .val (.int .i64 t.hs), .val i.1.1, .val i.2.1] ∧ y = [.row i.1.1 3 1 iC t.st, .row i.2.1 3 1 iC t.fo]) := ⟨he, fun G Fp vs w hf hi => by
 obtain rfl : Fp = [] := hi.hs
 refine (h G vs w hf hi.gin).mono fun en w' ⟨v, h1, hb, sa, sc, fa, fc, hv, r1, r2, hap⟩ => ?_
 subst hv
 have o1 : (Value.slice sa t.st.length sc).oneCell' = true := rfl
 have o2 : (Value.slice fa t.fo.length fc).oneCell' = true := rfl
 generalize Value.slice sa t.st.length sc = s1 at h1 r1 hap o1
 generalize Value.slice fa t.fo.length fc = s2 at h1 r2 hap o2
 have hmem : ∀ b ∈ s1.ownBlock.toList ++ s2.ownBlock.toList, w.heap.size ≤ b ∧ b < w'.heap.size := fun b hb' => by
  rcases List.mem_append.1 hb' with q | q
  ·exact r1.lt b (by simpa using q)
  ·exact r2.lt b (by simpa using q)
 refine ⟨_, _, _, G, s1.ownBlock.toList ++ s2.ownBlock.toList, h1, ⟨(⟨s1, o1⟩, ⟨s2, o2⟩), rfl, rfl⟩, ⟨hb.os, hb.tape, hb.output, hb.size, fun b hb' _ => hb.block b hb', fun b hb' => .inr (hmem b hb').1, Gle.refl _, fun _ _ h => .inl h⟩,
  ⟨fun b o e => (hb.block b (hi.gin.lt e)).trans (hi.gin b o e), ?_, fun b hb' => ⟨(hmem b hb').2, ?_⟩, _, _, .refl _, row_ofN r1, _, [], by simp, row_ofN r2, rfl⟩, ⟨[_, _, _, _], rfl, rfl, rfl, rfl, rfl, trivial⟩⟩
 ·refine List.nodup_append.2 ⟨by cases s1.ownBlock <;> simp, by cases s2.ownBlock <;> simp, fun a ha b hb' e => ?_⟩
  have ha' : s1.ownBlock = some a := by simpa using ha
  have hb2 : s2.ownBlock = some b := by simpa using hb'
  exact hap a ha' (by rw [hb2, e])
 ·cases hg : G b with
  | none => rfl
  | some o => have := hi.gin.lt hg; have := (hmem b hb').1; omega⟩
theorem copied_con (t : Tl) (h : t.small) : Con Tryd.prog 86 [.agg (tC t)] [] (fun x y => ∃ i : OV × OV, x = .agg [.val (.int .i64 t.id), .val (.int .i64 t.hs), .val i.1.1, .val i.2.1] ∧ y = [.row i.1.1 3 1 iC t.st, .row i.2.1 3 1 iC t.fo]) := by
 refine con_newO (enters_of Tryd.func86 (by kernel_rfl) rfl) fun G vs w hf hG => ?_
 match vs, hf with
 | [v], ⟨hv, _⟩ =>
  obtain ⟨sa, sc, fa, fc, rfl, g1, g2⟩ := fits_tl hG hv
  exact copied_any t sa fa sc fc w h.1 h.2 g1 g2
abbrev TO : Type := Tl × OV × OV
def toC (q : TO) : List AV := [.val (.int .i64 q.1.id), .val (.int .i64 q.1.hs), .val q.2.1.1, .val q.2.2.1]
instance {q : TO} : OneL (toC q) := inferInstanceAs (OneL [_, _, _, _])
instance : OneF toC := ⟨fun _ => inferInstance⟩
instance : LenF toC 4 := ⟨fun _ => rfl⟩
def toR (q : TO) : List HA := [.row q.2.1.1 3 1 iC q.1.st, .row q.2.2.1 3 1 iC q.1.fo]
theorem Res_impP {P : Program} {fn : Func} {av av' : AV} {l : List HA} {s : S} {post : AV → List HA → Prop} (hp : post av' l) (hi : ∀ G v, av.P G v → av'.P G v) (k : Res P fn (Is av l) s) : Res P fn post s := by
 obtain ⟨_, _, ⟨rfl, rfl⟩, k⟩ := k
 refine ⟨_, _, hp, fun a w G F hR hI => ?_⟩
 obtain ⟨v, G', F', h1, h2, h3, h4⟩ := k a w G F hR hI
 exact ⟨v, G', F', h1, h2, h3, hi _ _ h4⟩
theorem Con.argsW {P : Program} {k : FuncId} {avs avs' : List AV} {pre : List HA} {post : AV → List HA → Prop} (h : ∀ G vs, Fits G avs vs → Fits G avs' vs) (c : Con P k avs' pre post) : Con P k avs pre post :=
 ⟨c.enters, fun G Fp vs w hf hI => c.calls G Fp vs w (h G vs hf) hI⟩
theorem nil_sl0 {α : Type} {n : Nat} {f : α → List AV} (G : Nat → Option Obj) (v : Value) (h : (AV.val (.slice none 0 0)).P G v) : (AV.sl n f []).P G v := ⟨none, 0, h, Nat.le_refl _, fun i h => absurd h (Nat.not_lt_zero _)⟩
end Go.Proofs.YthddoikmgpgakaaDoor.Sw
namespace Go.Proofs.YthddoikmgpgakaaDoor.Sw
open Go.RowKit Go Go.Shelf Go.Proofs
theorem cmpL_snoc (x : List Int) : ∀ l : List (List Int), cmpL (l ++ [x]) = if l.getLast? = some x then cmpL l else cmpL l ++ [x]
 | [] => rfl
 | [a] => by
  rw [List.singleton_append, cmpL]
  by_cases h : a = x
  ·subst h; rw [if_pos rfl, if_pos (by simp)]
  ·rw [if_neg h, if_neg (by simpa using h)]; rfl
 | a :: b :: t => by
  have ih := cmpL_snoc x (b :: t)
  rw [List.cons_append] at ih
  rw [List.cons_append, List.cons_append]
  rw [cmpL, ih, cmpL, List.getLast?_cons_cons]
  by_cases h : a = b
  ·rw [if_pos h, if_pos h]
  ·rw [if_neg h, if_neg h]
   split <;> simp
theorem cmpL_take {xs : List (List Int)} {m : Nat} (h : m + 1 < xs.length) : cmpL (xs.take (m + 2)) = if xs[m] = xs[m + 1] then cmpL (xs.take (m + 1)) else cmpL (xs.take (m + 1)) ++ [xs[m + 1]] := by
 have e : (xs.take (m + 1)).getLast? = some xs[m] := by
  rw [List.take_succ_eq_append_getElem (by omega)]; exact List.getLast?_concat
 rw [List.take_succ_eq_append_getElem (by omega : m + 1 < xs.length), cmpL_snoc, e]
 by_cases h : xs[m] = xs[m + 1] <;> simp [h]
theorem equal_con (xs ys : List Int) (hl : xs.length ≤ 1000000) (hl2 : ys.length ≤ 1000000) : Con Tryd.prog 122 [.sl 1 iC xs, .sl 1 iC ys] [] (Is (.val (.bool (decide (xs = ys)))) []) := by
 refine con_of Tryd.func122 rfl (enters_of Tryd.func122 (by kernel_rfl) rfl) rfl ?_; intro n w0 F0 G0
 refine zS ?_
 refine w_cond rfl (fun hne => ?_) (fun hne => ?_)
 ·have hne' : xs ≠ ys := by intro e; rw [e] at hne; simp at hne
  refine zS ?_
  (apply res1; exact rfl; exact rfl; exact ⟨(congrArg (fun b => AV.val (Value.bool b)) (by simp [hne'])), rfl⟩)
 ·have hlen : xs.length = ys.length := by simp at hne; omega
  refine zS ?_
  refine W_loopJ (fun (k : Nat) => ⟨[(0, .sl 1 iC xs), (1, .sl 1 iC ys), (12, .val (.int .i64 xs.length)), (13, .val (.int .i64 k))], []⟩) (fun k => k ≤ xs.length ∧ xs.take k = ys.take k) (fun k => xs.length - k) 0 (fun _ _ st => st_sub2 st zR zP) ?hj0 ?round
  case hj0 => simp
  case round =>
   rintro k ⟨hk, hall⟩
   refine zS ?_
   refine w_cond rfl (fun hlt => ?_) (fun hlt => ?_)
   ·have hlt' : k < xs.length := by simpa using hlt
    have hlt2 : k < ys.length := by omega
    have hq1 : xs[k]? = some xs[k] := List.getElem?_eq_getElem hlt'
    have hq2 : ys[k]? = some ys[k] := List.getElem?_eq_getElem hlt2
    refine zS ?_
    refine W_run 8 [16, 17, 18, 19, 20, 21, 22, 23] [0, 1, 2, 3, 4, 5, 6, 7] Cut.nil rfl goFlt mixedS (by kernel_rfl) rfl ?_
    refine rpv [] [] ?_
    refine rpv [] [] ?_
    refine rpv [0, 1] [] ?_
    refine rpv [2] [] ?_
    refine rpv [] [] ?_
    refine rpv [] [] ?_
    refine rpv [4, 5] [] ?_
    refine rpv [6] [] ?_
    refine ⟨⟨by kernel_rfl, by kernel_rfl⟩, fun vs => ?_⟩
    apply WL_auto [3, 7]
    ·exact goPk
    ·exact goNrm
    ·kernel_rfl
    ·kernel_rfl
    refine zS ?_
    refine w_cond rfl (fun hg => ?_) (fun hg => ?_)
    ·have hne' : xs ≠ ys := by intro e; subst e; simp at hg
     refine zS ?_
     (apply res1; exact rfl; exact rfl; exact ⟨(congrArg (fun b => AV.val (Value.bool b)) (by simp [hne'])), rfl⟩)
    ·refine zS ?_
     (refine ⟨k + 1, fun _ _ st => st_sub2 st ?_ ?_, ?_, ?_⟩; exact zR; exact zP)
     ·refine ⟨by omega, ?_⟩
      rw [List.take_succ_eq_append_getElem hlt', List.take_succ_eq_append_getElem hlt2, hall]
      simp at hg; rw [hg]
     ·omega
   ·refine zS ?_
    have hkk : k = xs.length := by simp at hlt; omega
    have he : xs = ys := by
     rw [List.take_of_length_le (by omega), List.take_of_length_le (by omega)] at hall; exact hall
    (apply res1; exact rfl; exact rfl; exact ⟨(congrArg (fun b => AV.val (Value.bool b)) (by simp [he])), rfl⟩)
section
variable {P : Program} {rs : List (Nat × AV)} {d : Option Nat} {ty : TypeId} {pos : String} {af : Array Edge} {g : Option (Nat × Bool)}
theorem lt_indexOff {x y : Operand} {t e : TypeId} {b o len cap L C : Nat} {i : Int} {kk : Nat} {kd : IntKind} (hT : TyS P t e 1) (hx : opv rs x = some (.val (.slice (some ⟨b, o, none⟩) len cap))) (hy : opv rs y = some (.val (.int kd i))) (hi : i = (kk : Int)) (hk : kk < len) :
  LT P ⟨d, .indexAddr t x y, ty, pos, af, g⟩ rs [] (Is (.rat (.slice (some ⟨b, 0, none⟩) L C) 1 (o + kk) 0) []) :=
 LT_val (fun _ e => by cases e) fun a w G hR hG => by
  have e1 : a.eval x = _ := opv_ok hR hx
  have e2 : a.eval y = _ := opv_ok hR hy
  subst hi
  refine ⟨.pointer (some ⟨b, o + kk, none⟩), ⟨b, L, C, rfl, by rw [Nat.mul_one, Nat.add_zero]⟩, ?_⟩
  simp only [execOp, e1, e2, Sem.run_bind]
  have h2 : (Instr.indexAt t (.slice (some ⟨b, o, none⟩) len cap) (.int kd kk)).run P w = .ok (.pointer (some ⟨b, o + kk, none⟩)) w := by
   have hk' : (0 : Int) ≤ (kk : Int) ∧ (kk : Int) < (len : Int) := by omega
   simp [Instr.indexAt, asIntOf, run_underlying hT.und, hk', hT.size w, add_plain]
   intro h'; omega
  rw [h2]
  rfl
theorem wl_indexOff {c : Cx} {rs : List (Nat × AV)} {hs : List HA} {Q : Exit → S → Prop} {ops : Array Oper} {tl : List Oper} {d : Nat} {ty : TypeId} {pos : String} {af : Array Edge} {x y : Operand} {t e : TypeId} {b o len cap : Nat} {i : Int} {kk : Nat} {kd : IntKind} (L C : Nat) (hx : opv rs x = some (.val (.slice (some ⟨b, o, none⟩) len cap))) (hy : opv rs y = some (.val (.int kd i))) (hT : TyS c.P t e 1) (hi : i = (kk : Int)) (hk : kk < len) (hd : Nat.blt d c.nt = true)
  (k : WL c ops tl ⟨(d, .rat (.slice (some ⟨b, 0, none⟩) L C) 1 (o + kk) 0) :: rs, hs⟩ Q) : WL c ops (⟨some d, .indexAddr t x y, ty, pos, af, none⟩ :: tl) ⟨rs, hs⟩ Q := wl_ex (lt_indexOff hT hx hy hi hk) hd k
end
theorem Fits.front {G : Nat → Option Obj} : ∀ {cs ds : List AV} {vs : List Value}, Fits G (cs ++ ds) vs → ∃ us ws, vs = us ++ ws ∧ Fits G cs us
 | [], ds, vs, h => ⟨[], vs, rfl, trivial⟩
 | c :: cs, ds, [], h => h.elim
 | c :: cs, ds, v :: vs, h => by
  obtain ⟨us, ws, e, k⟩ := Fits.front (cs := cs) (ds := ds) h.2
  exact ⟨v :: us, ws, by rw [e]; rfl, h.1, k⟩
theorem WL_cutCells {c : Cx} {rs : List (Nat × AV)} {hs r : List HA} {Q : Exit → S → Prop} {ops : Array Oper} {tl : List Oper} {b tot : Nat} {e : TypeId} {cs ds : List AV} (hr : Rm hs (.cells b e (cs ++ ds) tot) r) (k : WL c ops tl ⟨rs, .cells b e cs tot :: r⟩ Q) : WL c ops tl ⟨rs, hs⟩ Q := ⟨fun a w st => by
 obtain ⟨G, F, hI, rr⟩ := st
 obtain ⟨F1, F2, ep, ⟨vs, rest, e1, e2, e3, e4, e5⟩, h2⟩ := hr.sel hI.hs
 obtain ⟨us, ws, hv, hf⟩ := Fits.front e2
 subst hv
 exact k.out a w ⟨G, F, ⟨hI.gin, hI.nd, hI.own, F1, F2, ep, ⟨us, ws ++ rest, e1, hf, fun u hu => e3 u (by simp [hu]), by rw [e4, List.append_assoc], by rw [← e5, List.append_assoc]⟩, h2⟩, rr⟩⟩
theorem W_rowVal {α : Type} {c : Cx} {rs : List (Nat × AV)} {hs r : List HA} {Q : Exit → S → Prop} {x : Code} {v : Value} {e : TypeId} {n : Nat} {f : α → List AV} {xs : List α} (hx : xs ≠ []) (hr : Rm hs (.row v e n f xs) r) (k : ∀ b cap, v = .slice (some ⟨b, 0, none⟩) xs.length cap → xs.length ≤ cap → cap ≤ maxLen → W c x ⟨rs, hs⟩ Q) : W c x ⟨rs, hs⟩ Q := ⟨fun a w st => by
 obtain ⟨G, F, hI, rr⟩ := st
 obtain ⟨F1, F2, ep, h1, h2⟩ := hr.sel hI.hs
 obtain ⟨b, cap, e1, e2, e3, e4, e5⟩ := row_open hx h1
 exact (k b cap e1 e2 e3).out a w ⟨G, F, hI, rr⟩⟩
theorem fits_slO2 {G0 : Nat → Option Obj} {e : TypeId} {x y : List Int} (G : Nat → Option Obj) (vs : List Value) (h : Fits G [.slO G0 e x, .slO G0 e y] vs) : Fits G [.sl 1 iC x, .sl 1 iC y] vs := by
 match vs, h with
 | [a, b], ⟨h1, h2, _⟩ => exact ⟨slO_sl h1, slO_sl h2, trivial⟩
theorem compact_con (Z0 : Nat → Option Obj) (v : Value) (xs : List (List Int)) (hl : xs.length ≤ 100000) (hs : ∀ x ∈ xs, x.length ≤ 1000000) : Con Tryd.prog 121 [.val v, .clo 122 []] [.row v 22 1 (sloC Z0 3) xs] (fun x y => ∃ u : Value, x = .val u ∧ y = [.row u 22 1 (sloC Z0 3) (cmpL xs)]) := by
 have EQ : ∀ x ∈ xs, ∀ y ∈ xs, Con Tryd.prog 122 ([.slO Z0 3 x, .slO Z0 3 y] ++ []) [] (Is (.val (.bool (decide (x = y)))) []) := fun x hx y hy => Con.argsW fits_slO2 (equal_con x y (hs x hx) (hs y hy))
 refine con_of Tryd.func121 rfl (enters_of Tryd.func121 (by kernel_rfl) rfl) rfl ?_; intro n w0 F0 G0
 refine zS ?_
 refine w_cond rfl (fun h2 => ?_) (fun h2 => ?_)
 ·have hsmall : xs.length < 2 := by simp at h2; omega
  have e : cmpL xs = xs := by
   match xs, hsmall with
   | [], _ => rfl
   | [a], _ => rfl
  rw [e]
  refine zS ?_
  (apply resK1; exact rfl; exact rfl; exact ⟨v, rfl, rfl⟩; exact yC)
 ·have hbig : 2 ≤ xs.length := by simp at h2; omega
  refine W_rowVal (xs := xs) (fun e => by subst e; exact absurd hbig (by decide)) zN ?_
  intro b cap hv hnc hcm
  subst hv
  refine zS ?_
  refine W_loopJ (fun (j : Nat) => ⟨[(0, .val (.slice (some ⟨b, 0, none⟩) xs.length cap)), (1, .clo 122 []), (4, .val (.slice none 0 0)), (5, .val (.int .i64 j))], [.row (.slice (some ⟨b, 0, none⟩) xs.length cap) 22 1 (sloC Z0 3) xs]⟩) (fun j => 1 ≤ j ∧ j ≤ xs.length ∧ cmpL (xs.take j) = xs.take j) (fun j => xs.length - j) 1 (fun _ _ st => st_sub2 st zR zP) ⟨Nat.le_refl _, by omega, by
   match xs, hbig with
   | a :: t, _ => rfl⟩ ?_
  rintro j ⟨hj1, hj, hc⟩
  refine zS ?_
  refine w_cond rfl (fun hlt => ?_) (fun hlt => ?_)
  ·have hlt' : j < xs.length := by simpa using hlt
   obtain ⟨m, rfl⟩ : ∃ m, j = m + 1 := ⟨j - 1, by omega⟩
   have ct := cmpL_take (xs := xs) (m := m) hlt'
   rw [hc] at ct
   have f1 : xs[m + 1]? = some xs[m + 1] := List.getElem?_eq_getElem hlt'
   have f2 : xs[m]? = some xs[m] := List.getElem?_eq_getElem (by omega)
   have E := EQ _ (List.getElem_mem hlt') _ (List.getElem_mem (show m < xs.length by omega))
   refine zS ?_
   refine W_run 10 [18, 19, 20, 21, 22, 23, 24, 25, 26, 27] [0, 1, 2, 3, 4, 5, 6, 7, 8, 9] Cut.nil rfl goFlt mixedS (by kernel_rfl) rfl ?_
   refine rpv [] [] ?_
   refine rpv [] [] ?_
   refine rpv [] [] ?_
   refine rpv [1, 2] [] ?_
   refine rpv [3] [] ?_
   refine rpv [] [] ?_
   refine rpv [] [] ?_
   refine Run.pv [6] [] rfl (fun vs => by apply ltr_pk; exact goPk; (refine ltr ?_; apply LT_int (m : Int); apply lt_sub; exact rfl; exact rfl; omega; omega; omega)) goApp ?_
   refine rpv [5, 7] [] ?_
   refine rpv [8] [] ?_
   refine ⟨⟨by kernel_rfl, by kernel_rfl⟩, fun vs => ?_⟩
   apply WL_auto [0, 4, 9]
   ·exact goPk
   ·exact goNrm
   ·kernel_rfl
   ·kernel_rfl
   refine zS ?_
   (apply wl_callV (E); exact rfl; exact rfl; exact rfl)
   by_cases hq : xs[m + 1] = xs[m]
   ·rw [decide_eq_true hq]
    rw [if_pos hq.symm] at ct
    have hne : ¬ cap = m + 1 := by omega
    refine zS ?_
    (apply wl_sliceV (l := m + 1) (h := xs.length); exact rfl; exact inferInstance; exact .inl rfl; exact rfl; exact .inr ⟨rfl, rfl⟩; exact rfl; omega; omega; omega; exact rfl)
    rw [fromV, if_neg hne, Nat.mul_one]
    refine zS ?_
    refine W_loopJ (fun (q : Nat × List (List Int)) => ⟨[(0, .val (.slice (some ⟨b, 0, none⟩) xs.length cap)), (1, .clo 122 []), (4, .val (.slice none 0 0)), (5, .val (.int .i64 (cmpL (xs.take (q.1 + 1))).length)), (6, .val (.slice (some ⟨b, m + 1, none⟩) (xs.length - (m + 1)) (cap - (m + 1)))), (7, .val (.int .i64 (q.1 + 1 - (m + 1) : Nat)))], [.row (.slice (some ⟨b, 0, none⟩) xs.length cap) 22 1 (sloC Z0 3) (cmpL (xs.take (q.1 + 1)) ++ q.2 ++ xs.drop q.1)]⟩) (fun q => m + 1 ≤ q.1 ∧ q.1 + 1 ≤ xs.length ∧ (cmpL (xs.take (q.1 + 1))).length + q.2.length = q.1) (fun q => xs.length - q.1) (m + 1, []) (fun _ _ st => st_sub2 st (by dsimp only; rw [ct, List.length_take, Nat.min_eq_left (by omega), Nat.add_sub_cancel_left]; exact zR) (by dsimp only; rw [ct, List.append_nil, List.take_append_drop]; exact zP)) ⟨Nat.le_refl _, hlt', by rw [ct, List.length_take, Nat.min_eq_left (by omega)]; rfl⟩ ?_
    rintro ⟨mm, M⟩ ⟨hm1, hm2, hm3⟩
    dsimp only at hm1 hm2 hm3 ⊢
    generalize hA : cmpL (xs.take (mm + 1)) = A at hm3 ⊢
    have hSl : (A ++ M ++ xs.drop mm).length = xs.length := by rw [List.length_append, List.length_append, List.length_drop]; omega
    refine zS ?_
    refine w_cond rfl (fun hlt2 => ?_) (fun hlt2 => ?_)
    ·have hlt3 : mm + 1 < xs.length := by simp at hlt2; omega
     have ct2 := cmpL_take (xs := xs) (m := mm) hlt3
     rw [hA] at ct2
     have E2 := EQ _ (List.getElem_mem hlt3) _ (List.getElem_mem (show mm < xs.length by omega))
     have g1 : (A ++ M ++ xs.drop mm)[m + 1 + (mm + 1 - (m + 1))]? = some xs[mm + 1] := by
      rw [List.getElem?_append_right (by rw [List.length_append]; omega), List.length_append, List.getElem?_drop, show mm + (m + 1 + (mm + 1 - (m + 1)) - (A.length + M.length)) = mm + 1 by omega, List.getElem?_eq_getElem hlt3]
     have g2 : (A ++ M ++ xs.drop mm)[m + 1 + (mm - (m + 1))]? = some xs[mm] := by
      rw [List.getElem?_append_right (by rw [List.length_append]; omega), List.length_append, List.getElem?_drop, show mm + (m + 1 + (mm - (m + 1)) - (A.length + M.length)) = mm by omega, List.getElem?_eq_getElem (by omega)]
     have hdm : xs.drop mm = xs[mm] :: xs.drop (mm + 1) := List.drop_eq_getElem_cons (by omega)
     refine zS ?_
     refine W_run 10 [38, 39, 40, 41, 42, 43, 44, 45, 46, 47] [0, 1, 2, 3, 4, 5, 6, 7, 8, 9] Cut.nil rfl goFlt mixedS (by kernel_rfl) rfl ?_
     refine rpv [] [] ?_
     refine rpv [] [] ?_
     refine rpv [] [] ?_
     refine Run.pv [1, 2] [] rfl (fun vs => by apply ltr_pk; exact goPk; (refine ltr ?_; apply lt_indexOff (L := xs.length) (C := cap) (kk := mm + 1 - (m + 1)); exact inferInstance; exact rfl; exact rfl; exact rfl; omega)) goApp ?_
     refine rpv [3] [] ?_
     refine rpv [] [] ?_
     refine rpv [] [] ?_
     refine Run.pv [6] [] rfl (fun vs => by apply ltr_pk; exact goPk; (refine ltr ?_; apply LT_int ((mm - (m + 1) : Nat) : Int); apply lt_sub; exact rfl; exact rfl; omega; omega; omega)) goApp ?_
     refine Run.pv [5, 7] [] rfl (fun vs => by apply ltr_pk; exact goPk; (refine ltr ?_; apply lt_indexOff (L := xs.length) (C := cap) (kk := mm - (m + 1)); exact inferInstance; exact rfl; exact rfl; exact rfl; omega)) goApp ?_
     refine rpv [8] [] ?_
     refine ⟨⟨by kernel_rfl, by kernel_rfl⟩, fun vs => ?_⟩
     apply WL_auto [0, 4, 9]
     ·exact goPk
     ·exact goNrm
     ·kernel_rfl
     ·kernel_rfl
     refine zS ?_
     (apply wl_callV (E2); exact rfl; exact rfl; exact rfl)
     by_cases hq2 : xs[mm + 1] = xs[mm]
     ·rw [decide_eq_true hq2]
      rw [if_pos hq2.symm] at ct2
      refine zS ?_
      refine ⟨(mm + 1, M ++ [xs[mm]]), fun _ _ st => st_sub2 st (by dsimp only; rw [ct2, show mm + 1 + 1 - (m + 1) = mm + 1 - (m + 1) + 1 by omega]; exact zR) (by dsimp only; rw [ct2, hdm]; simp only [List.append_assoc, List.singleton_append]; exact zP), ⟨by dsimp only; omega, by dsimp only; omega, by dsimp only; rw [ct2, List.length_append, List.length_singleton]; omega⟩, ?_⟩
      dsimp only; omega
     ·rw [decide_eq_false hq2]
      rw [if_neg (fun h => hq2 h.symm)] at ct2
      refine zS ?_
      (apply wl_indexOff xs.length cap (kk := mm + 1 - (m + 1)); exact rfl; exact rfl; exact inferInstance; exact rfl; omega; exact rfl)
      refine zS ?_
      have hgl : m + 1 + (mm + 1 - (m + 1)) < (A ++ M ++ xs.drop mm).length := by omega
      have gx : (A ++ M ++ xs.drop mm)[m + 1 + (mm + 1 - (m + 1))] = xs[mm + 1] := Option.some.inj ((List.getElem?_eq_getElem hgl).symm.trans g1)
      have hset : (A ++ M ++ xs.drop mm).set A.length xs[mm + 1] = (A ++ [xs[mm + 1]]) ++ (M ++ [xs[mm]]).tail ++ xs.drop (mm + 1) := by
       rw [hdm, List.append_assoc, List.set_append_right _ _ (Nat.le_refl _), Nat.sub_self]
       cases M with
       | nil => simp only [List.nil_append, List.set_cons_zero, List.tail_cons, List.append_assoc, List.singleton_append]
       | cons m0 M1 => simp only [List.nil_append, List.cons_append, List.set_cons_zero, List.tail_cons, List.append_assoc, List.singleton_append]
      refine ⟨(mm + 1, (M ++ [xs[mm]]).tail), fun _ _ st => st_sub2 st (by dsimp only; rw [ct2, List.length_append, List.length_singleton, show mm + 1 + 1 - (m + 1) = mm + 1 - (m + 1) + 1 by omega]; exact zR) (by rw [gx, hset]; dsimp only; rw [ct2]; exact zP), ⟨by dsimp only; omega, by dsimp only; omega, by dsimp only; rw [ct2, List.length_append, List.length_singleton, List.length_tail, List.length_append, List.length_singleton]; omega⟩, ?_⟩
      dsimp only; omega
    ·have hmm : mm + 1 = xs.length := by simp at hlt2; omega
     have hAx : A = cmpL xs := by rw [← hA, hmm, List.take_length]
     have hAl : A.length ≤ xs.length := by omega
     refine zS ?_
     refine WL_openRow (v := .slice (some ⟨b, 0, none⟩) xs.length cap) (e := 22) (n := 1) (f := sloC Z0 3) (xs := A ++ M ++ xs.drop mm) (fun e => by rw [e] at hSl; simp at hSl; omega) zN ?_
     intro b2 cap2 hv2 hnc2 hcm2 hlf
     injection hv2 with e1 e2 e3
     injection e1 with e1
     injection e1 with e1
     subst e1 e3
     rw [show (A ++ M ++ xs.drop mm).flatMap (sloC Z0 3) = A.flatMap (sloC Z0 3) ++ (M ++ xs.drop mm).flatMap (sloC Z0 3) by rw [List.append_assoc, List.flatMap_append]]
     apply WL_cutCells (cs := A.flatMap (sloC Z0 3)) (ds := (M ++ xs.drop mm).flatMap (sloC Z0 3))
     ·exact zN
     (apply wl_sliceV (l := A.length) (h := xs.length); exact rfl; exact inferInstance; exact .inl rfl; exact rfl; exact .inr ⟨rfl, rfl⟩; exact rfl; omega; omega; omega; exact rfl)
     rw [fromV]
     refine zS ?_
     (apply wl_clearV (n := 1) (j := A.length) (m := xs.length - A.length); exact rfl; exact zM; exact inferInstance; exact inferInstance; exact rfl; (intro u hu; simp at hu; subst hu; rfl); (rw [lenL (f := sloC Z0 3) (n := 1) (fun x hx => rfl)]); omega)
     refine zS ?_
     (apply wl_sliceV (l := 0) (h := A.length) (li := 0); exact rfl; exact inferInstance; exact .inr ⟨rfl, rfl⟩; exact rfl; exact .inl rfl; exact rfl; omega; omega; omega; exact rfl)
     rw [toV]
     apply WL_shutRow (cap := cap) (b := b) (e := 22) (n := 1) (f := sloC Z0 3) A (fun x _ => rfl) (by omega) hcm
     ·exact zN
     refine zS ?_
     rw [← hAx]
     (apply resK1; exact rfl; exact rfl; exact ⟨_, rfl, rfl⟩; exact yC)
   ·rw [decide_eq_false hq]
    rw [if_neg (fun h => hq h.symm)] at ct
    refine zS ?_
    (refine ⟨m + 1 + 1, fun _ _ st => st_sub2 st ?_ ?_, ?_, ?_⟩; exact zR; exact zP)
    ·exact ⟨by omega, hlt', by rw [ct, List.take_succ_eq_append_getElem hlt']⟩
    ·omega
  ·have hkk : j = xs.length := by simp at hlt; omega
   subst hkk
   rw [List.take_length] at hc
   rw [hc]
   refine zS ?_
   (apply resK1; exact rfl; exact rfl; exact ⟨_, rfl, rfl⟩; exact yC)
end Go.Proofs.YthddoikmgpgakaaDoor.Sw
namespace Go.Proofs.YthddoikmgpgakaaDoor.Sw
open Go.RowKit Go Go.Shelf Go.Proofs Go.Sort
def cmpI (a b : List Int) : Int := if a = b then 0 else if ltL a b = true then -1 else 1
theorem cmpI_lt (a b : List Int) : decide (cmpI a b < 0) = ltL a b := by
 unfold cmpI
 by_cases h : a = b
 ·subst h; rw [if_pos rfl, ltL_irrefl]; rfl
 ·rw [if_neg h]
  by_cases g : ltL a b = true
  ·rw [if_pos g, g]; rfl
  ·rw [if_neg g]; simp at g; rw [g]; rfl
abbrev Vl (A : List Int → AV) (G : Nat → Option Obj) : Type := { p : Value × List Int // (A p.2).P G p.1 ∧ p.1.oneCell' = true ∧ p.2.length ≤ 1000000 }
theorem vl_list {A : List Int → AV} {G : Nat → Option Obj} : ∀ {xs : List (List Int)} {vs : List Value}, Fits G (xs.flatMap (lsC A)) vs → (∀ u ∈ vs, u.oneCell' = true) → (∀ x ∈ xs, x.length ≤ 1000000) → ∃ ds : List (Vl A G), ds.map (fun d => d.1.1) = vs ∧ ds.map (fun d => d.1.2) = xs
 | [], [], _, _, _ => ⟨[], rfl, rfl⟩
 | x :: xs, v :: vs, h, h1, h2 => by
  obtain ⟨ds, e1, e2⟩ := vl_list (xs := xs) (vs := vs) h.2 (fun u hu => h1 u (by simp [hu])) (fun y hy => h2 y (by simp [hy]))
  exact ⟨⟨(v, x), h.1, h1 v (by simp), h2 x (by simp)⟩ :: ds, by rw [List.map_cons, e1], by rw [List.map_cons, e2]⟩
 | [], _ :: _, h, _, _ => h.elim
 | _ :: _, [], h, _, _ => h.elim
theorem vl_fits {A : List Int → AV} {G : Nat → Option Obj} : ∀ (ds : List (Vl A G)), Fits G ((ds.map (fun d => d.1.2)).flatMap (lsC A)) (ds.map (fun d => d.1.1))
 | [] => trivial
 | d :: ds => ⟨d.2.1, vl_fits ds⟩
theorem gin_sort {G : Nat → Option Obj} {w : World} {α : Type} [Inhabited α] {enc : α → Value} {blk m : Nat} {dk : Array α} {os : Array Obj} (h : Gin G w) (hb : G blk = none) : Gin G (sortWorld enc w blk 0 m dk os) := fun b o e => by
 have hlt := h.lt e
 have hne : blk ≠ b := fun e' => by subst e'; rw [hb] at e; cases e
 unfold sortWorld
 rw [heap_grow_old _ _ (by simpa using hlt)]
 show (mapBlock (Sort.ahead w m) blk _).heap[b]? = some o
 unfold mapBlock
 simp only [Array.getElem?_modify, if_neg hne]
 exact h b o e
theorem sortS_con {P : Program} {ρ : Ren} (L : SlLaysF.n6 P ρ) {e : TypeId} {g : FuncId} (eg : ∀ args w, (callFunc g args).run P w = .ok (.enter g args) w) (ef : ∀ args w, (callFunc (ρ.f 6) args).run P w = .ok (.enter (ρ.f 6) args) w)
  (hc : ∀ (G : Nat → Option Obj) (W : World) (u v : Value) (x y : List Int), (AV.sl 1 iC x).P G u → (AV.sl 1 iC y).P G v → Gin G W → x.length ≤ 1000000 → y.length ≤ 1000000 → Calls P g #[u, v] W fun en w' => en = .returned (.int .i64 (cmpI x y)) ∧ ∃ q os', w' = grow (W.drewN q) os')
  (A : List Int → AV) (hA : ∀ x G u, (A x).P G u → (AV.sl 1 iC x).P G u) (v : Value) (xs : List (List Int)) (hne : xs ≠ []) (hl : xs.length ≤ 1000000) (hlen : ∀ x ∈ xs, x.length ≤ 1000000) :
  Con P (ρ.f 6) [.val v, .clo g []] [.row v e 1 (lsC A) xs] (fun x y => x = .tup [] ∧ ∃ xs' : List (List Int), xs'.Perm xs ∧ xs'.Pairwise (fun a b => ltL b a = false) ∧ y = [.row v e 1 (lsC A) xs']) := ⟨ef, fun G Fp vs w hf hI => by
 obtain ⟨F1, F2, ep, hrow, hF2⟩ := hI.hs
 have hF2' : F2 = [] := hF2
 subst hF2'
 rw [List.append_nil] at ep
 match vs, hf with
 | [v1, v2], ⟨h1, h2, _⟩ =>
  have h1' : v1 = v := h1
  subst h1'
  obtain ⟨us, rfl, hus⟩ : ∃ us : List Value, v2 = .func (.func g) #[] us.toArray ∧ Fits G [] us := h2
  have hus' : us = [] := by cases us with | nil => rfl | cons _ _ => exact hus.elim
  subst hus'
  obtain ⟨cs, e1, e2, e3, e4, e5⟩ := hrow
  obtain ⟨el, hcase⟩ := e5
  rcases hcase with ⟨_, h0⟩ | ⟨blk, cap, cur, hv, _, hb, hcap, hm, hsz, htk⟩
  ·exact absurd (List.eq_nil_of_length_eq_zero h0) hne
  ·subst hv
   obtain ⟨ds, d1, d2⟩ := vl_list e3 e4 hlen
   have hds : ds ≠ [] := fun e => by subst e; exact hne d2.symm
   haveI : Inhabited (Vl A G) := ⟨ds.head hds⟩
   have hdl : ds.length = xs.length := by rw [← d2, List.length_map]
   have hFb : F1 = [blk] := by rw [e1]; rfl
   have hown := hI.own blk (ep.mem_iff.2 (by rw [hFb]; simp))
   have hcl : cs.length = ds.length := by rw [← d1, List.length_map]
   have hcell : ∀ j (hj : j < ds.length), cur[j]? = some (ds[j].1.1) := fun j hj => by
    have q : (cur.toList.take (xs.length * 1))[j]? = cs[j]? := by rw [htk]
    rw [List.getElem?_take, if_pos (by omega)] at q
    rw [← Array.getElem?_toList, q, ← d1, List.getElem?_map, List.getElem?_eq_getElem hj]
    rfl
   have hH : Holds (fun d : Vl A G => d.1.1) w blk 0 ds.toArray := fun j hj => by
    have hj' : j < ds.length := by simpa using hj
    refine ⟨?_, ?_⟩
    ·unfold World.cell?
     rw [hb]
     show cur[0 + j]? = _
     rw [Nat.zero_add, hcell j hj']
     rw [getElem!_pos _ j (by simpa using hj')]
     simp
    ·unfold World.frozen?
     rw [hb]
     simp
   have hS := Any.slices_SortFunc L (fun d : Vl A G => d.1.1) (fun d => d.2.2.1) (fun x y => cmpI x.1.2 y.1.2) ⟨fun x => (cmpI_lt _ _).trans (ltL_irrefl _), fun x y z h1 h2 => (cmpI_lt _ _).trans (ltL_trans ((cmpI_lt _ _).symm.trans h1) ((cmpI_lt _ _).symm.trans h2)), fun x y z h1 h2 => by
     have k1 : ltL x.1.2 y.1.2 = false := (cmpI_lt _ _).symm.trans h1
     have k2 : ltL y.1.2 z.1.2 = false := (cmpI_lt _ _).symm.trans h2
     refine (cmpI_lt _ _).trans ?_
     cases hxz : ltL x.1.2 z.1.2 with
     | false => rfl
     | true =>
      rcases ltL_tri x.1.2 y.1.2 with h | h | h
      ·rw [k1] at h; cases h
      ·rw [h] at hxz; rw [k2] at hxz; cases hxz
      ·have := ltL_trans h hxz; rw [k2] at this; cases this⟩ g #[] blk 0 cap ds.toArray w eg
    (fun m os dk hs x y => (hc G _ _ _ _ _ (hA _ _ _ x.2.1) (hA _ _ _ y.2.1) (gin_sort hI.gin hown.2) x.2.2.2 y.2.2.2).mono fun _ _ h => h) hH hown.1 (by simp; omega)
   have hsz' : ds.toArray.size = xs.length := by simp [hdl]
   rw [hsz'] at hS
   refine hS.mono ?_
   rintro en w' ⟨rfl, d', n, os, hp, hs, rfl⟩
   obtain ⟨p1, _, p3⟩ := hp
   have p1' : d'.size = xs.length := by rw [p1, hsz']
   have hperm : d'.toList.Perm ds := by
    have q := p3
    rw [Array.extract_eq_self_of_le (by omega), Array.extract_eq_self_of_le (by simp; omega)] at q
    exact q
   have hheap : (sortWorld (fun d : Vl A G => d.1.1) w blk 0 n d' os).heap[blk]? = some (.cells (putCells (fun d : Vl A G => d.1.1) 0 d' cur) e (0, 0)) := by
    unfold sortWorld
    rw [heap_grow_old _ _ (by simpa using hown.1)]
    show (mapBlock (Sort.ahead w n) blk _).heap[blk]? = _
    unfold mapBlock
    simp only [Array.getElem?_modify, if_true]
    show (w.heap[blk]?).map _ = _
    rw [hb]; rfl
   refine ⟨_, _, _, G, Fp, rfl, ⟨rfl, d'.toList.map (fun d => d.1.2), by rw [← d2]; exact hperm.map _, ?_, rfl⟩, ⟨rfl, rfl, rfl, by unfold sortWorld; simp, fun b hb' hn => ?_, fun b h => .inl h, Gle.refl _, fun _ _ h => .inl h⟩, ⟨gin_sort hI.gin hown.2, hI.nd, fun b h => ⟨Nat.lt_of_lt_of_le (hI.own b h).1 (by unfold sortWorld; simp), (hI.own b h).2⟩, F1, [], by simpa using ep, ⟨d'.toList.map (fun d => d.1.1), e1, fun _ _ => rfl, vl_fits _, fun u hu => ?_, ?_, .inr ⟨blk, cap, _, ?_, Nat.zero_le _, hheap, ?_, hm, ?_, ?_⟩⟩, rfl⟩, ⟨[], rfl, trivial⟩⟩
   ·rw [List.pairwise_map, List.pairwise_iff_getElem]
    intro i j hi hj hij
    have q := hs i j (Nat.zero_le _) hij (by rw [Array.length_toList] at hj; omega)
    rw [getElem!_pos d' j (by simpa using hj), getElem!_pos d' i (by simpa using hi)] at q
    have q' := (cmpI_lt _ _).symm.trans q
    simpa using q'
   ·have hne' : blk ≠ b := fun e' => hn (by subst e'; exact ep.mem_iff.2 (by rw [hFb]; simp))
    unfold sortWorld
    rw [heap_grow_old _ _ (by simpa using hb')]
    show (mapBlock (Sort.ahead w n) blk _).heap[b]? = _
    unfold mapBlock
    simp only [Array.getElem?_modify, if_neg hne']
    rfl
   ·obtain ⟨d, _, rfl⟩ := List.mem_map.1 hu
    exact d.2.2.1
   ·rw [List.length_map, List.length_map, Array.length_toList]; omega
   ·have hlen : d'.toList.length = xs.length := by rw [Array.length_toList]; exact p1'
    rw [List.length_map, hlen]
   ·have hlen : d'.toList.length = xs.length := by rw [Array.length_toList]; exact p1'
    rw [List.length_map, hlen]; exact hcap
   ·unfold putCells
    rw [Array.size_mapIdx]; exact hsz
   ·rw [List.length_map, Array.length_toList, p1']
    refine List.ext_getElem? fun j => ?_
    rw [List.getElem?_take, List.getElem?_map]
    by_cases hj : j < xs.length
    ·rw [if_pos (by omega), Array.getElem?_toList]
     unfold putCells
     rw [Array.getElem?_mapIdx, hcell j (by omega)]
     rw [Array.getElem?_toList, Array.getElem?_eq_getElem (by omega)]
     simp only [Option.map_some, Nat.zero_le, true_and, Nat.zero_add, Nat.sub_zero]
     rw [if_pos (by omega), getElem!_pos d' j (by omega)]
    ·rw [if_neg (by omega), Array.getElem?_toList, Array.getElem?_eq_none (by omega)]; rfl⟩
end Go.Proofs.YthddoikmgpgakaaDoor.Sw
namespace Go.Proofs.YthddoikmgpgakaaDoor
open Go.RowKit Go.Proofs Go.Shelf
open Go.Sort (grow)
def Grw (w W : World) : Prop := ∃ q os, W = grow (w.drewN q) os
theorem Grw.refl (w : World) : Grw w w := ⟨0, #[], by simp [World.drewN]⟩
theorem isNaN_any (x : Int) (w : World) : Calls Tryd.prog 140 #[.int .i64 x] w fun e w' => e = .returned (.bool false) ∧ w' = w := by
 go_enter Tryd.func140, Tryd.ntmps140
 go_wp2
 all_goals
  go_ret
  exact ⟨(congrArg (fun b => Ending.returned (Value.bool b)) (by first | rfl | (simp [*]; done) | (simp [*]; omega) | (simp_all; done) | (simp_all; omega))), rfl⟩
theorem cmp_any (x y : Int) (w : World) : Calls Tryd.prog 128 #[.int .i64 x, .int .i64 y] w fun e w' => e = .returned (.int .i64 (if x = y then 0 else if x < y then -1 else 1)) ∧ w' = w := by
 go_enter Tryd.func128, Tryd.ntmps128
 go_wp2_with ((refine (isNaN_any _ _).mono ?_; rintro e w' ⟨rfl, rfl⟩))
 all_goals
  go_ret
  refine ⟨congrArg (fun b => Ending.returned (Value.int .i64 b)) ?_, rfl⟩
  first | (simp_all; done) | (simp_all; omega) | (split <;> simp_all <;> omega)
open Go.Proofs.YthddoikmgpgakaaDoor.Sw (cmpI)
theorem ltL_common : ∀ (p a b : List Int), ltL (p ++ a) (p ++ b) = ltL a b
 | [], _, _ => rfl
 | x :: p, a, b => by rw [List.cons_append, List.cons_append, ltL_same]; exact ltL_common p a b
theorem cmpI_common (p a b : List Int) : cmpI (p ++ a) (p ++ b) = cmpI a b := by
 unfold Sw.cmpI
 rw [ltL_common]
 simp only [List.append_cancel_left_eq]
theorem cmpI_cons {x y : Int} (h : x ≠ y) (a b : List Int) : cmpI (x :: a) (y :: b) = if x < y then -1 else 1 := by
 unfold Sw.cmpI
 rw [if_neg (fun e => h (List.cons.inj e).1), ltL_cons, if_neg h]
 simp only [decide_eq_true_eq]
theorem cut2 {xs ys : List Int} {k : Nat} (h : xs.take k = ys.take k) : cmpI xs ys = cmpI (xs.drop k) (ys.drop k) := by
 have e1 : xs = xs.take k ++ xs.drop k := (List.take_append_drop k xs).symm
 have e2 : ys = xs.take k ++ ys.drop k := by rw [h, List.take_append_drop]
 rw [e1, e2, cmpI_common]
 rw [← e1, ← e2]
theorem compare_any (sa sb : Option Addr) (sc sd : Nat) (xs ys : List Int) (w : World) (hl : xs.length ≤ 1000000) (hl2 : ys.length ≤ 1000000) (h1 : RdI w sa xs) (h2 : RdI w sb ys) :
  Calls Tryd.prog 120 #[.slice sa xs.length sc, .slice sb ys.length sd] w fun e w' => e = .returned (.int .i64 (cmpI xs ys)) ∧ w' = w := by
 have H1 := hid h1; have H2 := hid h2; clear h1 h2
 go_enter Tryd.func120, Tryd.ntmps120
 go_wp2_with fail
 go_loop [11] (fun i => ∃ k : Nat, k ≤ xs.length ∧ i = .int .i64 k ∧ Hid (xs.take k = ys.take k ∧ (k ≤ ys.length))) (fun i => (xs.length - (intOf i).toNat))
 case atStart => exact ⟨0, by omega, rfl, hid ⟨by simp, by omega⟩⟩
 case round =>
  obtain ⟨k, hk, rfl, hT⟩ := hrel
  by_cases hlt : k < xs.length
  ·obtain ⟨b, o, rfl, hcell⟩ := H1.out k hlt
   by_cases hlt2 : k < ys.length
   ·obtain ⟨b2, o2, rfl, hcell2⟩ := H2.out k hlt2
    have d1 : xs.drop k = xs[k] :: xs.drop (k + 1) := List.drop_eq_getElem_cons hlt
    have d2 : ys.drop k = ys[k] :: ys.drop (k + 1) := List.drop_eq_getElem_cons hlt2
    have cc := cmp_any xs[k] ys[k]
    have ce := cut2 hT.out.1
    rw [d1, d2] at ce
    clear d1 d2
    by_cases hxy : xs[k] = ys[k]
    ·rw [if_pos hxy] at cc
     clear ce
     have C := hid cc; have HX := hid hxy; clear cc hxy
     go_wp2_with (refine (C.out _).mono ?_; rintro e w' ⟨rfl, rfl⟩)
     go_round
     case rel => exact ⟨k + 1, by omega, by go_num, hid ⟨by rw [List.take_succ_eq_append_getElem hlt, List.take_succ_eq_append_getElem hlt2, hT.out.1, HX.out], hlt2⟩⟩
     case measure => simp [intOf]; omega
    ·rw [if_neg hxy] at cc
     rw [cmpI_cons hxy] at ce
     by_cases h3 : xs[k] < ys[k]
     ·rw [if_pos h3] at cc ce
      have C := hid cc; have CE := hid ce; clear cc ce
      go_wp2_with (refine (C.out _).mono ?_; rintro e w' ⟨rfl, rfl⟩)
      go_ret
      exact ⟨(congrArg (fun b => Ending.returned (Value.int .i64 b)) CE.out.symm), rfl⟩
     ·rw [if_neg h3] at cc ce
      have C := hid cc; have CE := hid ce; clear cc ce
      go_wp2_with (refine (C.out _).mono ?_; rintro e w' ⟨rfl, rfl⟩)
      go_ret
      exact ⟨(congrArg (fun b => Ending.returned (Value.int .i64 b)) CE.out.symm), rfl⟩
   ·have ce : cmpI xs ys = 1 := by
     rw [cut2 hT.out.1, List.drop_eq_getElem_cons hlt, List.drop_of_length_le (by omega : ys.length ≤ k)]; rfl
    have CE := hid ce; clear ce
    go_wp2_with fail
    go_ret
    exact ⟨(congrArg (fun b => Ending.returned (Value.int .i64 b)) CE.out.symm), rfl⟩
  ·have hkk : k = xs.length := by omega
   have hy := hT.out.2
   have ce := cut2 hT.out.1
   rw [List.drop_of_length_le (by omega : xs.length ≤ k)] at ce
   by_cases h3 : xs.length < ys.length
   ·rw [List.drop_eq_getElem_cons (by omega : k < ys.length)] at ce
    have ce2 : cmpI xs ys = -1 := ce
    have CE := hid ce2; clear ce ce2 hT
    go_wp2_with fail
    go_ret
    exact ⟨(congrArg (fun b => Ending.returned (Value.int .i64 b)) CE.out.symm), rfl⟩
   ·rw [List.drop_of_length_le (by omega : ys.length ≤ k)] at ce
    have ce2 : cmpI xs ys = 0 := ce
    have CE := hid ce2; clear ce ce2 hT
    go_wp2_with fail
    go_ret
    exact ⟨(congrArg (fun b => Ending.returned (Value.int .i64 b)) CE.out.symm), rfl⟩
end Go.Proofs.YthddoikmgpgakaaDoor
namespace Go.Proofs.YthddoikmgpgakaaDoor
open Go.RowKit Go.Proofs Go.Shelf
shelf_lay_g SlLaysF.n6 Slsf 6 at Tryd 119 as Tryd.sortLs
end Go.Proofs.YthddoikmgpgakaaDoor
