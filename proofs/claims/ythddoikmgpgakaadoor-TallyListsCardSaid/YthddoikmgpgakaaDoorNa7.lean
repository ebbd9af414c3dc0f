/- Proofs for the seat's cards: LsG, LsH, MtK, LsI, Edits, LsJ, Join, Notch, Where, RefWhere, Split, False. No condition of its own. -/
import Derived.Test.YthddoikmgpgakaaDoorProg
import Derived.Outline
import Derived.RangeFuncNested
import Derived.Shelf.Abstract
import Derived.Deep.QuietTactic
import Derived.BigQuiet
import Derived.Deep.RegionHeld3
import Derived.WalkSmall
import Derived.Laws.EntriesVeiled
import Derived.WalkMore
import Derived.Test.YthddoikmgpgakaaDoorNa6
set_option linter.unusedVariables false
set_option linter.unusedSimpArgs false
set_option maxRecDepth 40000
set_option maxHeartbeats 32000000
namespace Go.Proofs.YthddoikmgpgakaaDoor.Sw
open Go.RowKit Go Go.Shelf Go.Proofs
theorem compLs (G : Nat → Option Obj) (W : World) (u v : Value) (x y : List Int) (hx : (AV.sl 1 iC x).P G u) (hy : (AV.sl 1 iC y).P G v) (hG : Gin G W) (l1 : x.length ≤ 1000000) (l2 : y.length ≤ 1000000) : Calls Tryd.prog 120 #[u, v] W fun en w' => en = .returned (.int .i64 (cmpI x y)) ∧ ∃ q os', w' = Go.Sort.grow (W.drewN q) os' := by
 obtain ⟨sa, sc, rfl, g1⟩ := fits_slI hG hx
 obtain ⟨sb, sd, rfl, g2⟩ := fits_slI hG hy
 refine (compare_any sa sb sc sd x y W l1 l2 g1 g2).mono ?_
 rintro e w' ⟨h1, rfl⟩
 exact ⟨h1, 0, #[], by simp [World.drewN]⟩
theorem sortL_con (Z0 : Nat → Option Obj) (v : Value) (xs : List (List Int)) (hne : xs ≠ []) (hl : xs.length ≤ 1000000) (hlen : ∀ x ∈ xs, x.length ≤ 1000000) :
  Con Tryd.prog 119 [.val v, .clo 120 []] [.row v 22 1 (sloC Z0 3) xs] (fun x y => x = .tup [] ∧ ∃ xs' : List (List Int), xs'.Perm xs ∧ xs'.Pairwise (fun a b => ltL b a = false) ∧ y = [.row v 22 1 (sloC Z0 3) xs']) :=
 sortS_con Tryd.sortLs (enters_of Tryd.func120 (by kernel_rfl) rfl) (enters_of Tryd.func119 (by kernel_rfl) rfl) (fun G W u v x y hx hy hG l1 l2 => compLs G W u v x y hx hy hG l1 l2) (AV.slO Z0 3) (fun _ _ _ h => slO_sl h) v xs hne hl hlen
theorem lt_minsert {P : Program} {κ α : Type} [DecidableEq κ] {t : TypeId} {kv : κ → Value} {ok : κ → Prop} {g : α → AV} {l : List (κ × α)} {v : Value} {rs : List (Nat × AV)} {d : Option Nat} {ty : TypeId} {pos : String} {af : Array Edge} {gd : Option (Nat × Bool)} (K : KeyT P t kv ok) {tm e : TypeId} (ht : P.underlying tm = some (.map t e)) {x y z : Operand} {av : AV} (k : κ) (a : α) (hx : opv rs x = some (.val v)) (hy : opv rs y = some av) (hv : KeyV av (kv k)) (hk : ok k) (hz : opv rs z = some (g a)) (hl : l.length ≤ 1000000) :
  LT P ⟨d, .insert tm x y z, ty, pos, af, gd⟩ rs [.mp P v t kv g l] (Is (.val undef) [.mp P v t kv g (putM l k a)]) :=
 LT_eff (fun _ e => by cases e) fun ac w G F hR hI => by
  obtain ⟨F1, F2, e, hm, h2⟩ := hI.hs
  have h2' : F2 = [] := h2
  subst h2'
  have e1 : ac.eval x = v := opv_ok hR hx
  have e2 := hv.out G _ (opv_ok hR hy)
  obtain ⟨b, o, o0, hvb, hF1, hb, ho, hr, hm'⟩ := mp_store K ht hk hl (opv_ok hR hz) hm
  subst hF1
  have hF : F = [b] := List.perm_singleton.1 (by simpa using e)
  subst hF
  obtain ⟨f1, f2⟩ := inv_setB hI hb ho hm'
  exact ⟨_, ChangeMaps.setBlock w b o, undef, _, _, G, [b], by simp [execOp, e1, e2, hr, Result.andThen], .inr ⟨rfl, rfl⟩, ⟨rfl, rfl⟩, f1, f2, rfl⟩
theorem wl_minsert {c : Cx} {rs : List (Nat × AV)} {hs : List HA} {Q : Exit → S → Prop} {ops : Array Oper} {tl : List Oper} {ty : TypeId} {pos : String} {af : Array Edge} {κ α : Type} [DecidableEq κ] {t : TypeId} {kv : κ → Value} {ok : κ → Prop} {g : α → AV} {l : List (κ × α)} {v : Value} {tm e : TypeId} {x y z : Operand} {av : AV} {h : HA → List HA} (K : KeyT c.P t kv ok) (k : κ) (a : α) (ht : c.P.underlying tm = some (.map t e)) (hx : opv rs x = some (.val v)) (hat : At hs (.mp c.P v t kv g l) h) (hy : opv rs y = some av) (hv : KeyV av (kv k)) (hk : ok k) (hz : opv rs z = some (g a)) (hl : l.length ≤ 1000000)
  (kk : WL c ops tl ⟨rs, h (.mp c.P v t kv g (putM l k a))⟩ Q) : WL c ops (⟨none, .insert tm x y z, ty, pos, af, none⟩ :: tl) ⟨rs, hs⟩ Q := WL_at rfl rfl hat (lt_minsert K ht k a hx hy hv hk hz hl) kk
theorem notches_con (x : Go.Proofs.YthddoikmgpgakaaDoor.St) : Con Tryd.prog 110 [.agg (stC x)] [] (Is (.sl 1 iC (notchesL x)) []) := by
 unfold notchesL
 refine con_of Tryd.func110 rfl (enters_of Tryd.func110 (by kernel_rfl) rfl) rfl ?_; intro n w0 F0 G0
 refine zS ?_;repeat(refine yA ?_;intro p hp;refine zS ?_)
 refine w_cond rfl (fun h => ?_) (fun h => ?_)
 ·rw [if_pos (of_decide_eq_true h)]
  refine zS ?_
  (apply wl_litF iC; exact inferInstance; exact inferInstance; exact inferInstance; exact zE; exact rfl; (first | exact (of_decide_eq_true rfl) | decide | (simp; done) | (simp; omega)); exact rfl)
  refine zS ?_
  (apply res1; exact rfl; exact rfl; exact ⟨rfl, rfl⟩)
 ·rw [if_neg (of_decide_eq_false h)]
  refine zS ?_
  (apply wl_litF iC; exact inferInstance; exact inferInstance; exact inferInstance; exact zE; exact rfl; (first | exact (of_decide_eq_true rfl) | decide | (simp; done) | (simp; omega)); exact rfl)
  refine zS ?_
  (apply res1; exact rfl; exact rfl; exact ⟨rfl, rfl⟩)
def gT (Z0 : Nat → Option Obj) (L : List (List Int)) : AV := .sl 1 (sloC Z0 3) L
abbrev memHT (Z0 : Nat → Option Obj) (kv : Value) (st fo : List Int) (es : List ((Nat × Nat) × List (List Int))) : List HA := [.fact (OkM st.length fo.length (tellT st fo) es ∧ (getM es (st.length, fo.length)).isSome = true), .mp Tryd.prog kv 137 kPl (gT Z0) es]
def memT (Z0 : Nat → Option Obj) (kv : Value) (st fo : List Int) : HA := .exs (memHT Z0 kv st fo)
abbrev tcap (id hs : Int) (st fo : List Int) (pb mv kv pt : Value) : List AV := [.fp 1 [.val kv], .fp 5 (pairC id hs st fo (leftF pb mv st fo)), .val pt]
abbrev TMEM (Z0 : Nat → Option Obj) (id hs : Int) (st fo : List Int) (pb mv kv pt : Value) : List HA := [.gh Z0, memT Z0 kv st fo, .box pt [.clo 118 (tcap id hs st fo pb mv kv pt)] 162]
def nlC (_ : List Int) : List AV := [AV.val (.slice none 0 0)]
instance : OneF nlC := ⟨fun _ => inferInstanceAs (OneL [_])⟩
instance : LenF nlC 1 := ⟨fun _ => rfl⟩
theorem nlImp (Z0 : Nat → Option Obj) (G : Nat → Option Obj) (v : Value) (h : (AV.sl 1 nlC [[]]).P G v) : (gT Z0 [[]]).P G v := by
 obtain ⟨a, c, e, hc, hs⟩ := h
 refine ⟨a, c, e, hc, fun i hi => ?_⟩
 obtain ⟨b, o, e1, e2⟩ := hs i hi
 refine ⟨b, o, e1, fun j av ej => ?_⟩
 match i, hi, j, ej with
 | 0, _, 0, ej =>
  obtain ⟨u, h1, h2⟩ := e2 0 _ rfl
  have : av = AV.slO Z0 3 [] := by simpa [lsC] using ej.symm
  subst this
  exact ⟨u, h1, .inl ⟨h2, rfl⟩⟩
 | 0, _, j + 1, ej => simp [lsC] at ej
theorem lists_con (Z0 : Nat → Option Obj) (id hs : Int) (st fo : List Int) (pb mv : Value) (l1 : st.length ≤ 900) (l2 : fo.length ≤ 900) : Con Tryd.prog 100 [.agg (pairC id hs st fo (leftF pb mv st fo))] [.gh Z0] (fun x y => ∃ kv pt, x = .clo 118 (tcap id hs st fo pb mv kv pt) ∧ y = TMEM Z0 id hs st fo pb mv kv pt) := by
 refine con_of Tryd.func100 rfl (enters_of Tryd.func100 (by kernel_rfl) rfl) rfl ?_; intro n w0 F0 G0
 refine zS ?_;repeat(refine yA ?_;intro p hp;refine zS ?_)
 (apply wl_mmake keyPl (gT Z0); exact rfl; intro kv hkv)
 refine zS ?_;repeat(refine yA ?_;intro p hp;refine zS ?_)
 (apply wl_litF nlC (xs := [([] : List Int)]); exact inferInstance; exact inferInstance; exact inferInstance; (apply Elems.cons; exact rfl; exact inferInstance; exact rfl; exact Elems.nil); exact rfl; decide; exact rfl)
 refine WL_as' (av' := gT Z0 (tellT st fo st.length fo.length)) 15 rfl (fun G v h => by rw [tellT_end]; exact nlImp Z0 G v h) ?_
 (apply wl_minsert keyPl (st.length, fo.length) (tellT st fo st.length fo.length) Tryd.underlying187; exact rfl; exact zM; exact rfl; exact kvPl st.length fo.length; exact ⟨by omega, by omega⟩; exact rfl; exact Nat.zero_le _)
 (apply wl_move; exact rfl; exact rfl)
 refine yA ?_
 intro p3 hp3
 (apply wl_store (j := 0); (first | exact .inl rfl | exact .inr ⟨rfl, rfl⟩); exact zM; exact rfl; exact inferInstance; exact inferInstance; exact inferInstance; exact rfl; exact (of_decide_eq_true rfl))
 refine WL_nil ?_
 (repeat (first | refine th_norm ?_ | refine th_exit ?_ | refine th_ret ?_ | refine bl_norm ?_ | refine bl_eq ?_ | refine bl_ne rfl ?_ | refine bl_ret ?_ | refine rt_norm ?_ | refine rt_ret ?_))
 (apply W_frzb 3 1; exact rfl; exact zN)
 (apply W_frzb 1 5; exact rfl; exact zN)
 refine zS ?_;repeat(refine yA ?_;intro p hp;refine zS ?_)
 have hf0 : OkM st.length fo.length (tellT st fo) (putM [] (st.length, fo.length) (tellT st fo st.length fo.length)) ∧ (getM (putM ([] : List ((Nat × Nat) × List (List Int))) (st.length, fo.length) (tellT st fo st.length fo.length)) (st.length, fo.length)).isSome = true := ⟨OkM.put OkM.nil (Nat.le_refl _) (Nat.le_refl _), by rw [getM_put]; simp⟩
 refine Res_mkFact hf0 ?_
 refine Res_mkExs (h := memHT Z0 kv st fo) _ yC ?_
 (apply resK1; exact rfl; exact rfl; exact ⟨kv, p, rfl, rfl⟩; exact yC)
def cmbL (T : Nat → Nat → List (List Int)) (xs : List Go.Proofs.YthddoikmgpgakaaDoor.St) : List (List Int) := xs.flatMap fun x => (notchesL x).flatMap fun n => (T x.i x.k).map (preL n)
theorem cmbL_snoc (T : Nat → Nat → List (List Int)) (xs : List Go.Proofs.YthddoikmgpgakaaDoor.St) (x : Go.Proofs.YthddoikmgpgakaaDoor.St) : cmbL T (xs ++ [x]) = cmbL T xs ++ (notchesL x).flatMap fun n => (T x.i x.k).map (preL n) := by
 unfold cmbL
 rw [List.flatMap_append]; simp
theorem best_len (st fo : List Int) (i k : Nat) : (bestL st fo i k).length ≤ 3 := by
 unfold bestL
 refine Nat.le_trans (List.length_filter_le _ _) ?_
 rw [stepsL, List.length_append, List.length_append]
 have h1 := step1_len st fo i k
 have h2 := step2_len st i k
 have h3 : (step3 fo i k).length ≤ 1 := by unfold step3; split <;> simp
 omega
theorem notchesL_len (x : Go.Proofs.YthddoikmgpgakaaDoor.St) : (notchesL x).length ≤ 2 := by unfold notchesL; split <;> simp
structure TlOk (st fo : List Int) (i k : Nat) : Prop where
 len : (tellT st fo i k).length ≤ 201
 each : ∀ r ∈ tellT st fo i k, r.length ≤ 1800
theorem tlOk {st fo : List Int} (hs : okN st = true) (hf : okN fo = true) (l1 : st.length ≤ 900) (l2 : fo.length ≤ 900) {i k : Nat} (hi : i ≤ st.length) (hk : k ≤ fo.length) : TlOk st fo i k := by
 have h := tellT_fst hs hf hi hk
 refine ⟨h.len, fun r hr => ?_⟩
 have := (h.sub r hr).length_le
 rw [List.length_drop, List.length_drop] at this
 omega
theorem tell_ne' {st fo : List Int} (hs : okN st = true) (hf : okN fo = true) {i k : Nat} (hi : i ≤ st.length) (hk : k ≤ fo.length) : tellT st fo i k ≠ [] := fun e => by
 have h := tellT_fst hs hf hi hk
 have hT : TrueL (st.drop i) (fo.drop k) (st.drop i) := by unfold TrueL; rw [dist_self]; omega
 rcases h.all _ hT with g | ⟨g, _⟩
 ·rw [e] at g; cases g
 ·rw [e] at g; cases g
theorem cmbL_ne {st fo : List Int} (hs : okN st = true) (hf : okN fo = true) {i k : Nat} (hi : i ≤ st.length) (hk : k ≤ fo.length) (hne : ¬ (i = st.length ∧ k = fo.length)) : cmbL (tellT st fo) (bestL st fo i k) ≠ [] := fun e => by
 obtain ⟨x, t, hx⟩ := List.exists_cons_of_ne_nil (best_ne hs hf hi hk (by omega))
 have hm : x ∈ bestL st fo i k := by rw [hx]; simp
 have hl := step_less (mem_best.1 hm).1 hi hk
 obtain ⟨r, t2, hr⟩ := List.exists_cons_of_ne_nil (tell_ne' hs hf hl.1 hl.2.1)
 have : preL x.s r ∈ cmbL (tellT st fo) (bestL st fo i k) := by
  refine List.mem_flatMap.2 ⟨x, hm, List.mem_flatMap.2 ⟨x.s, ?_, List.mem_map.2 ⟨r, by rw [hr]; simp, rfl⟩⟩⟩
  unfold notchesL; split <;> simp
 rw [e] at this; cases this
theorem cmbL_len {st fo : List Int} : ∀ (xs : List Go.Proofs.YthddoikmgpgakaaDoor.St), (∀ x ∈ xs, TlOk st fo x.i x.k) → (cmbL (tellT st fo) xs).length ≤ 402 * xs.length ∧ ∀ l ∈ cmbL (tellT st fo) xs, l.length ≤ 1801
 | [], _ => ⟨Nat.zero_le _, fun _ h => by cases h⟩
 | x :: xs, h => by
  obtain ⟨h1, h2⟩ := cmbL_len xs fun y hy => h y (by simp [hy])
  have hx := h x (by simp)
  have hn := notchesL_len x
  have e : cmbL (tellT st fo) (x :: xs) = ((notchesL x).flatMap fun n => (tellT st fo x.i x.k).map (preL n)) ++ cmbL (tellT st fo) xs := rfl
  have e2 : ((notchesL x).flatMap fun n => (tellT st fo x.i x.k).map (preL n)).length = (notchesL x).length * (tellT st fo x.i x.k).length := by
   rw [List.length_flatMap]
   simp only [List.length_map]
   rw [List.map_const', List.sum_replicate_nat]
  have h3 : (notchesL x).length * (tellT st fo x.i x.k).length ≤ 2 * 201 := Nat.mul_le_mul hn hx.len
  rw [e]
  refine ⟨by rw [List.length_append, e2, List.length_cons]; omega, fun l hl => ?_⟩
  rcases List.mem_append.1 hl with hl | hl
  ·obtain ⟨n, _, hl⟩ := List.mem_flatMap.1 hl
   obtain ⟨r, hr, rfl⟩ := List.mem_map.1 hl
   have := hx.each r hr
   unfold preL
   split <;> simp <;> omega
  ·exact h2 l hl
theorem tell_con (Z0 : Nat → Option Obj) (id hs : Int) (st fo : List Int) (pb mv kv pt : Value) (o1 : okN st = true) (o2 : okN fo = true) (l1 : st.length ≤ 900) (l2 : fo.length ≤ 900) : ∀ (m i k : Nat), i ≤ st.length → k ≤ fo.length → (st.length - i) + (fo.length - k) ≤ m →
  Con Tryd.prog 118 ([.agg (plC i k)] ++ tcap id hs st fo pb mv kv pt) (MEM id hs st fo pb mv ++ TMEM Z0 id hs st fo pb mv kv pt) (Is (.sl 1 (sloC Z0 3) (tellT st fo i k)) (MEM id hs st fo pb mv ++ TMEM Z0 id hs st fo pb mv kv pt))
 | m, i, k, hi, hk, hm => by
  refine con_of Tryd.func118 rfl (enters_of Tryd.func118 (by kernel_rfl) rfl) rfl ?_; intro n w0 F0 G0
  refine W_exs (h := memHT Z0 kv st fo) zN (fun es => ?_)
  refine W_fact zN (fun hoke => ?_)
  have hok := hoke.1
  refine zS ?_;repeat(refine yA ?_;intro p hp;refine zS ?_)
  (apply wl_look2 (z := .slice none 0 0) keyPl (i, k) Tryd.underlying187 (fun w => by kernel_rfl); exact rfl; exact zM; exact rfl; exact kvPl i k; exact ⟨by omega, by omega⟩; exact rfl)
  cases hg : getM es (i, k) with
  | some v =>
   have hv := hok.get hg
   subst hv
   dsimp only [lkA, gT, Option.isSome]
   refine zS ?_;repeat(refine yA ?_;intro p hp;refine zS ?_)
   refine Res_mkFact hoke ?_
   refine Res_mkExs (h := memHT Z0 kv st fo) es yC ?_
   (apply resK1; exact rfl; exact rfl; exact ⟨rfl, rfl⟩; exact yC)
  | none =>
   have hne : ¬ (i = st.length ∧ k = fo.length) := by
    rintro ⟨rfl, rfl⟩
    have := hoke.2
    rw [hg] at this
    cases this
   dsimp only [lkA, Option.isSome]
   refine zS ?_;repeat(refine yA ?_;intro p hp;refine zS ?_)
   rename_i p4 hp4
   (apply wl_callP ((bestP_con id hs st fo (leftF pb mv st fo) i k)); exact rfl; exact yC; exact rfl)
   rintro _ _ ⟨q9, p9, rfl, rfl⟩
   (apply WL_frzC 24 0 5; exact rfl; exact rfl; exact zN)
   (apply WL_frzC 24 1 2; exact rfl; exact rfl; exact zN)
   refine WL_mkFact hoke ?_
   refine WL_mkExs (h := memHT Z0 kv st fo) es yC ?_
   have IT := best_iter id hs st fo pb mv i k hi hk l1 l2
   have hmem : ∀ x ∈ bestL st fo i k, x.i ≤ st.length ∧ x.k ≤ fo.length ∧ (st.length - x.i) + (fo.length - x.k) < (st.length - i) + (fo.length - k) := fun x h => step_less (mem_best.1 h).1 hi hk
   have hxl := best_len st fo i k
   generalize hxs : bestL st fo i k = xs at IT hmem hxl
   have hto : ∀ x ∈ xs, TlOk st fo x.i x.k := fun x hx => tlOk o1 o2 l1 l2 (hmem x hx).1 (hmem x hx).2.1
   have hcmb := fun j => cmbL_len (st := st) (fo := fo) (xs.take j) fun x hx => hto x (List.mem_of_mem_take hx)
   refine zS ?_;repeat(refine yA ?_;intro p hp;refine zS ?_)
   revert p
   intro p8 hp8
   refine W_weak (s' := ⟨[(1, .fp 1 [.val kv]), (2, .fp 5 (pairC id hs st fo (leftF pb mv st fo))), (3, .val pt), (4, .val p4), (8, .val p8), (24, .clo 108 [.fp 5 (pairC id hs st fo (leftF pb mv st fo)), .fp 2 (plC i k)])], [.box p8 [.val (.slice none 0 0)] 93, .row (.slice none 0 0) 22 1 (sloC Z0 3) [], .gh Z0, .box p4 (plC i k) 137, memT Z0 kv st fo, .box pt [.clo 118 (tcap id hs st fo pb mv kv pt)] 162, memL mv st fo, .box pb (pairC id hs st fo (leftF pb mv st fo)) 134]⟩) (fun _ _ st => st_sub2 (st_nil 22 1 (sloC Z0 3) st) zR zP) ?_
   refine W_range (own := MEM id hs st fo pb mv) (by exact rfl) IT yC (fun j (b : Nat × Value) => b.1 = j) (fun b => [.box p8 [.val b.2] 93, .row b.2 22 1 (sloC Z0 3) (cmbL (tellT st fo) (xs.take b.1)), .gh Z0, .box p4 (plC i k) 137, memT Z0 kv st fo, .box pt [.clo 118 (tcap id hs st fo pb mv kv pt)] 162]) (fun _ _ => False) (fun _ _ => []) (0, .slice none 0 0) (by exact rfl) zP (by intro _ _ _; exact rfl) (by exact rfl) ?_ ?_ (fun _ _ _ h => h.elim)
   ·intro lr m' w1 F1 G1 hrec j hj b u hI
    obtain ⟨j', v⟩ := b
    have hI' : j' = j := hI
    subst hI'
    obtain ⟨x1, x2, x3⟩ := hmem _ (List.getElem_mem hj)
    have hst : xs.take (j' + 1) = xs.take j' ++ [xs[j']] := by rw [List.take_succ_eq_append_getElem hj]
    have hsn := cmbL_snoc (tellT st fo) (xs.take j') xs[j']
    rw [← hst] at hsn
    have ht := hto _ (List.getElem_mem hj)
    obtain ⟨hc1, hc2⟩ := hcmb j'
    have hc3 : (xs.take j').length ≤ 3 := by rw [List.length_take]; omega
    have NC := notches_con xs[j']
    have hnl := notchesL_len xs[j']
    have IH := tell_con Z0 id hs st fo pb mv kv pt o1 o2 l1 l2 (m - 1) xs[j'].i xs[j'].k x1 x2 (by omega)
    generalize notchesL xs[j'] = NS at hsn NC hnl
    have hTl := ht.len
    have hTe := ht.each
    generalize tellT st fo xs[j'].i xs[j'].k = L at hsn IH hTl hTe
    dsimp only [zipR, List.cons_append, List.nil_append]
    generalize cmbL (tellT st fo) (xs.take j') = C0 at hsn hc1 hc2 ⊢
    refine zS ?_;repeat(refine yA ?_;intro p hp;refine zS ?_)
    intro w2 F2 G2 hrec2
    refine zS ?_;repeat(refine yA ?_;intro p hp;refine zS ?_)
    revert p
    intro pz hpz
    (first | (apply wl_call (NC); exact rfl; exact rfl) | (apply wl_callR (NC); exact rfl; exact zM; exact rfl))
    refine zS ?_;repeat(refine yA ?_;intro p hp;refine zS ?_)
    refine W_loopJ (fun (a : Nat × Value) => ⟨[(1, .fp 1 [.val kv]), (2, .fp 5 (pairC id hs st fo (leftF pb mv st fo))), (3, .val pt), (4, .val p4), (8, .val p8), (9, .val pz), (27, .sl 1 iC NS), (28, .val (.int .i64 NS.length)), (29, .val (.int .i64 a.1))], [.box pz (stC xs[j']) 142, .box p8 [.val a.2] 93, .row a.2 22 1 (sloC Z0 3) (C0 ++ ((NS.take a.1).flatMap fun n => L.map (preL n))), .gh Z0, .box p4 (plC i k) 137, memT Z0 kv st fo, .box pt [.clo 118 (tcap id hs st fo pb mv kv pt)] 162, memL mv st fo, .box pb (pairC id hs st fo (leftF pb mv st fo)) 134]⟩) (fun a => a.1 ≤ NS.length) (fun a => NS.length - a.1) (0, v) (fun _ _ st => st_sub2 st zR (by dsimp only; rw [List.take_zero, List.flatMap_nil, List.append_nil]; exact zP)) (Nat.zero_le _) ?_
    rintro ⟨a, v2⟩ ha
    dsimp only at ha ⊢
    have hal : ((NS.take a).flatMap fun n => L.map (preL n)).length ≤ 402 := by
     rw [List.length_flatMap]
     simp only [List.length_map]
     rw [List.map_const', List.sum_replicate_nat, List.length_take]
     exact Nat.le_trans (Nat.mul_le_mul (show min a NS.length ≤ 2 by omega) hTl) (by decide)
    refine zS ?_;repeat(refine yA ?_;intro p hp;refine zS ?_)
    refine w_cond rfl (fun hlt => ?_) (fun hlt => ?_)
    ·have ha' : a < NS.length := by simpa using hlt
     have hna : (NS.take (a + 1)).flatMap (fun n => L.map (preL n)) = (NS.take a).flatMap (fun n => L.map (preL n)) ++ L.map (preL NS[a]) := by
      rw [List.take_succ_eq_append_getElem ha', List.flatMap_append]; simp
     generalize (NS.take a).flatMap (fun n => L.map (preL n)) = C1 at hna hal
     refine zS ?_;repeat(refine yA ?_;intro p hp;refine zS ?_)
     (apply wl_loadP (ds := plC xs[j'].i xs[j'].k); (first | exact .inl rfl | exact .inr ⟨rfl, rfl⟩); exact zM; exact rfl; exact rfl; exact rfl)
     (apply wl_callVP IH; exact rfl; exact rfl; exact yC; exact rfl)
     rintro _ _ ⟨rfl, rfl⟩
     refine zS ?_;repeat(refine yA ?_;intro p hp;refine zS ?_)
     refine W_loopJ (fun (c : Nat × Value) => ⟨[(1, .fp 1 [.val kv]), (2, .fp 5 (pairC id hs st fo (leftF pb mv st fo))), (3, .val pt), (4, .val p4), (8, .val p8), (9, .val pz), (27, .sl 1 iC NS), (28, .val (.int .i64 NS.length)), (29, .val (.int .i64 a)), (11, .val (.int .i64 NS[a])), (36, .sl 1 (sloC Z0 3) L), (37, .val (.int .i64 L.length)), (38, .val (.int .i64 c.1))], [.box pz (stC xs[j']) 142, .box p8 [.val c.2] 93, .row c.2 22 1 (sloC Z0 3) (C0 ++ C1 ++ (L.take c.1).map (preL NS[a])), .gh Z0, .box p4 (plC i k) 137, memT Z0 kv st fo, .box pt [.clo 118 (tcap id hs st fo pb mv kv pt)] 162, memL mv st fo, .box pb (pairC id hs st fo (leftF pb mv st fo)) 134]⟩) (fun c => c.1 ≤ L.length) (fun c => L.length - c.1) (0, v2) (fun _ _ st => st_sub2 st zR (by dsimp only; rw [List.take_zero, List.map_nil, List.append_nil]; exact zP)) (Nat.zero_le _) ?_
     rintro ⟨c, v3⟩ hc
     dsimp only at hc ⊢
     refine zS ?_;repeat(refine yA ?_;intro p hp;refine zS ?_)
     refine w_cond rfl (fun hlt2 => ?_) (fun hlt2 => ?_)
     ·have hc' : c < L.length := by simpa using hlt2
      have hr := hTe _ (List.getElem_mem hc')
      have htk : (L.take (c + 1)).map (preL NS[a]) = (L.take c).map (preL NS[a]) ++ [preL NS[a] L[c]] := by
       rw [List.take_succ_eq_append_getElem hc', List.map_append]; rfl
      have hml : ((L.take c).map (preL NS[a])).length ≤ 201 := by rw [List.length_map, List.length_take]; omega
      have hCl : (C0 ++ C1 ++ (L.take c).map (preL NS[a])).length ≤ 2000 := by rw [List.length_append, List.length_append]; omega
      generalize hCC : C0 ++ C1 ++ (L.take c).map (preL NS[a]) = CC at hCl
      by_cases hn : 0 < NS[a]
      ·have hpre : preL NS[a] L[c] = [NS[a]] ++ L[c] := by unfold preL; rw [if_pos hn]; rfl
       refine zS ?_;repeat(refine yA ?_;intro p hp;refine zS ?_)
       rw [decide_eq_true (show NS[a] > 0 from hn)]
       refine zS ?_;repeat(refine yA ?_;intro p hp;refine zS ?_)
       (apply wl_lit iC; exact inferInstance; exact inferInstance; exact inferInstance; exact zE; exact rfl; (first | exact (of_decide_eq_true rfl) | decide | (simp; done) | (simp; omega)); exact rfl)
       intro v4
       refine zS ?_;repeat(refine yA ?_;intro p hp;refine zS ?_)
       refine WL_as' 46 rfl (fun _ _ h => slO_sl h) ?_
       (first | (apply wl_append; exact rfl; exact rfl; exact zN; exact inferInstance; exact inferInstance; (first | omega | (simp; omega)); exact rfl) | (apply wl_appendN; exact rfl; exact rfl; exact inferInstance; exact inferInstance; (first | omega | (simp; omega)); exact rfl))
       intro v6
       (apply WL_frzO 47; exact rfl; exact zN; exact zN)
       refine zS ?_;repeat(refine yA ?_;intro p hp;refine zS ?_)
       (apply wl_litF (sloC Z0 3); exact inferInstance; exact inferInstance; exact inferInstance; exact zE; exact rfl; (first | exact (of_decide_eq_true rfl) | decide | (simp; done) | (simp; omega)); exact rfl)
       (first | (apply wl_append; exact rfl; exact rfl; exact zN; exact inferInstance; exact inferInstance; (first | omega | (simp; omega)); exact rfl) | (apply wl_appendN; exact rfl; exact rfl; exact inferInstance; exact inferInstance; (first | omega | (simp; omega)); exact rfl))
       intro v5
       refine WL_one At.here (fun hone5 => ?_)
       refine zS ?_;repeat(refine yA ?_;intro p hp;refine zS ?_)
       refine ⟨(c + 1, v5), fun _ _ st => st_sub2 st zR (by dsimp only; rw [htk, ← List.append_assoc, hpre, hCC]; exact zP), hc', ?_⟩
       dsimp only; omega
      ·have hpre : preL NS[a] L[c] = L[c] := by unfold preL; rw [if_neg hn]
       refine zS ?_;repeat(refine yA ?_;intro p hp;refine zS ?_)
       rw [decide_eq_false (show ¬ NS[a] > 0 from hn)]
       refine zS ?_;repeat(refine yA ?_;intro p hp;refine zS ?_)
       (apply wl_litF (sloC Z0 3); exact inferInstance; exact inferInstance; exact inferInstance; exact zE; exact rfl; (first | exact (of_decide_eq_true rfl) | decide | (simp; done) | (simp; omega)); exact rfl)
       (first | (apply wl_append; exact rfl; exact rfl; exact zN; exact inferInstance; exact inferInstance; (first | omega | (simp; omega)); exact rfl) | (apply wl_appendN; exact rfl; exact rfl; exact inferInstance; exact inferInstance; (first | omega | (simp; omega)); exact rfl))
       intro v5
       refine WL_one At.here (fun hone5 => ?_)
       refine zS ?_;repeat(refine yA ?_;intro p hp;refine zS ?_)
       refine ⟨(c + 1, v5), fun _ _ st => st_sub2 st zR (by dsimp only; rw [htk, ← List.append_assoc, hpre, hCC]; exact zP), hc', ?_⟩
       dsimp only; omega
     ·have hcc : c = L.length := by simp at hlt2; omega
      subst hcc
      rw [List.take_length, List.append_assoc, ← hna]
      refine zS ?_;repeat(refine yA ?_;intro p hp;refine zS ?_)
      refine ⟨(a + 1, v3), fun _ _ st => st_sub2 st zR zP, ha', ?_⟩
      dsimp only; omega
    ·have haa : a = NS.length := by simp at hlt; omega
     subst haa
     rw [List.take_length, ← hsn]
     refine zS ?_;repeat(refine yA ?_;intro p hp;refine zS ?_)
     refine ⟨(j' + 1, v2), rfl, fun a w st => st_sub2 st zR zP⟩
   ·rintro ⟨j, v⟩ hI
    have hI' : j = xs.length := hI
    subst hI'
    dsimp only
    rw [List.take_length]
    obtain ⟨hc1, hc2⟩ := hcmb xs.length
    rw [List.take_length] at hc1 hc2
    have hCne := cmbL_ne o1 o2 hi hk hne
    rw [hxs] at hCne
    have hCl : (cmbL (tellT st fo) xs).length ≤ 2000 := by omega
    have hCe : ∀ l ∈ cmbL (tellT st fo) xs, l.length ≤ 1000000 := fun l hl => by have := hc2 l hl; omega
    have hcc : combL st fo (tellT st fo) i k = cmbL (tellT st fo) xs := by rw [← hxs]; rfl
    (repeat (first | refine th_norm ?_ | refine th_exit ?_ | refine th_ret ?_ | refine bl_norm ?_ | refine bl_eq ?_ | refine bl_ne rfl ?_ | refine bl_ret ?_ | refine rt_norm ?_ | refine rt_ret ?_))
    refine W_exs (h := memHT Z0 kv st fo) zN (fun es2 => ?_)
    refine W_fact zN (fun hok2 => ?_)
    refine zS ?_;repeat(refine yA ?_;intro p hp;refine zS ?_)
    (apply wl_callP ((sortL_con Z0 v _ hCne (by omega) hCe)); exact rfl; exact yC; exact rfl)
    rintro _ _ ⟨rfl, ys, hperm, hsrt, rfl⟩
    have hyl : ys.length ≤ 2000 := by rw [hperm.length_eq]; exact hCl
    have hye : ∀ l ∈ ys, l.length ≤ 1000000 := fun l hl => hCe l (hperm.mem_iff.1 hl)
    have hM : (cmpL ys).take 201 = tellT st fo i k := tell_eq o1 o2 hi hk hne ((cmp_fst hsrt).iff fun l => by rw [hcc]; exact hperm.mem_iff)
    refine zS ?_;repeat(refine yA ?_;intro p hp;refine zS ?_)
    (apply wl_callP ((compact_con Z0 v ys (by omega) hye)); exact rfl; exact yC; exact rfl)
    rintro _ _ ⟨v7, rfl, rfl⟩
    refine WL_one At.here (fun hone7 => ?_)
    generalize cmpL ys = zs at hM
    refine zS ?_;repeat(refine yA ?_;intro p hp;refine zS ?_)
    (apply W_frzX p8 0; exact zN; exact rfl; exact zM; exact rfl)
    have hmin : min (zs.length : Int) 201 = ((min zs.length 201 : Nat) : Int) := by omega
    have hMz : gT Z0 (tellT st fo i k) = .sl 1 (sloC Z0 3) ((zs.take (min zs.length 201)).drop 0) := by
     unfold gT
     rw [← hM, List.drop_zero]
     by_cases h : zs.length ≤ 201
     ·rw [Nat.min_eq_left h, List.take_of_length_le h, List.take_of_length_le (Nat.le_refl _)]
     ·rw [Nat.min_eq_right (by omega)]
    refine W_run 7 [58, 59, 60, 61, 62, 63, 64] [0, 1, 2, 3, 4, 5, 6] Cut.nil rfl goFlt mixedS (by kernel_rfl) rfl ?_
    refine Run.pv [] [] rfl (fun vs => by apply ltr_pk; exact goPk; (refine ltr ?_; apply lt_loadE1'; exact rfl; exact rfl; exact rfl)) goApp ?_
    refine rpv [] [] ?_
    refine rpv [] [] ?_
    refine rpv [] [] ?_
    refine rpv [3] [] ?_
    refine Run.pv [4] [] rfl (fun vs => by apply ltr_pk; exact goPk; (refine ltr ?_; apply LT_int ((min zs.length 201 : Nat) : Int); apply lt_min2; exact rfl; exact rfl; exact hmin)) goApp ?_
    refine Run.pv [2, 5] [] rfl (fun vs => by apply ltr_pk; exact goPk; (refine ltr ?_; apply lt_slice (l := 0) (h := min zs.length 201); exact rfl; exact .inr ⟨rfl, rfl⟩; exact rfl; exact .inl rfl; exact rfl; exact Nat.zero_le _; exact Nat.min_le_left _ _)) goApp ?_
    refine ⟨⟨by kernel_rfl, by kernel_rfl⟩, fun vs => ?_⟩
    apply WL_auto [0, 1, 6]
    ·exact goPk
    ·exact goNrm
    ·kernel_rfl
    ·kernel_rfl
    refine zS ?_;repeat(refine yA ?_;intro p hp;refine zS ?_)
    rw [← hMz]
    (apply wl_mput keyPl (i, k) (tellT st fo i k) Tryd.underlying187; exact rfl; exact zM; exact rfl; exact kvPl i k; exact ⟨by omega, by omega⟩; exact rfl; exact hok2.1.len l1 l2)
    refine zS ?_;repeat(refine yA ?_;intro p hp;refine zS ?_)
    (apply wl_look1 (z := .slice none 0 0) keyPl (i, k) Tryd.underlying187 (fun w => by kernel_rfl); exact rfl; exact zM; exact rfl; exact kvPl i k; exact ⟨by omega, by omega⟩; exact rfl)
    rw [getM_put, if_pos rfl]
    dsimp only [lkA, gT]
    refine zS ?_;repeat(refine yA ?_;intro p hp;refine zS ?_)
    have hf2 : OkM st.length fo.length (tellT st fo) (putM es2 (i, k) (tellT st fo i k)) ∧ (getM (putM es2 (i, k) (tellT st fo i k)) (st.length, fo.length)).isSome = true := ⟨hok2.1.put hi hk, by
     rw [getM_put]
     split
     ·rfl
     ·exact hok2.2⟩
    refine Res_mkFact hf2 ?_
    refine Res_mkExs (h := memHT Z0 kv st fo) _ yC ?_
    (apply resK1; exact rfl; exact rfl; exact ⟨rfl, rfl⟩; exact yC)
theorem sameI1_con (xs ys : List Int) (hl : xs.length ≤ 1000000) (hl2 : ys.length ≤ 1000000) : Con Tryd.prog 81 [.sl 1 iC xs, .sl 1 iC ys] [] (Is (.val (.bool (decide (xs = ys)))) []) := by
 refine con_of Tryd.func81 rfl (enters_of Tryd.func81 (by kernel_rfl) rfl) rfl ?_; intro n w0 F0 G0
 refine zS ?_
 refine w_cond rfl (fun hne => ?_) (fun hne => ?_)
 ·have hne' : xs ≠ ys := by intro e; rw [e] at hne; simp at hne
  refine zS ?_
  (apply res1; exact rfl; exact rfl; exact ⟨(congrArg (fun b => AV.val (Value.bool b)) (by simp [hne'])), rfl⟩)
 ·have hlen : xs.length = ys.length := by simp at hne; omega
  refine zS ?_
  refine W_loopJ (fun (k : Nat) => ⟨[(0, .sl 1 iC xs), (1, .sl 1 iC ys), (5, .val (.int .i64 k))], []⟩) (fun k => k ≤ xs.length ∧ xs.take k = ys.take k) (fun k => xs.length - k) 0 (fun _ _ st => st_sub2 st zR zP) ?hj0 ?round
  case hj0 => simp
  case round =>
   rintro k ⟨hk, hall⟩
   refine zS ?_
   refine w_cond rfl (fun hlt => ?_) (fun hlt => ?_)
   ·have hlt' : k < xs.length := by simpa using hlt
    have hlt2 : k < ys.length := by omega
    have hq1 : xs[k]? = some xs[k] := List.getElem?_eq_getElem hlt'
    have hq2 : ys[k]? = some ys[k] := List.getElem?_eq_getElem hlt2
    refine zS ?_
    refine W_run 8 [17, 18, 19, 20, 21, 22, 23, 24] [0, 1, 2, 3, 4, 5, 6, 7] Cut.nil rfl goFlt mixedS (by kernel_rfl) rfl ?_
    refine rpv [] [] ?_
    refine rpv [] [] ?_
    refine rpv [0, 1] [] ?_
    refine rpv [2] [] ?_
    refine rpv [] [] ?_
    refine rpv [] [] ?_
    refine rpv [4, 5] [] ?_
    refine rpv [6] [] ?_
    refine ⟨⟨by kernel_rfl, by kernel_rfl⟩, fun vs => ?_⟩
    apply WL_auto [3, 7]
    ·exact goPk
    ·exact goNrm
    ·kernel_rfl
    ·kernel_rfl
    refine zS ?_
    refine w_cond rfl (fun hg => ?_) (fun hg => ?_)
    ·have hne' : xs ≠ ys := by intro e; subst e; simp at hg
     refine zS ?_
     (apply res1; exact rfl; exact rfl; exact ⟨(congrArg (fun b => AV.val (Value.bool b)) (by simp [hne'])), rfl⟩)
    ·refine zS ?_
     (refine ⟨k + 1, fun _ _ st => st_sub2 st ?_ ?_, ?_, ?_⟩; exact zR; exact zP)
     ·refine ⟨by omega, ?_⟩
      rw [List.take_succ_eq_append_getElem hlt', List.take_succ_eq_append_getElem hlt2, hall]
      simp at hg; rw [hg]
     ·omega
   ·refine zS ?_
    have hkk : k = xs.length := by simp at hlt; omega
    have he : xs = ys := by
     rw [List.take_of_length_le (by omega), List.take_of_length_le (by omega)] at hall; exact hall
    (apply res1; exact rfl; exact rfl; exact ⟨(congrArg (fun b => AV.val (Value.bool b)) (by simp [he])), rfl⟩)
theorem sameI_con (xs ys : List Int) (hl : xs.length ≤ 1000000) (hl2 : ys.length ≤ 1000000) : Con Tryd.prog 39 [.sl 1 iC xs, .sl 1 iC ys] [] (Is (.val (.bool (decide (xs = ys)))) []) := by
 refine con_of Tryd.func39 rfl (enters_of Tryd.func39 (by kernel_rfl) rfl) rfl ?_; intro n w0 F0 G0
 refine zS ?_
 (first | (apply wl_call (sameI1_con xs ys hl hl2); exact rfl; exact rfl) | (apply wl_callR (sameI1_con xs ys hl hl2); exact rfl; exact zM; exact rfl))
 refine zS ?_
 (apply res1; exact rfl; exact rfl; exact ⟨rfl, rfl⟩)
theorem hsP.mem {G : Nat → Option Obj} {w : World} {h : HA} : ∀ {hs : List HA} {F : List Nat}, h ∈ hs → hsP hs G F w → ∃ F1, (∀ b ∈ F1, b ∈ F) ∧ h.P G F1 w
 | x :: hs, F, hm, ⟨A, B, e, h1, h2⟩ => by
  rcases List.mem_cons.1 hm with rfl | hm
  ·exact ⟨A, fun b hb => e.mem_iff.2 (by simp [hb]), h1⟩
  ·obtain ⟨F1, k1, k2⟩ := hsP.mem hm h2
   exact ⟨F1, fun b hb => e.mem_iff.2 (by simp [k1 b hb]), k2⟩
 | [], _, hm, _ => by cases hm
def tsOwn (u : Value) (L : List TO) : HA := .pack [.row u 24 4 toC L, .pack (L.flatMap toR)]
theorem ts_thaw (u : Value) (L : List TO) : Thaw (tsOwn u L) (.val u) (.sl 4 tC (L.map (·.1))) := ⟨fun G F w h hle v hv => by
 have hv' : v = u := hv
 subst hv'
 obtain ⟨A, B, e, h1, C, D, e2, h2, h3⟩ := h
 have hsub : ∀ b ∈ A, b ∈ F := fun b hb => e.mem_iff.2 (by simp [hb])
 have hsub2 : ∀ b ∈ C, b ∈ F := fun b hb => e.mem_iff.2 (by simp [e2.mem_iff.2 (show b ∈ C ++ D by simp [hb])])
 refine row_view h1 hsub (by rw [List.length_map]) fun i i1 i2 j av' ej => ?_
 rw [List.getElem_map] at ej
 have r1 : HA.row L[i].2.1.1 3 1 iC L[i].1.st ∈ L.flatMap toR := List.mem_flatMap.2 ⟨L[i], List.getElem_mem i1, by simp [toR]⟩
 have r2 : HA.row L[i].2.2.1 3 1 iC L[i].1.fo ∈ L.flatMap toR := List.mem_flatMap.2 ⟨L[i], List.getElem_mem i1, by simp [toR]⟩
 obtain ⟨F1, s1, q1⟩ := hsP.mem r1 h2
 obtain ⟨F2, s2, q2⟩ := hsP.mem r2 h2
 have v1 := row_view1 q1 (fun b hb => hsub2 b (s1 b hb)) hle
 have v2 := row_view1 q2 (fun b hb => hsub2 b (s2 b hb)) hle
 match j, ej with
 | 0, ej => cases ej; exact ⟨_, rfl, fun u hu => hu⟩
 | 1, ej => cases ej; exact ⟨_, rfl, fun u hu => hu⟩
 | 2, ej => cases ej; exact ⟨_, rfl, fun u hu => by have hu' : u = L[i].2.1.1 := hu
                                                    subst hu'; exact v1⟩
 | 3, ej => cases ej; exact ⟨_, rfl, fun u hu => by have hu' : u = L[i].2.2.1 := hu
                                                    subst hu'; exact v2⟩
 | j + 4, ej => simp [tC] at ej⟩
theorem okT_b {t : Tl} (h : okT t.id t.hs t.st t.fo = true) : t.st.length ≤ 12 ∧ t.fo.length ≤ 12 ∧ okN t.st = true ∧ okN t.fo = true := by
 unfold okT at h
 simp only [Bool.and_eq_true, decide_eq_true_eq] at h
 exact ⟨h.1.1.1.2, h.1.1.2, h.1.2, h.2⟩
noncomputable def firstR (t : Tl) : List Int × Int := if okT t.id t.hs t.st t.fo = true then ((tellT t.st t.fo 0 0).headD [], 0) else ([], 70)
noncomputable def listsR (t : Tl) : List (List Int) × Int := if okT t.id t.hs t.st t.fo = true then (if (tellT t.st t.fo 0 0).length > 200 then ([], 4) else (tellT t.st t.fo 0 0, 0)) else ([], 70)
theorem W_mkGh0 {c : Cx} {rs : List (Nat × AV)} {hs : List HA} {Q : Exit → S → Prop} {x : Code} (k : W c x ⟨rs, .gh (fun _ => none) :: hs⟩ Q) : W c x ⟨rs, hs⟩ Q := ⟨fun a w st => k.out a w (by
 obtain ⟨G, F, hI, rr⟩ := st
 exact ⟨G, F, ⟨hI.gin, hI.nd, hI.own, [], F, .refl _, ⟨rfl, fun _ _ h => by cases h⟩, hI.hs⟩, rr⟩)⟩
theorem slONil (Z0 : Nat → Option Obj) (e : TypeId) (er : Int) (G : Nat → Option Obj) (v : Value) (h : (AV.tup [.val (.slice none 0 0), .val (.int .i64 er)]).P G v) : (AV.tup [.slO Z0 e [], .val (.int .i64 er)]).P G v := by
 obtain ⟨vs, e1, h⟩ := h
 match vs, h with
 | [x, y], ⟨h1, h2, _⟩ => exact ⟨[x, y], e1, .inl ⟨h1, rfl⟩, h2, trivial⟩
theorem checkT_con (t : Tl) (h : t.small) : Con Tryd.prog 36 [.agg (tC t)] [HA.tab] (Is (.val (.int .i64 (errT (okT t.id t.hs t.st t.fo)))) [HA.tab]) := by
 refine con_tab (enters_of Tryd.func36 (by kernel_rfl) rfl) fun G vs w hf hG hT => ?_
 match vs, hf with
 | [v], ⟨h', _⟩ =>
  obtain ⟨sa, sc, fa, fc, rfl, g1, g2⟩ := fits_tl hG h'
  exact (check_any t.id t.hs t.st t.fo sa fa sc fc w hT h.1 h.2 g1 g2).mono fun e w' ⟨h, hb⟩ => ⟨_, h, rfl, hb⟩
theorem firstZ_con (t : Tl) (h : t.small) (Z0 : Nat → Option Obj) : Con Tryd.prog 55 [.agg (tC t)] [.gh Z0, HA.tab] (Is (.tup [.slO Z0 3 (firstR t).1, .val (.int .i64 (firstR t).2)]) [.gh Z0, HA.tab]) := by
 have CC := checkT_con t h
 unfold firstR
 cases hok : okT t.id t.hs t.st t.fo with
 | true =>
  rw [hok] at CC
  rw [if_pos rfl]
  obtain ⟨l1, l2, o1, o2⟩ := okT_b hok
  have TN := tell_ne' o1 o2 (Nat.zero_le t.st.length) (Nat.zero_le t.fo.length)
  refine con_of Tryd.func55 rfl (enters_of Tryd.func55 (by kernel_rfl) rfl) rfl ?_; intro n w0 F0 G0
  refine zS ?_;repeat(refine yA ?_;intro p hp;refine zS ?_)
  (first | (apply wl_call (CC); exact rfl; exact rfl) | (apply wl_callR (CC); exact rfl; exact zM; exact rfl))
  refine zS ?_
  (apply wl_callP (halves_con t); exact rfl; exact yC; exact rfl)
  rintro _ _ ⟨pb, mv, rfl, rfl⟩
  (apply wl_callP ((lists_con Z0 t.id t.hs t.st t.fo pb mv (by omega) (by omega))); exact rfl; exact yC; exact rfl)
  rintro _ _ ⟨kv, pt, rfl, rfl⟩
  have TC := tell_con Z0 t.id t.hs t.st t.fo pb mv kv pt o1 o2 (by omega) (by omega) _ 0 0 (Nat.zero_le _) (Nat.zero_le _) (Nat.le_refl _)
  refine zS ?_
  (apply wl_callVP TC; exact rfl; exact rfl; exact yC; exact rfl)
  rintro _ _ ⟨rfl, rfl⟩
  generalize tellT t.st t.fo 0 0 = L at TN ⊢
  have h0 : 0 < L.length := List.length_pos_iff.2 TN
  have hh : L.headD [] = L[0] := by
   cases L with
   | nil => exact absurd rfl TN
   | cons l t => rfl
  rw [hh]
  refine zS ?_
  (apply resK2; exact rfl; exact rfl; exact rfl; exact ⟨rfl, rfl⟩; exact yC)
 | false =>
  rw [hok] at CC
  rw [if_neg (by decide)]
  refine con_of Tryd.func55 rfl (enters_of Tryd.func55 (by kernel_rfl) rfl) rfl ?_; intro n w0 F0 G0
  refine zS ?_;repeat(refine yA ?_;intro p hp;refine zS ?_)
  (first | (apply wl_call (CC); exact rfl; exact rfl) | (apply wl_callR (CC); exact rfl; exact zM; exact rfl))
  refine zS ?_
  refine Res_impP ⟨rfl, rfl⟩ (slONil Z0 3 70) ?_
  (apply resK2; exact rfl; exact rfl; exact rfl; exact ⟨rfl, rfl⟩; exact yC)
theorem first_con (t : Tl) (h : t.small) : Con Tryd.prog 55 [.agg (tC t)] [HA.tab] (fun x y => ∃ u : Value, x = .tup [.val u, .val (.int .i64 (firstR t).2)] ∧ y = [.row u 3 1 iC (firstR t).1, HA.tab]) :=
 Con.own (fun Z0 => firstZ_con t h Z0) (fun _ _ _ h => h)
theorem W_add0 {c : Cx} {rs : List (Nat × AV)} {hs : List HA} {Q : Exit → S → Prop} {x : Code} (h : HA) (hP : ∀ G w, h.P G [] w) (k : W c x ⟨rs, h :: hs⟩ Q) : W c x ⟨rs, hs⟩ Q := ⟨fun a w st => k.out a w (by
 obtain ⟨G, F, hI, rr⟩ := st
 exact ⟨G, F, ⟨hI.gin, hI.nd, hI.own, [], F, .refl _, hP _ _, hI.hs⟩, rr⟩)⟩
theorem fits_slO1 {Z0 : Nat → Option Obj} {e : TypeId} {x : List Int} (G : Nat → Option Obj) (vs : List Value) (h : Fits G [.slO Z0 e x] vs) : Fits G [.sl 1 iC x] vs := by
 match vs, h with
 | [a], ⟨h1, _⟩ => exact ⟨slO_sl h1, trivial⟩
abbrev LO : Type := List Int × OV
def loC (q : LO) : List AV := [.val q.2.1]
instance {q : LO} : OneL (loC q) := inferInstanceAs (OneL [_])
instance : OneF loC := ⟨fun _ => inferInstance⟩
instance : LenF loC 1 := ⟨fun _ => rfl⟩
def loR (q : LO) : List HA := [.row q.2.1 3 1 iC q.1]
theorem listsP_con (t : Tl) (h : t.small) : Con Tryd.prog 57 [.agg (tC t)] [HA.tab] (fun x y => ∃ (u : Value) (L : List LO), L.map (·.1) = (listsR t).1 ∧ x = .tup [.val u, .val (.int .i64 (listsR t).2)] ∧ y = [.row u 22 1 loC L, .pack (L.flatMap loR), HA.tab]) := by
 have CC := checkT_con t h
 unfold listsR
 cases hok : okT t.id t.hs t.st t.fo with
 | true =>
  rw [hok] at CC
  rw [if_pos rfl]
  obtain ⟨l1, l2, o1, o2⟩ := okT_b hok
  have TO := tlOk o1 o2 (by omega : t.st.length ≤ 900) (by omega : t.fo.length ≤ 900) (Nat.zero_le _) (Nat.zero_le _)
  obtain ⟨tl1, tl2⟩ := TO
  refine con_of Tryd.func57 rfl (enters_of Tryd.func57 (by kernel_rfl) rfl) rfl ?_; intro n w0 F0 G0
  refine W_mkGh0 ?_
  refine zS ?_;repeat(refine yA ?_;intro p hp;refine zS ?_)
  (first | (apply wl_call (CC); exact rfl; exact rfl) | (apply wl_callR (CC); exact rfl; exact zM; exact rfl))
  refine zS ?_
  (apply wl_callP (halves_con t); exact rfl; exact yC; exact rfl)
  rintro _ _ ⟨pb, mv, rfl, rfl⟩
  (apply wl_callP ((lists_con (fun _ => none) t.id t.hs t.st t.fo pb mv (by omega) (by omega))); exact rfl; exact yC; exact rfl)
  rintro _ _ ⟨kv, pt, rfl, rfl⟩
  have TC := tell_con (fun _ => none) t.id t.hs t.st t.fo pb mv kv pt o1 o2 (by omega) (by omega) _ 0 0 (Nat.zero_le _) (Nat.zero_le _) (Nat.le_refl _)
  refine zS ?_
  (apply wl_callVP TC; exact rfl; exact rfl; exact yC; exact rfl)
  rintro _ _ ⟨rfl, rfl⟩
  generalize tellT t.st t.fo 0 0 = T at tl1 tl2 ⊢
  refine zS ?_
  refine w_cond rfl (fun hbig => ?_) (fun hbig => ?_)
  ·rw [if_pos (show T.length > 200 by have := of_decide_eq_true hbig; omega)]
   refine zS ?_
   refine Res_row0 22 1 loC ?_
   refine Res_add (.pack []) (fun _ _ => rfl) ?_
   (apply resK2; exact rfl; exact rfl; exact rfl; exact ⟨_, [], rfl, rfl, rfl⟩; exact yC)
  ·rw [if_neg (show ¬ T.length > 200 by have := of_decide_eq_false hbig; omega)]
   refine W_add0 (.pack []) (fun _ _ => rfl) ?_
   refine zS ?_
   refine W_loopJ (fun (q : Nat × Value × List LO) => ⟨[(6, .val q.2.1), (22, .sl 1 (sloC (fun _ => none) 3) T), (23, .val (.int .i64 T.length)), (24, .val (.int .i64 q.1))], [.row q.2.1 22 1 loC q.2.2, .pack (q.2.2.flatMap loR), HA.tab]⟩) (fun q => q.1 ≤ T.length ∧ q.2.2.map (·.1) = T.take q.1) (fun q => T.length - q.1) (0, .slice none 0 0, []) (fun _ _ st => st_sub2 (st_nil 22 1 loC st) zR zP) ⟨Nat.zero_le _, rfl⟩ ?_
   rintro ⟨j, v, L⟩ ⟨hj, hL⟩
   dsimp only at hj hL ⊢
   have hLl : L.length ≤ 201 := by
    have := congrArg List.length hL
    rw [List.length_map, List.length_take] at this; omega
   refine zS ?_
   refine w_cond rfl (fun hlt => ?_) (fun hlt => ?_)
   ·have hj' : j < T.length := by simpa using hlt
    have hr := tl2 _ (List.getElem_mem hj')
    have CL := Con.argsW (fits_slO1 (Z0 := fun _ => none) (e := 3)) (cloneI_con T[j] (by omega))
    refine zS ?_
    (apply wl_callP (CL); exact rfl; exact yC; exact rfl)
    rintro _ _ ⟨u, rfl, rfl⟩
    refine WL_one At.here (fun hone => ?_)
    obtain ⟨o, rfl⟩ : ∃ o : OV, u = o.1 := ⟨⟨u, hone.out (fun _ => none) u rfl⟩, rfl⟩
    refine zS ?_
    (apply wl_litF loC (xs := [((T[j], o) : LO)]); exact inferInstance; exact inferInstance; exact inferInstance; (apply Elems.cons; exact rfl; exact inferInstance; exact rfl; exact Elems.nil); exact rfl; (simp); exact rfl)
    (first | (apply wl_append; exact rfl; exact rfl; exact zN; exact inferInstance; exact inferInstance; (first | omega | (simp; omega)); exact rfl) | (apply wl_appendN; exact rfl; exact rfl; exact inferInstance; exact inferInstance; (first | omega | (simp; omega)); exact rfl))
    intro v2
    refine WL_snoc (h := .row o.1 3 1 iC T[j]) zN zN ?_
    refine zS ?_
    have hpk : (L ++ [((T[j], o) : LO)]).flatMap loR = L.flatMap loR ++ [.row o.1 3 1 iC T[j]] := by
     rw [List.flatMap_append]; rfl
    refine ⟨(j + 1, v2, L ++ [(T[j], o)]), fun _ _ st => st_sub2 st zR (by dsimp only; rw [hpk]; exact zP), ⟨hj', ?_⟩, ?_⟩
    ·dsimp only
     rw [List.map_append, hL, List.take_succ_eq_append_getElem hj']; rfl
    ·dsimp only; omega
   ·have hjj : j = T.length := by simp at hlt; omega
    subst hjj
    rw [List.take_length] at hL
    refine zS ?_
    (apply resK2; exact rfl; exact rfl; exact rfl; exact ⟨v, L, hL, rfl, rfl⟩; exact yC)
 | false =>
  rw [hok] at CC
  rw [if_neg (by decide)]
  refine con_of Tryd.func57 rfl (enters_of Tryd.func57 (by kernel_rfl) rfl) rfl ?_; intro n w0 F0 G0
  refine zS ?_;repeat(refine yA ?_;intro p hp;refine zS ?_)
  (first | (apply wl_call (CC); exact rfl; exact rfl) | (apply wl_callR (CC); exact rfl; exact zM; exact rfl))
  refine zS ?_
  refine Res_row0 22 1 loC ?_
  refine Res_add (.pack []) (fun _ _ => rfl) ?_
  (apply resK2; exact rfl; exact rfl; exact rfl; exact ⟨_, [], rfl, rfl, rfl⟩; exact yC)
end Go.Proofs.YthddoikmgpgakaaDoor.Sw
namespace Go.Proofs.YthddoikmgpgakaaDoor
open Go.RowKit Go.Proofs Go.Shelf
attribute [local go_sem] Oper.semAt_some
attribute [local go_sem] eqPlace
def Ed.val (e : Ed) : Value := .agg #[.int .i64 e.kd, .int .i64 e.at', .int .i64 e.nt]
def edV (x : St) (k : Nat) : Ed := if x.wr = 0 then ⟨0, 0, 0⟩ else if x.f = 0 then ⟨1, k, 0⟩ else if x.s = 0 then ⟨2, k, x.f⟩ else ⟨3, k, x.f⟩
theorem edit_any (x : St) (k : Nat) (w : World) :
  Calls Tryd.prog 88 #[x.val, .int .i64 k] w fun e w' => e = .returned (edV x k).val ∧ Below w.heap.size w w' := by
 unfold St.val
 go_enter Tryd.func88, Tryd.ntmps88
 by_cases h1 : x.wr = 0
 ·have t1 : (x.wr == 0) = true := by simp [h1]
  have H1 := hid h1; clear h1
  go_wp2_with fail
  refine bodyPost_ret (v := .agg #[.int .i64 0, .int .i64 0, .int .i64 0]) (by simp [results, Tryd.results88, go_sem]) rfl ?_
  exact ⟨by unfold edV; rw [if_pos H1.out]; rfl, goBl⟩
 ·have t1 : (x.wr == 0) = false := by simp [h1]
  have H1 := hid h1; clear h1
  by_cases h2 : x.f = 0
  ·have t2 : (x.f == 0) = true := by simp [h2]
   have H2 := hid h2; clear h2
   go_wp2_with fail
   refine bodyPost_ret (v := .agg #[.int .i64 1, .int .i64 k, .int .i64 0]) (by simp [results, Tryd.results88, go_sem]) rfl ?_
   exact ⟨by unfold edV; rw [if_neg H1.out, if_pos H2.out]; rfl, goBl⟩
  ·have t2 : (x.f == 0) = false := by simp [h2]
   have H2 := hid h2; clear h2
   by_cases h3 : x.s = 0
   ·have t3 : (x.s == 0) = true := by simp [h3]
    have H3 := hid h3; clear h3
    go_wp2_with fail
    refine bodyPost_ret (v := .agg #[.int .i64 2, .int .i64 k, .int .i64 x.f]) (by simp [results, Tryd.results88, go_sem]) rfl ?_
    exact ⟨by unfold edV; rw [if_neg H1.out, if_neg H2.out, if_pos H3.out]; rfl, goBl⟩
   ·have t3 : (x.s == 0) = false := by simp [h3]
    have H3 := hid h3; clear h3
    go_wp2_with fail
    refine bodyPost_ret (v := .agg #[.int .i64 3, .int .i64 k, .int .i64 x.f]) (by simp [results, Tryd.results88, go_sem]) rfl ?_
    exact ⟨by unfold edV; rw [if_neg H1.out, if_neg H2.out, if_neg H3.out]; rfl, goBl⟩
structure EdInv (a : Tl) (sa fa : Option Addr) (sc fc : Nat) (w0 : World) (px N pb eb kb M : Nat) (i k p7 : Nat) (ds : List Deferred) (W : World) : Prop where
 hi : i ≤ a.st.length
 hk : k ≤ a.fo.length
 x : Box W px (#[.int .i64 a.id, .int .i64 a.hs, .slice sa a.st.length sc, .slice fa a.fo.length fc]) 24
 p5 : Box W N (pairC a.id a.hs a.st a.fo sa fa sc fc (leftV eb kb pb)) 134
 l6 : ∃ acc la lc, Box W (N + 1) #[.slice la acc.length lc] 48 ∧ W.ownsRow (N + 2) 109 3 (.slice la acc.length lc) acc.length (edCells acc) ∧ acc ++ edL a.st a.fo i k = edL a.st a.fo 0 0 ∧ acc.length ≤ i + k
 a7 : Box W p7 #[.int .i64 i, .int .i64 k] 137
 h7 : N + 2 ≤ p7
 half : Half W pb eb kb M a.id a.hs a.st a.fo sa fa sc fc
 bel : Below w0.heap.size w0 W
 marks : Marks (N + 2) W ds
structure EdOut (a : Tl) (sa fa : Option Addr) (sc fc : Nat) (w0 : World) (px N pb eb kb M : Nat) (i k : Nat) (y : St) (p7 : Nat) (ds : List Deferred) (W : World) : Prop where
 x : Box W px (#[.int .i64 a.id, .int .i64 a.hs, .slice sa a.st.length sc, .slice fa a.fo.length fc]) 24
 p5 : Box W N (pairC a.id a.hs a.st a.fo sa fa sc fc (leftV eb kb pb)) 134
 l6 : ∃ acc es la lc, Box W (N + 1) #[.slice la (acc ++ es).length lc] 48 ∧ W.ownsRow (N + 2) 109 3 (.slice la (acc ++ es).length lc) (acc ++ es).length (edCells (acc ++ es)) ∧ acc ++ edL a.st a.fo i k = edL a.st a.fo 0 0 ∧ acc.length ≤ i + k ∧ es = edOf y k
 a7 : Box W p7 #[.int .i64 y.i, .int .i64 y.k] 137
 h7 : N + 2 ≤ p7
 half : Half W pb eb kb M a.id a.hs a.st a.fo sa fa sc fc
 bel : Below w0.heap.size w0 W
 marks : Marks (N + 2) W ds
theorem Half.keepZ {W W' : World} {Z : Nat → Prop} {pb eb kb M : Nat} {id hs : Int} {st fo : List Int} {sa fa : Option Addr} {sc fc : Nat} (h : Half W pb eb kb M id hs st fo sa fa sc fc) (kp : Keep Z W W') (hz : ∀ b, CellAt W b → Z b) (hm : PMap W' M st.length fo.length (Known st fo)) :
  Half W' pb eb kb M id hs st fo sa fa sc fc :=
 ⟨kp.box (hz _ h.pair.at_) h.pair, kp.box (hz _ h.fin.at_) h.fin, kp.box (hz _ h.known.at_) h.known, hm, kp.rdI (fun hx _ hp => hz _ (rd_at h.s hx hp)) h.s, kp.rdI (fun hx _ hp => hz _ (rd_at h.f hx hp)) h.f⟩
theorem EdInv.keepZ {a : Tl} {sa fa : Option Addr} {sc fc : Nat} {w0 : World} {px N pb eb kb M i k p7 : Nat} {ds : List Deferred} {W W' : World} {Z : Nat → Prop} (h : EdInv a sa fa sc fc w0 px N pb eb kb M i k p7 ds W) (kp : Keep Z W W') (hz : ∀ b, CellAt W b → Z b) (h0 : ∀ b, b < w0.heap.size → Z b) (hm : PMap W' M a.st.length a.fo.length (Known a.st a.fo)) (hk : Marks (N + 2) W' ds) :
  EdInv a sa fa sc fc w0 px N pb eb kb M i k p7 ds W' := by
 obtain ⟨acc, la, lc, g1, g2, g3, g4⟩ := h.l6
 exact ⟨h.hi, h.hk, kp.box (hz _ h.x.at_) h.x, kp.box (hz _ h.p5.at_) h.p5, ⟨acc, la, lc, kp.box (hz _ g1.at_) g1, own_kp' g2 kp (fun g hg => hz _ (own_at g2 g hg)), g3, g4⟩, kp.box (hz _ h.a7.at_) h.a7, h.h7, h.half.keepZ kp hz hm, h.bel.trans (kp.below h0 h.bel.size), hk⟩
theorem EdInv.keep {a : Tl} {sa fa : Option Addr} {sc fc : Nat} {w0 : World} {px N pb eb kb M i k p7 : Nat} {ds : List Deferred} {W W' : World} (h : EdInv a sa fa sc fc w0 px N pb eb kb M i k p7 ds W) (kp : Keep (· ≠ M) W W') (hM : M < N) (h0 : w0.heap.size ≤ M) (hm : PMap W' M a.st.length a.fo.length (Known a.st a.fo)) :
  EdInv a sa fa sc fc w0 px N pb eb kb M i k p7 ds W' := h.keepZ kp (fun b hb => map_not_cell h.half.map hb) (fun b hb => show b ≠ M by omega) hm (h.marks.keep kp (by omega))
theorem EdInv.alloc {a : Tl} {sa fa : Option Addr} {sc fc : Nat} {w0 : World} {px N pb eb kb M i k p7 : Nat} {ds : List Deferred} {W : World} (h : EdInv a sa fa sc fc w0 px N pb eb kb M i k p7 ds W) (hM : M < N) (h0 : w0.heap.size ≤ M) (o : Obj) :
  EdInv a sa fa sc fc w0 px N pb eb kb M i k p7 ds (W.alloc o) := h.keep ((Keep.refl _ _).alloc _) hM h0 (h.half.map.alloc _)
structure EdLt (a : Tl) (sa fa : Option Addr) (px N pb eb kb M : Nat) : Prop where
 x : px < N
 p : pb < N
 e : eb < N
 k : kb < N
 m : M < N
 s : a.st ≠ [] → ∀ p, sa = some p → p.block < N
 f : a.fo ≠ [] → ∀ p, fa = some p → p.block < N
theorem eqEdit (a b c d e f : Int) (w : World) : (Op.equalIn 10000 109 (.agg #[.int .i64 a, .int .i64 b, .int .i64 c]) (.agg #[.int .i64 d, .int .i64 e, .int .i64 f])).run Tryd.prog w = .ok (a == d && (b == e && c == f)) w := by
 have u3 := Tryd.underlying3
 have a3 := Tryd.isAgg3
 have z3 := Tryd.sizeOf3
 rw [show (10000 : Nat) = 9999 + 1 from rfl, Op.equalIn]
 simp only [Sem.run_bind, run_underlying Tryd.underlying109, Result.andThen_ok]
 go_simp
 by_cases h1 : a = d <;> by_cases h2 : b = e <;> by_cases h3 : c = f <;> simp [h1, h2, h3]
attribute [local go_sem] eqEdit
theorem edV_zero {x : St} {k : Nat} : ((edV x k).kd == 0 && ((edV x k).at' == 0 && (edV x k).nt == 0)) = decide (x.wr = 0) := by
 unfold edV
 split
 ·rename_i h; simp [h]
 ·rename_i h
  split
  ·simp [h]
  ·split <;> simp [h]
theorem edOf_V {x : St} {k : Nat} (h : ¬ x.wr = 0) : edOf x k = [edV x k] := by
 unfold edOf edV
 rw [if_neg h, if_neg h]
 split
 ·rfl
 ·split <;> rfl
theorem EdOut.next {a : Tl} {sa fa : Option Addr} {sc fc : Nat} {w0 : World} {px N pb eb kb M i k p7 D : Nat} {y : St} {ds : List Deferred} {W : World} (h : EdOut a sa fa sc fc w0 px N pb eb kb M i k y p7 ds W) (hs : okN a.st = true) (hf : okN a.fo = true) (hi : i ≤ a.st.length) (hk : k ≤ a.fo.length) (hn : i < a.st.length ∨ k < a.fo.length)
  (hy : ∃ t, bestL a.st a.fo i k = y :: t) (hM : M < N) (h0 : w0.heap.size ≤ M) (hN : N ≤ W.heap.size) (hm : Marks (N + 2) W ({ target := .collected D, args := #[] } :: ds)) :
  EdInv a sa fa sc fc w0 px N pb eb kb M y.i y.k W.heap.size ({ target := .collected D, args := #[] } :: ds) (W.alloc (.cells #[.int .i64 y.i, .int .i64 y.k] 137)) ∧ (a.st.length - y.i) + (a.fo.length - y.k) < (a.st.length - i) + (a.fo.length - k) := by
 obtain ⟨x, t, e, e1, e2, e3⟩ := best_head hs hf hi hk hn
 obtain ⟨t', e'⟩ := hy
 rw [e] at e'
 obtain ⟨rfl, rfl⟩ := List.cons.inj e'
 obtain ⟨g1, g2, g3, g4⟩ := nxt_step (st := a.st) (fo := a.fo) hn hi hk
 have h7 := h.h7
 have l7 := h.a7.lt
 obtain ⟨acc, es, la, lc, q1, q2, q3, q4, rfl⟩ := h.l6
 rw [e1, e2]
 refine ⟨⟨g1, g2, h.x.alloc _, h.p5.alloc _, ⟨acc ++ edOf x k, la, lc, q1.alloc _, q2.alloc _, ?_, ?_⟩, Box.new _ _ _, by omega, h.half.keep ((Keep.refl _ _).alloc _) (h.half.map.alloc _), h.bel.trans (((Below.refl _ _).alloc (Nat.le_refl _) _).mono h.bel.size), hm.below (((Below.refl _ _).alloc (Nat.le_refl _) _))⟩, g3⟩
 ·rw [List.append_assoc, e3, ← edL_step hn hi hk]; exact q3
 ·rw [List.length_append, e3]; omega
end Go.Proofs.YthddoikmgpgakaaDoor
namespace Go.Proofs.YthddoikmgpgakaaDoor.Sw
open Go.RowKit Go Go.Shelf Go.Proofs
def edC (e : Ed) : List AV := [.val (.int .i64 e.kd), .val (.int .i64 e.at'), .val (.int .i64 e.nt)]
instance {e : Ed} : OneL (edC e) := inferInstanceAs (OneL [_, _, _])
instance : OneF edC := ⟨fun _ => inferInstance⟩
instance : LenF edC 3 := ⟨fun _ => rfl⟩
theorem edit_con (x : Go.Proofs.YthddoikmgpgakaaDoor.St) (k : Nat) : Con Tryd.prog 88 [.agg (stC x), .val (.int .i64 k)] [] (Is (.agg (edC (edV x k))) []) := by
 refine con_same (enters_of Tryd.func88 (by kernel_rfl) rfl) fun G vs w hf hG => ?_
 match vs, hf with
 | [v, v'], ⟨⟨us, e, hu⟩, h', _⟩ =>
  have h2 : v' = .int .i64 k := h'
  subst h2 e
  match us, hu with
  | [a, b, c, d, f], ⟨ha, hb, hc, hd, hf', _⟩ =>
   have ha' : a = .int .i64 x.i := ha
   have hb' : b = .int .i64 x.k := hb
   have hc' : c = .int .i64 x.s := hc
   have hd' : d = .int .i64 x.f := hd
   have hf2 : f = .int .i64 x.wr := hf'
   subst ha' hb' hc' hd' hf2
   exact (edit_any x k w).mono fun e w' ⟨h, hb⟩ => ⟨_, h, ⟨[_, _, _], rfl, rfl, rfl, rfl, trivial⟩, hb⟩
theorem ed0Imp (er : Int) (G : Nat → Option Obj) (v : Value) (h : (AV.tup [.val (.slice none 0 0), .val (.int .i64 er)]).P G v) : (AV.tup [.sl 3 edC [], .val (.int .i64 er)]).P G v := by
 obtain ⟨vs, e1, h⟩ := h
 match vs, h with
 | [x, y], ⟨h1, h2, _⟩ => exact ⟨[x, y], e1, nil_sl0 G x h1, h2, trivial⟩
theorem editsP_con (t : Tl) (h : t.small) : Con Tryd.prog 32 [.agg (tC t)] [HA.tab] (Is (.tup [.sl 3 edC (editsR t).1, .val (.int .i64 (editsR t).2)]) [HA.tab]) := by
 have CC := checkT_con t h
 unfold editsR
 cases hok : okT t.id t.hs t.st t.fo with
 | true =>
  rw [hok] at CC
  rw [if_pos rfl]
  obtain ⟨l1, l2, o1, o2⟩ := okT_b hok
  refine con_of Tryd.func32 rfl (enters_of Tryd.func32 (by kernel_rfl) rfl) rfl ?_; intro n w0 F0 G0
  refine zS ?_;repeat(refine yA ?_;intro p hp;refine zS ?_)
  revert p
  intro p1 hp1
  (first | (apply wl_call (CC); exact rfl; exact rfl) | (apply wl_callR (CC); exact rfl; exact zM; exact rfl))
  refine zS ?_;repeat(refine yA ?_;intro p hp;refine zS ?_)
  (apply wl_callP (halves_con t); exact rfl; exact yC; exact rfl)
  rintro _ _ ⟨pb, mv, rfl, rfl⟩
  refine zS ?_;repeat(refine yA ?_;intro p hp;refine zS ?_)
  rename_i p5 hp5 p6 hp6
  refine W_loopJ (fun (q : Nat × Nat × Value × Value × List Ed) => ⟨[(1, .val p1), (3, .val (.int .i64 0)), (5, .val p5), (6, .val p6), (7, .val q.2.2.1)], [.box q.2.2.1 (plC q.1 q.2.1) 137, .box p6 [.val q.2.2.2.1] 48, .row q.2.2.2.1 109 3 edC q.2.2.2.2, .box p5 (pairC t.id t.hs t.st t.fo (leftF pb mv t.st t.fo)) 134, .box p1 (tC t) 24, HA.tab, memL mv t.st t.fo, .box pb (pairC t.id t.hs t.st t.fo (leftF pb mv t.st t.fo)) 134]⟩) (fun q => q.1 ≤ t.st.length ∧ q.2.1 ≤ t.fo.length ∧ q.2.2.2.2 ++ edL t.st t.fo q.1 q.2.1 = edL t.st t.fo 0 0 ∧ q.2.2.2.2.length ≤ q.1 + q.2.1) (fun q => (t.st.length - q.1) + (t.fo.length - q.2.1)) (0, 0, p, .slice none 0 0, []) (fun _ _ st => st_sub2 (st_nil 109 3 edC st) zR zP) ⟨Nat.zero_le _, Nat.zero_le _, rfl, Nat.zero_le _⟩ ?_
  rintro ⟨i, k, p7, v, acc⟩ ⟨hi, hk, hacc, hal⟩
  dsimp only at hi hk hacc hal ⊢
  refine zS ?_;repeat(refine yA ?_;intro p hp;refine zS ?_)
  by_cases he : i = t.st.length ∧ k = t.fo.length
  ·have e1 : decide ([(i : Int), (k : Int)] = [(t.st.length : Int), (t.fo.length : Int)]) = true := by simp [he.1, he.2]
   rw [e1]
   rw [he.1, he.2, edL_end, List.append_nil] at hacc
   rw [← hacc]
   refine zS ?_;repeat(refine yA ?_;intro p hp;refine zS ?_)
   (apply Res_frz 2; exact rfl; exact zN)
   (apply resK2; exact rfl; exact rfl; exact rfl; exact ⟨rfl, rfl⟩; exact yC)
  ·have e1 : decide ([(i : Int), (k : Int)] = [(t.st.length : Int), (t.fo.length : Int)]) = false := by
    simp only [decide_eq_false_iff_not, List.cons.injEq, and_true]
    omega
   rw [e1]
   have hor : i < t.st.length ∨ k < t.fo.length := by omega
   obtain ⟨x, xt, hbx, hx1, hx2, hx3⟩ := best_head o1 o2 hi hk hor
   have hstp := nxt_step hor hi hk
   rw [edL_step hor hi hk, ← hx3, ← hx1, ← hx2] at hacc
   rw [← hx3, ← hx1, ← hx2] at hstp
   obtain ⟨n1, n2, n3, n4⟩ := hstp
   have IT := best_iter t.id t.hs t.st t.fo pb mv i k hi hk (by omega) (by omega)
   rw [hbx] at IT
   refine zS ?_;repeat(refine yA ?_;intro p hp;refine zS ?_)
   (apply wl_callP ((bestP_con t.id t.hs t.st t.fo (leftF pb mv t.st t.fo) i k)); exact rfl; exact yC; exact rfl)
   rintro _ _ ⟨q9, p9, rfl, rfl⟩
   (apply WL_frzC 29 0 5; exact rfl; exact rfl; exact zN)
   (apply WL_frzC 29 1 2; exact rfl; exact rfl; exact zN)
   refine zS ?_;repeat(refine yA ?_;intro p hp;refine zS ?_)
   refine W_range (own := MEM t.id t.hs t.st t.fo pb mv) (by exact rfl) IT yC (fun j (b : Value) => j = 0 ∧ b = v) (fun b => [.box p7 (plC i k) 137, .box p6 [.val b] 48, .row b 109 3 edC acc, .box p5 (pairC t.id t.hs t.st t.fo (leftF pb mv t.st t.fo)) 134, .box p1 (tC t) 24, HA.tab]) (fun e b => e = .exit 2 ∧ True) (fun _ b => [.box p7 (plC x.i x.k) 137, .box p6 [.val b] 48, .row b 109 3 edC (acc ++ edOf x k), .box p5 (pairC t.id t.hs t.st t.fo (leftF pb mv t.st t.fo)) 134, .box p1 (tC t) 24, HA.tab]) v ⟨rfl, rfl⟩ zP (by intro _ _ _; exact rfl) (by exact rfl) ?_ ?_ ?_
   ·intro lr m' w1 F1 G1 hrec j hj b u hI
    obtain ⟨hj0, hb0⟩ := hI
    subst hj0 hb0
    have EC := edit_con x k
    dsimp only [zipR, List.cons_append, List.nil_append, List.getElem_cons_zero]
    refine zS ?_;repeat(refine yA ?_;intro p hp;refine zS ?_)
    intro w2 F2 G2 hrec2
    refine zS ?_;repeat(refine yA ?_;intro p hp;refine zS ?_)
    (first | (apply wl_call (EC); exact rfl; exact rfl) | (apply wl_callR (EC); exact rfl; exact zM; exact rfl))
    refine zS ?_;repeat(refine yA ?_;intro p hp;refine zS ?_)
    have hz := edV_zero (x := x) (k := k)
    by_cases hw : x.wr = 0
    ·have e2 : decide ([(edV x k).kd, (edV x k).at', (edV x k).nt] = [0, 0, 0]) = true := by
      rw [decide_eq_true hw] at hz
      simp at hz
      simp [hz.1, hz.2.1, hz.2.2]
     have heo : acc ++ edOf x k = acc := by unfold edOf; rw [if_pos hw, List.append_nil]
     rw [e2, Bool.not_true]
     refine zS ?_;repeat(refine yA ?_;intro p hp;refine zS ?_)
     (apply wl_loadP (ds := plC x.i x.k); (first | exact .inl rfl | exact .inr ⟨rfl, rfl⟩); exact zM; exact rfl; exact rfl; exact rfl)
     refine zS ?_;repeat(refine yA ?_;intro p hp;refine zS ?_)
     refine ⟨b, ⟨rfl, trivial⟩, fun a w st => st_sub2 st zR (by rw [heo]; exact zP)⟩
    ·have e2 : decide ([(edV x k).kd, (edV x k).at', (edV x k).nt] = [0, 0, 0]) = false := by
      rw [decide_eq_false hw] at hz
      rw [decide_eq_false_iff_not]
      intro e
      injection e with a1 e
      injection e with a2 e
      injection e with a3 _
      rw [a1, a2, a3] at hz
      cases hz
     have heo : acc ++ edOf x k = acc ++ [edV x k] := by rw [edOf_V hw]
     rw [e2, Bool.not_false]
     refine zS ?_;repeat(refine yA ?_;intro p hp;refine zS ?_)
     (apply wl_litF edC (xs := [edV x k]); exact inferInstance; exact inferInstance; exact inferInstance; exact zE; exact rfl; (simp); exact rfl)
     (first | (apply wl_append; exact rfl; exact rfl; exact zN; exact inferInstance; exact inferInstance; (first | omega | (simp; omega)); exact rfl) | (apply wl_appendN; exact rfl; exact rfl; exact inferInstance; exact inferInstance; (first | omega | (simp; omega)); exact rfl))
     intro v2
     refine WL_one At.here (fun hone2 => ?_)
     refine zS ?_;repeat(refine yA ?_;intro p hp;refine zS ?_)
     (apply wl_loadP (ds := plC x.i x.k); (first | exact .inl rfl | exact .inr ⟨rfl, rfl⟩); exact zM; exact rfl; exact rfl; exact rfl)
     refine zS ?_;repeat(refine yA ?_;intro p hp;refine zS ?_)
     refine ⟨v2, ⟨rfl, trivial⟩, fun a w st => st_sub2 st zR (by rw [heo]; exact zP)⟩
   ·rintro b ⟨hj0, _⟩
    exact absurd hj0 (by simp)
   ·rintro _ b _ ⟨rfl, _⟩
    (repeat (first | refine th_norm ?_ | refine th_exit ?_ | refine th_ret ?_ | refine bl_norm ?_ | refine bl_eq ?_ | refine bl_ne rfl ?_ | refine bl_ret ?_ | refine rt_norm ?_ | refine rt_ret ?_))
    refine zS ?_;repeat(refine yA ?_;intro p hp;refine zS ?_)
    refine ⟨(x.i, x.k, p, b, acc ++ edOf x k), fun _ _ st => st_sub2 st zR zP, ⟨n1, n2, by rw [List.append_assoc]; exact hacc, by dsimp only; rw [List.length_append]; omega⟩, ?_⟩
    dsimp only; omega
 | false =>
  rw [hok] at CC
  rw [if_neg (by decide)]
  refine con_of Tryd.func32 rfl (enters_of Tryd.func32 (by kernel_rfl) rfl) rfl ?_; intro n w0 F0 G0
  refine zS ?_;repeat(refine yA ?_;intro p hp;refine zS ?_)
  (first | (apply wl_call (CC); exact rfl; exact rfl) | (apply wl_callR (CC); exact rfl; exact zM; exact rfl))
  refine zS ?_;repeat(refine yA ?_;intro p hp;refine zS ?_)
  refine Res_impP ⟨rfl, rfl⟩ (ed0Imp 70) ?_
  (apply resK2; exact rfl; exact rfl; exact rfl; exact ⟨rfl, rfl⟩; exact yC)
end Go.Proofs.YthddoikmgpgakaaDoor.Sw
namespace Go.Proofs.YthddoikmgpgakaaDoor
open Go.RowKit Go.Proofs Go.Shelf
def joinF (a b : Tl) : Tl × Int := if a.ok && b.ok then (if (a.cat b).ok then (a.cat b, 0) else (zeroT, 9)) else (zeroT, 70)
theorem errAll_two (a b : Tl) : errAll [a, b] = errT (a.ok && b.ok) := by
 unfold errAll errT
 rw [if_neg (by simp)]
 simp
theorem RdT.two {w : World} {B : Nat} {a b : Tl} {sa fa sb fb : Option Addr} {sc fc sd fd : Nat} {t : TypeId}
  (h : Box w B #[.int .i64 a.id, .int .i64 a.hs, .slice sa a.st.length sc, .slice fa a.fo.length fc, .int .i64 b.id, .int .i64 b.hs, .slice sb b.st.length sd, .slice fb b.fo.length fd] t)
  (h1 : RdI w sa a.st) (h2 : RdI w fa a.fo) (h3 : RdI w sb b.st) (h4 : RdI w fb b.fo) : RdT w (some ⟨B, 0, none⟩) [a, b] := fun i hi => by
 match i, hi with
 | 0, _ => exact ⟨B, 0, sa, sc, fa, fc, rfl, h.cell 0, h.cell 1, h.cell 2, h.cell 3, h1, h2⟩
 | 1, _ => exact ⟨B, 0, sb, sd, fb, fd, rfl, h.cell 4, h.cell 5, h.cell 6, h.cell 7, h3, h4⟩
theorem join_any (a b : Tl) (sa fa sb fb : Option Addr) (sc fc sd fd : Nat) (w : World) (ht : Tab w)
  (ha : a.small) (hb : b.small) (h1 : RdI w sa a.st) (h2 : RdI w fa a.fo) (h3 : RdI w sb b.st) (h4 : RdI w fb b.fo) :
  Calls Tryd.prog 22 #[.agg #[.int .i64 a.id, .int .i64 a.hs, .slice sa a.st.length sc, .slice fa a.fo.length fc], .agg #[.int .i64 b.id, .int .i64 b.hs, .slice sb b.st.length sd, .slice fb b.fo.length fd]] w
   fun e w' => ∃ v, e = .returned (.tuple #[v, .int .i64 (joinF a b).2]) ∧ Below w.heap.size w w' ∧ NewT w.heap.size w' v (joinF a b).1 := by
 have H1 := hid h1; have H2 := hid h2; have H3 := hid h3; have H4 := hid h4; clear h1 h2 h3 h4
 have HT := hid ht; clear ht
 have HA := hid ha; have HB := hid hb; clear ha hb
 go_enter Tryd.func22, Tryd.ntmps22
 go_wp2_with fail
 refine (all_any _ _ [a, b] _ ?_ ?_ ?_ ?_).mono ?_
 ·simp
 ·exact HT.out.below goBl
 ·intro t ht; simp at ht; rcases ht with rfl | rfl
  ·exact HA.out
  ·exact HB.out
 ·exact RdT.two (sa := sa) (sc := sc) (fa := fa) (fc := fc) (sb := sb) (sd := sd) (fb := fb) (fd := fd) (t := 24) (by repeat (first | (with_reducible assumption) | (with_reducible refine Box.at _ _ yL) | (with_reducible refine Box.drew ?_) | (with_reducible refine Box.alloc ?_ _) | (with_reducible refine Box.other ?_ _ _ _ yL) | (refine Box.below ?_ hb2 yL) | (refine Box.below ?_ hb3 yL))) (H1.out.below goBl) (H2.out.below goBl) (H3.out.below goBl) (H4.out.below goBl)
 rw [errAll_two]
 rintro e w1 ⟨rfl, hb1⟩
 have hz1 := hb1.size; (try simp only [World.size_alloc] at hz1)
 -- the boxes behind the call
 have ba : Box w1 w.heap.size #[.int .i64 a.id, .int .i64 a.hs, .slice sa a.st.length sc, .slice fa a.fo.length fc] 24 := Box.below (by repeat (first | (with_reducible assumption) | (with_reducible refine Box.at _ _ yL) | (with_reducible refine Box.drew ?_) | (with_reducible refine Box.alloc ?_ _) | (with_reducible refine Box.other ?_ _ _ _ yL) | (refine Box.below ?_ hb2 yL) | (refine Box.below ?_ hb3 yL))) hb1 yL
 have bb : Box w1 (w.heap.size + 1) #[.int .i64 b.id, .int .i64 b.hs, .slice sb b.st.length sd, .slice fb b.fo.length fd] 24 := Box.below (by repeat (first | (with_reducible assumption) | (with_reducible refine Box.at _ _ yL) | (with_reducible refine Box.drew ?_) | (with_reducible refine Box.alloc ?_ _) | (with_reducible refine Box.other ?_ _ _ _ yL) | (refine Box.below ?_ hb2 yL) | (refine Box.below ?_ hb3 yL))) hb1 yL
 have br : Box w1 (w.heap.size + 2) #[.int .i64 0, .int .i64 0, .slice none 0 0, .slice none 0 0] 24 := Box.below (by repeat (first | (with_reducible assumption) | (with_reducible refine Box.at _ _ yL) | (with_reducible refine Box.drew ?_) | (with_reducible refine Box.alloc ?_ _) | (with_reducible refine Box.other ?_ _ _ _ yL) | (refine Box.below ?_ hb2 yL) | (refine Box.below ?_ hb3 yL))) hb1 yL
 have hb : Below w.heap.size w w1 := goBl
 clear hb1
 by_cases hok : (a.ok && b.ok) = true
 ·have t1 : (errT (a.ok && b.ok) != 0) = false := by rw [hok]; rfl
  have la : a.st.length ≤ 12 ∧ a.fo.length ≤ 12 := by
   have := (Bool.and_eq_true _ _ ▸ hok).1; simp [Tl.ok, okT] at this; omega
  have lb : b.st.length ≤ 12 ∧ b.fo.length ≤ 12 := by
   have := (Bool.and_eq_true _ _ ▸ hok).2; simp [Tl.ok, okT] at this; omega
  have HK := hid hok; clear hok
  go_wp2_with fail
  refine wp_post (fun a' w' => ∃ x0 x1 x2 x3 x4 x5 x6 x7 x8 x9 x10 x11 x12 x13 x14 x15 x16 x17 x18 x19 x20 x21 x22 x23 x24 x25 x26 x27 x28 x29 x30 x31 x32 x33 s1 c1 s2 c2, a' = ⟨#[x0, x1, x2, x3, x4, x5, x6, x7, x8, x9, x10, x11, x12, x13, x14, x15, x16, x17, x18, x19, x20, x21, x22, x23, x24, x25, x26, x27, x28, x29, x30, x31, x32, x33], []⟩ ∧ x2 = .pointer (some ⟨w.heap.size, 0, none⟩) ∧ x4 = .pointer (some ⟨w.heap.size + 2, 0, none⟩) ∧ Below w.heap.size w w' ∧
   Box w' w.heap.size #[.int .i64 a.id, .int .i64 a.hs, .slice s1 (a.st.length + b.st.length) c1, .slice s2 (a.fo.length + b.fo.length) c2] 24 ∧ Box w' (w.heap.size + 2) #[.int .i64 0, .int .i64 0, .slice none 0 0, .slice none 0 0] 24 ∧
   w'.ownsRow (w.heap.size + 3) 3 1 (.slice s1 (a.st.length + b.st.length) c1) (a.st.length + b.st.length) ((a.st ++ b.st).map (Value.int .i64)) ∧ w'.ownsRow (w.heap.size + 3) 3 1 (.slice s2 (a.fo.length + b.fo.length) c2) (a.fo.length + b.fo.length) ((a.fo ++ b.fo).map (Value.int .i64)) ∧ ApartV (.slice s1 (a.st.length + b.st.length) c1) (.slice s2 (a.fo.length + b.fo.length) c2)) ?_ ?_
  ·have q1 : w1.cell? ⟨w.heap.size, 2, none⟩ = some (.slice sa a.st.length sc) := ba.cell 2
   have q2 : w1.cell? ⟨w.heap.size, 3, none⟩ = some (.slice fa a.fo.length fc) := ba.cell 3
   have q3 : w1.cell? ⟨w.heap.size + 1, 2, none⟩ = some (.slice sb b.st.length sd) := bb.cell 2
   have q4 : w1.cell? ⟨w.heap.size + 1, 3, none⟩ = some (.slice fb b.fo.length fd) := bb.cell 3
   have z1 := ba.lt; have z2 := bb.lt
   refine wp_region_F [1, 3, 7, 9] (fun w' => w'.cell? ⟨w.heap.size, 2, none⟩ = some (.slice sa a.st.length sc) ∧ w'.cell? ⟨w.heap.size, 3, none⟩ = some (.slice fa a.fo.length fc) ∧ w'.cell? ⟨w.heap.size + 1, 2, none⟩ = some (.slice sb b.st.length sd) ∧ w'.cell? ⟨w.heap.size + 1, 3, none⟩ = some (.slice fb b.fo.length fd)) mixed ⟨by go_simp, by go_simp, by go_simp, by go_simp⟩ ?_
   intro hS0; have hS := hid hS0; clear hS0
   (apply wpAnyF_pure (i := 0) rfl (by kernel_rfl) (fun _ _ _ h => h); · first | exact .inr ⟨rfl, rfl⟩ | exact .inl ⟨rfl, fun w' => by go_simp; rfl⟩); simp only [Act.put, List.setIfInBounds_toArray, List.set_cons_succ, List.set_cons_zero, List.getElem_toArray, List.getElem_cons_succ, List.getElem_cons_zero]
   (apply wpAnyF_held (i := 1) rfl (by kernel_rfl) (fun _ _ _ h => h) hS.out; · first | exact .inr ⟨rfl, rfl⟩ | exact .inl ⟨rfl, fun w' hS' => by (obtain ⟨s1, s2, s3, s4⟩ := hS'; go_simp; rfl)⟩); simp only [Act.put, List.setIfInBounds_toArray, List.set_cons_succ, List.set_cons_zero, List.getElem_toArray, List.getElem_cons_succ, List.getElem_cons_zero]
   (apply wpAnyF_pure (i := 2) rfl (by kernel_rfl) (fun _ _ _ h => h); · first | exact .inr ⟨rfl, rfl⟩ | exact .inl ⟨rfl, fun w' => by go_simp; rfl⟩); simp only [Act.put, List.setIfInBounds_toArray, List.set_cons_succ, List.set_cons_zero, List.getElem_toArray, List.getElem_cons_succ, List.getElem_cons_zero]
   (apply wpAnyF_held (i := 3) rfl (by kernel_rfl) (fun _ _ _ h => h) hS.out; · first | exact .inr ⟨rfl, rfl⟩ | exact .inl ⟨rfl, fun w' hS' => by (obtain ⟨s1, s2, s3, s4⟩ := hS'; go_simp; rfl)⟩); simp only [Act.put, List.setIfInBounds_toArray, List.set_cons_succ, List.set_cons_zero, List.getElem_toArray, List.getElem_cons_succ, List.getElem_cons_zero]
   (apply wpAnyF_pure (i := 6) rfl (by kernel_rfl) (fun _ _ _ h => h); · first | exact .inr ⟨rfl, rfl⟩ | exact .inl ⟨rfl, fun w' => by go_simp; rfl⟩); simp only [Act.put, List.setIfInBounds_toArray, List.set_cons_succ, List.set_cons_zero, List.getElem_toArray, List.getElem_cons_succ, List.getElem_cons_zero]
   (apply wpAnyF_held (i := 7) rfl (by kernel_rfl) (fun _ _ _ h => h) hS.out; · first | exact .inr ⟨rfl, rfl⟩ | exact .inl ⟨rfl, fun w' hS' => by (obtain ⟨s1, s2, s3, s4⟩ := hS'; go_simp; rfl)⟩); simp only [Act.put, List.setIfInBounds_toArray, List.set_cons_succ, List.set_cons_zero, List.getElem_toArray, List.getElem_cons_succ, List.getElem_cons_zero]
   (apply wpAnyF_pure (i := 8) rfl (by kernel_rfl) (fun _ _ _ h => h); · first | exact .inr ⟨rfl, rfl⟩ | exact .inl ⟨rfl, fun w' => by go_simp; rfl⟩); simp only [Act.put, List.setIfInBounds_toArray, List.set_cons_succ, List.set_cons_zero, List.getElem_toArray, List.getElem_cons_succ, List.getElem_cons_zero]
   (apply wpAnyF_held (i := 9) rfl (by kernel_rfl) (fun _ _ _ h => h) hS.out; · first | exact .inr ⟨rfl, rfl⟩ | exact .inl ⟨rfl, fun w' hS' => by (obtain ⟨s1, s2, s3, s4⟩ := hS'; go_simp; rfl)⟩); simp only [Act.put, List.setIfInBounds_toArray, List.set_cons_succ, List.set_cons_zero, List.getElem_toArray, List.getElem_cons_succ, List.getElem_cons_zero]
   refine wpAnyF_two (i := 4) (j := 10) rfl rfl ⟨by kernel_rfl, by kernel_rfl, by kernel_rfl⟩ ?_ ?_
   ·
    intro K hK
    go_simp
    refine shutS hK (by obtain ⟨s1, s2, s3, s4⟩ := hS.out; exact ⟨by go_simp, by go_simp, by go_simp, by go_simp⟩) (fun hS => ?_)
    refine wpAnyF_two (i := 5) (j := 10) rfl rfl ⟨by kernel_rfl, by kernel_rfl, by kernel_rfl⟩ ?_ ?_
    ·
     intro K hK
     go_simp
     refine (concat_any _ _ _ _ _ a.st b.st _ (by omega) (by omega) (H1.out.below goBl) (H3.out.below goBl) (Box.cell (cs := #[.slice sa a.st.length sc, .slice sb b.st.length sd]) (t := 22) (by repeat (first | (with_reducible assumption) | (with_reducible refine Box.at _ _ yL) | (with_reducible refine Box.drew ?_) | (with_reducible refine Box.alloc ?_ _) | (with_reducible refine Box.other ?_ _ _ _ yL) | (refine Box.below ?_ hb2 yL) | (refine Box.below ?_ hb3 yL))) 0) (Box.cell (cs := #[.slice sa a.st.length sc, .slice sb b.st.length sd]) (t := 22) (by repeat (first | (with_reducible assumption) | (with_reducible refine Box.at _ _ yL) | (with_reducible refine Box.drew ?_) | (with_reducible refine Box.alloc ?_ _) | (with_reducible refine Box.other ?_ _ _ _ yL) | (refine Box.below ?_ hb2 yL) | (refine Box.below ?_ hb3 yL))) 1)).mono ?_
     rintro e w2 ⟨s1, c1, rfl, hb2, own1⟩
     have hz2 := hb2.size; (try simp at hz2)
     have ba2 : Box w2 w.heap.size #[.int .i64 a.id, .int .i64 a.hs, .slice sa a.st.length sc, .slice fa a.fo.length fc] 24 := Box.below (by repeat (first | (with_reducible assumption) | (with_reducible refine Box.at _ _ yL) | (with_reducible refine Box.drew ?_) | (with_reducible refine Box.alloc ?_ _) | (with_reducible refine Box.other ?_ _ _ _ yL) | (refine Box.below ?_ hb2 yL) | (refine Box.below ?_ hb3 yL))) hb2 yL
     have bb2 : Box w2 (w.heap.size + 1) #[.int .i64 b.id, .int .i64 b.hs, .slice sb b.st.length sd, .slice fb b.fo.length fd] 24 := Box.below (by repeat (first | (with_reducible assumption) | (with_reducible refine Box.at _ _ yL) | (with_reducible refine Box.drew ?_) | (with_reducible refine Box.alloc ?_ _) | (with_reducible refine Box.other ?_ _ _ _ yL) | (refine Box.below ?_ hb2 yL) | (refine Box.below ?_ hb3 yL))) hb2 yL
     have br2 : Box w2 (w.heap.size + 2) #[.int .i64 0, .int .i64 0, .slice none 0 0, .slice none 0 0] 24 := Box.below (by repeat (first | (with_reducible assumption) | (with_reducible refine Box.at _ _ yL) | (with_reducible refine Box.drew ?_) | (with_reducible refine Box.alloc ?_ _) | (with_reducible refine Box.other ?_ _ _ _ yL) | (refine Box.below ?_ hb2 yL) | (refine Box.below ?_ hb3 yL))) hb2 yL
     have hw2 : Below w.heap.size w w2 := goBl
     have z12 := ba2.lt; have z22 := bb2.lt
     refine shutS hK ⟨ba2.cell 2, ba2.cell 3, bb2.cell 2, bb2.cell 3⟩ (fun hS => ?_)
     (apply wpAnyF_pure (i := 12) rfl (by kernel_rfl) (fun _ _ _ h => h); · first | exact .inr ⟨rfl, rfl⟩ | exact .inl ⟨rfl, fun w' => by go_simp; rfl⟩); simp only [Act.put, List.setIfInBounds_toArray, List.set_cons_succ, List.set_cons_zero, List.getElem_toArray, List.getElem_cons_succ, List.getElem_cons_zero]
     refine wpAnyF_one (i := 10) rfl ⟨by kernel_rfl, by kernel_rfl⟩ ?_
     intro K hK
     go_simp
     refine shutS hK (by obtain ⟨s1, s2, s3, s4⟩ := hS.out; exact ⟨by go_simp, by go_simp, by go_simp, by go_simp⟩) (fun hS => ?_)
     refine wpAnyF_one (i := 11) rfl ⟨by kernel_rfl, by kernel_rfl⟩ ?_
     intro K hK
     go_simp
     refine (concat_any _ _ _ _ _ a.fo b.fo _ (by omega) (by omega) (H2.out.below goBl) (H4.out.below goBl) (Box.cell (cs := #[.slice fa a.fo.length fc, .slice fb b.fo.length fd]) (t := 22) (by repeat (first | (with_reducible assumption) | (with_reducible refine Box.at _ _ yL) | (with_reducible refine Box.drew ?_) | (with_reducible refine Box.alloc ?_ _) | (with_reducible refine Box.other ?_ _ _ _ yL) | (refine Box.below ?_ hb2 yL) | (refine Box.below ?_ hb3 yL))) 0) (Box.cell (cs := #[.slice fa a.fo.length fc, .slice fb b.fo.length fd]) (t := 22) (by repeat (first | (with_reducible assumption) | (with_reducible refine Box.at _ _ yL) | (with_reducible refine Box.drew ?_) | (with_reducible refine Box.alloc ?_ _) | (with_reducible refine Box.other ?_ _ _ _ yL) | (refine Box.below ?_ hb2 yL) | (refine Box.below ?_ hb3 yL))) 1)).mono ?_
     rintro e w3 ⟨s2, c2, rfl, hb3, own2⟩
     have hz3 := hb3.size; (try simp at hz3)
     have ba3 : Box w3 w.heap.size #[.int .i64 a.id, .int .i64 a.hs, .slice sa a.st.length sc, .slice fa a.fo.length fc] 24 := Box.below (by first | exact ba2 | exact ba2.alloc _ | exact (by repeat (first | (with_reducible assumption) | (with_reducible refine Box.at _ _ yL) | (with_reducible refine Box.drew ?_) | (with_reducible refine Box.alloc ?_ _) | (with_reducible refine Box.other ?_ _ _ _ yL) | (refine Box.below ?_ hb2 yL) | (refine Box.below ?_ hb3 yL)))) hb3 yL
     have bb3 : Box w3 (w.heap.size + 1) #[.int .i64 b.id, .int .i64 b.hs, .slice sb b.st.length sd, .slice fb b.fo.length fd] 24 := Box.below (by first | exact bb2 | exact bb2.alloc _ | exact (by repeat (first | (with_reducible assumption) | (with_reducible refine Box.at _ _ yL) | (with_reducible refine Box.drew ?_) | (with_reducible refine Box.alloc ?_ _) | (with_reducible refine Box.other ?_ _ _ _ yL) | (refine Box.below ?_ hb2 yL) | (refine Box.below ?_ hb3 yL)))) hb3 yL
     have br3 : Box w3 (w.heap.size + 2) #[.int .i64 0, .int .i64 0, .slice none 0 0, .slice none 0 0] 24 := Box.below (by first | exact br2 | exact br2.alloc _ | exact (by repeat (first | (with_reducible assumption) | (with_reducible refine Box.at _ _ yL) | (with_reducible refine Box.drew ?_) | (with_reducible refine Box.alloc ?_ _) | (with_reducible refine Box.other ?_ _ _ _ yL) | (refine Box.below ?_ hb2 yL) | (refine Box.below ?_ hb3 yL)))) hb3 yL
     have hw3 : Below w.heap.size w w3 := goBl
     have own13 : w3.ownsRow (w.heap.size + 3) 3 1 (.slice s1 (a.st.length + b.st.length) c1) (a.st.length + b.st.length) ((a.st ++ b.st).map (Value.int .i64)) := own_base (by first | exact own_below own1 hb3 (Nat.le_refl _) | exact own_below (own1.alloc _) hb3 (Nat.le_refl _)) yL
     have own23 : w3.ownsRow (w.heap.size + 3) 3 1 (.slice s2 (a.fo.length + b.fo.length) c2) (a.fo.length + b.fo.length) ((a.fo ++ b.fo).map (Value.int .i64)) := own_base own2 yL
     have hap : ApartV (.slice s1 (a.st.length + b.st.length) c1) (.slice s2 (a.fo.length + b.fo.length) c2) := own_apart own1 own2 yL
     have z13 := ba3.lt
     have g2 := ba3.cell 2; have g3 := ba3.cell 3; have k2 := ba3.frozen 2; have k3 := ba3.frozen 3
     simp at g2 g3
     refine shutN hK (by kernel_rfl) ?_
     refine wpAnyF_one (i := 13) rfl ⟨by kernel_rfl, by kernel_rfl⟩ ?_
     intro K hK
     go_simp
     refine shutN hK (by kernel_rfl) ?_
     (apply wpAnyF_pure (i := 14) rfl (by kernel_rfl) (fun _ _ _ h => h); · first | exact .inr ⟨rfl, rfl⟩ | exact .inl ⟨rfl, fun w' => by go_simp; rfl⟩); simp only [Act.put, List.setIfInBounds_toArray, List.set_cons_succ, List.set_cons_zero, List.getElem_toArray, List.getElem_cons_succ, List.getElem_cons_zero]
     refine wpAnyF_one (i := 15) rfl ⟨by kernel_rfl, by kernel_rfl⟩ ?_
     intro K hK
     go_simp
     refine shutN hK (by kernel_rfl) ?_
     refine wpAnyF_done (by kernel_rfl) ?_ _
     exact ⟨_, _, _, _, _, _, _, _, _, _, _, _, _, _, _, _, _, _, _, _, _, _, _, _, _, _, _, _, _, _, _, _, _, _, s1, c1, s2, c2, rfl, rfl, rfl, goBl, (ba3.set 2 _).set 3 _, (by repeat (first | (with_reducible assumption) | (with_reducible refine Box.at _ _ yL) | (with_reducible refine Box.drew ?_) | (with_reducible refine Box.alloc ?_ _) | (with_reducible refine Box.other ?_ _ _ _ yL) | (refine Box.below ?_ hb2 yL) | (refine Box.below ?_ hb3 yL))), own_other (own_other own13 yL) yL, own_other (own_other own23 yL) yL, hap⟩
    ·
     intro K hK
     go_simp
     refine shutS hK (by obtain ⟨s1, s2, s3, s4⟩ := hS.out; exact ⟨by go_simp, by go_simp, by go_simp, by go_simp⟩) (fun hS => ?_)
     refine wpAnyF_one (i := 5) rfl ⟨by kernel_rfl, by kernel_rfl⟩ ?_
     intro K hK
     go_simp
     refine (concat_any _ _ _ _ _ a.st b.st _ (by omega) (by omega) (H1.out.below goBl) (H3.out.below goBl) (Box.cell (cs := #[.slice sa a.st.length sc, .slice sb b.st.length sd]) (t := 22) (by repeat (first | (with_reducible assumption) | (with_reducible refine Box.at _ _ yL) | (with_reducible refine Box.drew ?_) | (with_reducible refine Box.alloc ?_ _) | (with_reducible refine Box.other ?_ _ _ _ yL) | (refine Box.below ?_ hb2 yL) | (refine Box.below ?_ hb3 yL))) 0) (Box.cell (cs := #[.slice sa a.st.length sc, .slice sb b.st.length sd]) (t := 22) (by repeat (first | (with_reducible assumption) | (with_reducible refine Box.at _ _ yL) | (with_reducible refine Box.drew ?_) | (with_reducible refine Box.alloc ?_ _) | (with_reducible refine Box.other ?_ _ _ _ yL) | (refine Box.below ?_ hb2 yL) | (refine Box.below ?_ hb3 yL))) 1)).mono ?_
     rintro e w2 ⟨s1, c1, rfl, hb2, own1⟩
     have hz2 := hb2.size; (try simp at hz2)
     have ba2 : Box w2 w.heap.size #[.int .i64 a.id, .int .i64 a.hs, .slice sa a.st.length sc, .slice fa a.fo.length fc] 24 := Box.below (by repeat (first | (with_reducible assumption) | (with_reducible refine Box.at _ _ yL) | (with_reducible refine Box.drew ?_) | (with_reducible refine Box.alloc ?_ _) | (with_reducible refine Box.other ?_ _ _ _ yL) | (refine Box.below ?_ hb2 yL) | (refine Box.below ?_ hb3 yL))) hb2 yL
     have bb2 : Box w2 (w.heap.size + 1) #[.int .i64 b.id, .int .i64 b.hs, .slice sb b.st.length sd, .slice fb b.fo.length fd] 24 := Box.below (by repeat (first | (with_reducible assumption) | (with_reducible refine Box.at _ _ yL) | (with_reducible refine Box.drew ?_) | (with_reducible refine Box.alloc ?_ _) | (with_reducible refine Box.other ?_ _ _ _ yL) | (refine Box.below ?_ hb2 yL) | (refine Box.below ?_ hb3 yL))) hb2 yL
     have br2 : Box w2 (w.heap.size + 2) #[.int .i64 0, .int .i64 0, .slice none 0 0, .slice none 0 0] 24 := Box.below (by repeat (first | (with_reducible assumption) | (with_reducible refine Box.at _ _ yL) | (with_reducible refine Box.drew ?_) | (with_reducible refine Box.alloc ?_ _) | (with_reducible refine Box.other ?_ _ _ _ yL) | (refine Box.below ?_ hb2 yL) | (refine Box.below ?_ hb3 yL))) hb2 yL
     have hw2 : Below w.heap.size w w2 := goBl
     have z12 := ba2.lt; have z22 := bb2.lt
     refine shutS hK ⟨ba2.cell 2, ba2.cell 3, bb2.cell 2, bb2.cell 3⟩ (fun hS => ?_)
     (apply wpAnyF_pure (i := 12) rfl (by kernel_rfl) (fun _ _ _ h => h); · first | exact .inr ⟨rfl, rfl⟩ | exact .inl ⟨rfl, fun w' => by go_simp; rfl⟩); simp only [Act.put, List.setIfInBounds_toArray, List.set_cons_succ, List.set_cons_zero, List.getElem_toArray, List.getElem_cons_succ, List.getElem_cons_zero]
     refine wpAnyF_one (i := 11) rfl ⟨by kernel_rfl, by kernel_rfl⟩ ?_
     intro K hK
     go_simp
     refine (concat_any _ _ _ _ _ a.fo b.fo _ (by omega) (by omega) (H2.out.below goBl) (H4.out.below goBl) (Box.cell (cs := #[.slice fa a.fo.length fc, .slice fb b.fo.length fd]) (t := 22) (by repeat (first | (with_reducible assumption) | (with_reducible refine Box.at _ _ yL) | (with_reducible refine Box.drew ?_) | (with_reducible refine Box.alloc ?_ _) | (with_reducible refine Box.other ?_ _ _ _ yL) | (refine Box.below ?_ hb2 yL) | (refine Box.below ?_ hb3 yL))) 0) (Box.cell (cs := #[.slice fa a.fo.length fc, .slice fb b.fo.length fd]) (t := 22) (by repeat (first | (with_reducible assumption) | (with_reducible refine Box.at _ _ yL) | (with_reducible refine Box.drew ?_) | (with_reducible refine Box.alloc ?_ _) | (with_reducible refine Box.other ?_ _ _ _ yL) | (refine Box.below ?_ hb2 yL) | (refine Box.below ?_ hb3 yL))) 1)).mono ?_
     rintro e w3 ⟨s2, c2, rfl, hb3, own2⟩
     have hz3 := hb3.size; (try simp at hz3)
     have ba3 : Box w3 w.heap.size #[.int .i64 a.id, .int .i64 a.hs, .slice sa a.st.length sc, .slice fa a.fo.length fc] 24 := Box.below (by first | exact ba2 | exact ba2.alloc _ | exact (by repeat (first | (with_reducible assumption) | (with_reducible refine Box.at _ _ yL) | (with_reducible refine Box.drew ?_) | (with_reducible refine Box.alloc ?_ _) | (with_reducible refine Box.other ?_ _ _ _ yL) | (refine Box.below ?_ hb2 yL) | (refine Box.below ?_ hb3 yL)))) hb3 yL
     have bb3 : Box w3 (w.heap.size + 1) #[.int .i64 b.id, .int .i64 b.hs, .slice sb b.st.length sd, .slice fb b.fo.length fd] 24 := Box.below (by first | exact bb2 | exact bb2.alloc _ | exact (by repeat (first | (with_reducible assumption) | (with_reducible refine Box.at _ _ yL) | (with_reducible refine Box.drew ?_) | (with_reducible refine Box.alloc ?_ _) | (with_reducible refine Box.other ?_ _ _ _ yL) | (refine Box.below ?_ hb2 yL) | (refine Box.below ?_ hb3 yL)))) hb3 yL
     have br3 : Box w3 (w.heap.size + 2) #[.int .i64 0, .int .i64 0, .slice none 0 0, .slice none 0 0] 24 := Box.below (by first | exact br2 | exact br2.alloc _ | exact (by repeat (first | (with_reducible assumption) | (with_reducible refine Box.at _ _ yL) | (with_reducible refine Box.drew ?_) | (with_reducible refine Box.alloc ?_ _) | (with_reducible refine Box.other ?_ _ _ _ yL) | (refine Box.below ?_ hb2 yL) | (refine Box.below ?_ hb3 yL)))) hb3 yL
     have hw3 : Below w.heap.size w w3 := goBl
     have own13 : w3.ownsRow (w.heap.size + 3) 3 1 (.slice s1 (a.st.length + b.st.length) c1) (a.st.length + b.st.length) ((a.st ++ b.st).map (Value.int .i64)) := own_base (by first | exact own_below own1 hb3 (Nat.le_refl _) | exact own_below (own1.alloc _) hb3 (Nat.le_refl _)) yL
     have own23 : w3.ownsRow (w.heap.size + 3) 3 1 (.slice s2 (a.fo.length + b.fo.length) c2) (a.fo.length + b.fo.length) ((a.fo ++ b.fo).map (Value.int .i64)) := own_base own2 yL
     have hap : ApartV (.slice s1 (a.st.length + b.st.length) c1) (.slice s2 (a.fo.length + b.fo.length) c2) := own_apart own1 own2 yL
     have z13 := ba3.lt
     have g2 := ba3.cell 2; have g3 := ba3.cell 3; have k2 := ba3.frozen 2; have k3 := ba3.frozen 3
     simp at g2 g3
     refine shutN hK (by kernel_rfl) ?_
     refine wpAnyF_one (i := 13) rfl ⟨by kernel_rfl, by kernel_rfl⟩ ?_
     intro K hK
     go_simp
     refine shutN hK (by kernel_rfl) ?_
     (apply wpAnyF_pure (i := 14) rfl (by kernel_rfl) (fun _ _ _ h => h); · first | exact .inr ⟨rfl, rfl⟩ | exact .inl ⟨rfl, fun w' => by go_simp; rfl⟩); simp only [Act.put, List.setIfInBounds_toArray, List.set_cons_succ, List.set_cons_zero, List.getElem_toArray, List.getElem_cons_succ, List.getElem_cons_zero]
     refine wpAnyF_one (i := 15) rfl ⟨by kernel_rfl, by kernel_rfl⟩ ?_
     intro K hK
     go_simp
     refine shutN hK (by kernel_rfl) ?_
     refine wpAnyF_done (by kernel_rfl) ?_ _
     exact ⟨_, _, _, _, _, _, _, _, _, _, _, _, _, _, _, _, _, _, _, _, _, _, _, _, _, _, _, _, _, _, _, _, _, _, s1, c1, s2, c2, rfl, rfl, rfl, goBl, (ba3.set 2 _).set 3 _, (by repeat (first | (with_reducible assumption) | (with_reducible refine Box.at _ _ yL) | (with_reducible refine Box.drew ?_) | (with_reducible refine Box.alloc ?_ _) | (with_reducible refine Box.other ?_ _ _ _ yL) | (refine Box.below ?_ hb2 yL) | (refine Box.below ?_ hb3 yL))), own_other (own_other own13 yL) yL, own_other (own_other own23 yL) yL, hap⟩
   ·
    intro K hK
    go_simp
    refine shutS hK (by obtain ⟨s1, s2, s3, s4⟩ := hS.out; exact ⟨by go_simp, by go_simp, by go_simp, by go_simp⟩) (fun hS => ?_)
    refine wpAnyF_one (i := 4) rfl ⟨by kernel_rfl, by kernel_rfl⟩ ?_
    intro K hK
    go_simp
    refine shutS hK (by obtain ⟨s1, s2, s3, s4⟩ := hS.out; exact ⟨by go_simp, by go_simp, by go_simp, by go_simp⟩) (fun hS => ?_)
    refine wpAnyF_one (i := 5) rfl ⟨by kernel_rfl, by kernel_rfl⟩ ?_
    intro K hK
    go_simp
    refine (concat_any _ _ _ _ _ a.st b.st _ (by omega) (by omega) (H1.out.below goBl) (H3.out.below goBl) (Box.cell (cs := #[.slice sa a.st.length sc, .slice sb b.st.length sd]) (t := 22) (by repeat (first | (with_reducible assumption) | (with_reducible refine Box.at _ _ yL) | (with_reducible refine Box.drew ?_) | (with_reducible refine Box.alloc ?_ _) | (with_reducible refine Box.other ?_ _ _ _ yL) | (refine Box.below ?_ hb2 yL) | (refine Box.below ?_ hb3 yL))) 0) (Box.cell (cs := #[.slice sa a.st.length sc, .slice sb b.st.length sd]) (t := 22) (by repeat (first | (with_reducible assumption) | (with_reducible refine Box.at _ _ yL) | (with_reducible refine Box.drew ?_) | (with_reducible refine Box.alloc ?_ _) | (with_reducible refine Box.other ?_ _ _ _ yL) | (refine Box.below ?_ hb2 yL) | (refine Box.below ?_ hb3 yL))) 1)).mono ?_
    rintro e w2 ⟨s1, c1, rfl, hb2, own1⟩
    have hz2 := hb2.size; (try simp at hz2)
    have ba2 : Box w2 w.heap.size #[.int .i64 a.id, .int .i64 a.hs, .slice sa a.st.length sc, .slice fa a.fo.length fc] 24 := Box.below (by repeat (first | (with_reducible assumption) | (with_reducible refine Box.at _ _ yL) | (with_reducible refine Box.drew ?_) | (with_reducible refine Box.alloc ?_ _) | (with_reducible refine Box.other ?_ _ _ _ yL) | (refine Box.below ?_ hb2 yL) | (refine Box.below ?_ hb3 yL))) hb2 yL
    have bb2 : Box w2 (w.heap.size + 1) #[.int .i64 b.id, .int .i64 b.hs, .slice sb b.st.length sd, .slice fb b.fo.length fd] 24 := Box.below (by repeat (first | (with_reducible assumption) | (with_reducible refine Box.at _ _ yL) | (with_reducible refine Box.drew ?_) | (with_reducible refine Box.alloc ?_ _) | (with_reducible refine Box.other ?_ _ _ _ yL) | (refine Box.below ?_ hb2 yL) | (refine Box.below ?_ hb3 yL))) hb2 yL
    have br2 : Box w2 (w.heap.size + 2) #[.int .i64 0, .int .i64 0, .slice none 0 0, .slice none 0 0] 24 := Box.below (by repeat (first | (with_reducible assumption) | (with_reducible refine Box.at _ _ yL) | (with_reducible refine Box.drew ?_) | (with_reducible refine Box.alloc ?_ _) | (with_reducible refine Box.other ?_ _ _ _ yL) | (refine Box.below ?_ hb2 yL) | (refine Box.below ?_ hb3 yL))) hb2 yL
    have hw2 : Below w.heap.size w w2 := goBl
    have z12 := ba2.lt; have z22 := bb2.lt
    refine shutS hK ⟨ba2.cell 2, ba2.cell 3, bb2.cell 2, bb2.cell 3⟩ (fun hS => ?_)
    (apply wpAnyF_pure (i := 12) rfl (by kernel_rfl) (fun _ _ _ h => h); · first | exact .inr ⟨rfl, rfl⟩ | exact .inl ⟨rfl, fun w' => by go_simp; rfl⟩); simp only [Act.put, List.setIfInBounds_toArray, List.set_cons_succ, List.set_cons_zero, List.getElem_toArray, List.getElem_cons_succ, List.getElem_cons_zero]
    refine wpAnyF_one (i := 11) rfl ⟨by kernel_rfl, by kernel_rfl⟩ ?_
    intro K hK
    go_simp
    refine (concat_any _ _ _ _ _ a.fo b.fo _ (by omega) (by omega) (H2.out.below goBl) (H4.out.below goBl) (Box.cell (cs := #[.slice fa a.fo.length fc, .slice fb b.fo.length fd]) (t := 22) (by repeat (first | (with_reducible assumption) | (with_reducible refine Box.at _ _ yL) | (with_reducible refine Box.drew ?_) | (with_reducible refine Box.alloc ?_ _) | (with_reducible refine Box.other ?_ _ _ _ yL) | (refine Box.below ?_ hb2 yL) | (refine Box.below ?_ hb3 yL))) 0) (Box.cell (cs := #[.slice fa a.fo.length fc, .slice fb b.fo.length fd]) (t := 22) (by repeat (first | (with_reducible assumption) | (with_reducible refine Box.at _ _ yL) | (with_reducible refine Box.drew ?_) | (with_reducible refine Box.alloc ?_ _) | (with_reducible refine Box.other ?_ _ _ _ yL) | (refine Box.below ?_ hb2 yL) | (refine Box.below ?_ hb3 yL))) 1)).mono ?_
    rintro e w3 ⟨s2, c2, rfl, hb3, own2⟩
    have hz3 := hb3.size; (try simp at hz3)
    have ba3 : Box w3 w.heap.size #[.int .i64 a.id, .int .i64 a.hs, .slice sa a.st.length sc, .slice fa a.fo.length fc] 24 := Box.below (by first | exact ba2 | exact ba2.alloc _ | exact (by repeat (first | (with_reducible assumption) | (with_reducible refine Box.at _ _ yL) | (with_reducible refine Box.drew ?_) | (with_reducible refine Box.alloc ?_ _) | (with_reducible refine Box.other ?_ _ _ _ yL) | (refine Box.below ?_ hb2 yL) | (refine Box.below ?_ hb3 yL)))) hb3 yL
    have bb3 : Box w3 (w.heap.size + 1) #[.int .i64 b.id, .int .i64 b.hs, .slice sb b.st.length sd, .slice fb b.fo.length fd] 24 := Box.below (by first | exact bb2 | exact bb2.alloc _ | exact (by repeat (first | (with_reducible assumption) | (with_reducible refine Box.at _ _ yL) | (with_reducible refine Box.drew ?_) | (with_reducible refine Box.alloc ?_ _) | (with_reducible refine Box.other ?_ _ _ _ yL) | (refine Box.below ?_ hb2 yL) | (refine Box.below ?_ hb3 yL)))) hb3 yL
    have br3 : Box w3 (w.heap.size + 2) #[.int .i64 0, .int .i64 0, .slice none 0 0, .slice none 0 0] 24 := Box.below (by first | exact br2 | exact br2.alloc _ | exact (by repeat (first | (with_reducible assumption) | (with_reducible refine Box.at _ _ yL) | (with_reducible refine Box.drew ?_) | (with_reducible refine Box.alloc ?_ _) | (with_reducible refine Box.other ?_ _ _ _ yL) | (refine Box.below ?_ hb2 yL) | (refine Box.below ?_ hb3 yL)))) hb3 yL
    have hw3 : Below w.heap.size w w3 := goBl
    have own13 : w3.ownsRow (w.heap.size + 3) 3 1 (.slice s1 (a.st.length + b.st.length) c1) (a.st.length + b.st.length) ((a.st ++ b.st).map (Value.int .i64)) := own_base (by first | exact own_below own1 hb3 (Nat.le_refl _) | exact own_below (own1.alloc _) hb3 (Nat.le_refl _)) yL
    have own23 : w3.ownsRow (w.heap.size + 3) 3 1 (.slice s2 (a.fo.length + b.fo.length) c2) (a.fo.length + b.fo.length) ((a.fo ++ b.fo).map (Value.int .i64)) := own_base own2 yL
    have hap : ApartV (.slice s1 (a.st.length + b.st.length) c1) (.slice s2 (a.fo.length + b.fo.length) c2) := own_apart own1 own2 yL
    have z13 := ba3.lt
    have g2 := ba3.cell 2; have g3 := ba3.cell 3; have k2 := ba3.frozen 2; have k3 := ba3.frozen 3
    simp at g2 g3
    refine shutN hK (by kernel_rfl) ?_
    refine wpAnyF_one (i := 13) rfl ⟨by kernel_rfl, by kernel_rfl⟩ ?_
    intro K hK
    go_simp
    refine shutN hK (by kernel_rfl) ?_
    (apply wpAnyF_pure (i := 14) rfl (by kernel_rfl) (fun _ _ _ h => h); · first | exact .inr ⟨rfl, rfl⟩ | exact .inl ⟨rfl, fun w' => by go_simp; rfl⟩); simp only [Act.put, List.setIfInBounds_toArray, List.set_cons_succ, List.set_cons_zero, List.getElem_toArray, List.getElem_cons_succ, List.getElem_cons_zero]
    refine wpAnyF_one (i := 15) rfl ⟨by kernel_rfl, by kernel_rfl⟩ ?_
    intro K hK
    go_simp
    refine shutN hK (by kernel_rfl) ?_
    refine wpAnyF_done (by kernel_rfl) ?_ _
    exact ⟨_, _, _, _, _, _, _, _, _, _, _, _, _, _, _, _, _, _, _, _, _, _, _, _, _, _, _, _, _, _, _, _, _, _, s1, c1, s2, c2, rfl, rfl, rfl, goBl, (ba3.set 2 _).set 3 _, (by repeat (first | (with_reducible assumption) | (with_reducible refine Box.at _ _ yL) | (with_reducible refine Box.drew ?_) | (with_reducible refine Box.alloc ?_ _) | (with_reducible refine Box.other ?_ _ _ _ yL) | (refine Box.below ?_ hb2 yL) | (refine Box.below ?_ hb3 yL))), own_other (own_other own13 yL) yL, own_other (own_other own23 yL) yL, hap⟩
  ·rintro a' w' ⟨x0, x1, x2, x3, x4, x5, x6, x7, x8, x9, x10, x11, x12, x13, x14, x15, x16, x17, x18, x19, x20, x21, x22, x23, x24, x25, x26, x27, x28, x29, x30, x31, x32, x33, s1, c1, s2, c2, rfl, rfl, rfl, hb, b1', b2', o1, o2, hap⟩
   obtain ⟨st, hst⟩ : ∃ st, st = a.st ++ b.st := ⟨_, rfl⟩
   obtain ⟨fo, hfo⟩ : ∃ fo, fo = a.fo ++ b.fo := ⟨_, rfl⟩
   have ln : a.st.length + b.st.length = st.length := by rw [hst, List.length_append]
   have ln2 : a.fo.length + b.fo.length = fo.length := by rw [hfo, List.length_append]
   have ls : st.length ≤ 4000 := by omega
   have lf : fo.length ≤ 4000 := by omega
   rw [ln] at b1' o1 hap
   rw [ln2] at b1' o2 hap
   rw [← hst] at o1
   rw [← hfo] at o2
   have J : Hid ((joinF a b) = if okT a.id a.hs st fo = true then (⟨a.id, a.hs, st, fo⟩, 0) else (zeroT, 9)) := by
    show joinF a b = _
    unfold joinF; rw [if_pos HK.out, hst, hfo]; rfl
   clear ba bb br ln ln2 hst hfo
   have e0 : w'.cell? ⟨w.heap.size, 0, none⟩ = some (.int .i64 a.id) := b1'.cell 0
   have e1 : w'.cell? ⟨w.heap.size, 1, none⟩ = some (.int .i64 a.hs) := b1'.cell 1
   have e2 : w'.cell? ⟨w.heap.size, 2, none⟩ = some (.slice s1 st.length c1) := b1'.cell 2
   have e3 : w'.cell? ⟨w.heap.size, 3, none⟩ = some (.slice s2 fo.length c2) := b1'.cell 3
   have O1 := hid o1; have O2 := hid o2; clear o1 o2
   go_wp2_with fail
   refine (check_any _ _ _ _ _ _ _ _ _ (HT.out.below goBl) ls lf (RdI.of_own O1.out) (RdI.of_own O2.out)).mono ?_
   rintro e w2 ⟨rfl, hb2⟩
   have hz2 := hb2.size; (try simp at hz2)
   have c1' : Box w2 w.heap.size #[.int .i64 a.id, .int .i64 a.hs, .slice s1 st.length c1, .slice s2 fo.length c2] 24 := b1'.below hb2 b1'.lt
   have c2' : Box w2 (w.heap.size + 2) #[.int .i64 0, .int .i64 0, .slice none 0 0, .slice none 0 0] 24 := b2'.below hb2 b2'.lt
   have P1 := hid (own_below O1.out hb2 (Nat.le_refl _))
   have P2 := hid (own_below O2.out hb2 (Nat.le_refl _))
   have hw2 : Below w.heap.size w w2 := hb.trans (hb2.mono hb.size)
   clear e0 e1 e2 e3 hb2
   have e0 : w2.cell? ⟨w.heap.size, 0, none⟩ = some (.int .i64 a.id) := c1'.cell 0
   have e1 : w2.cell? ⟨w.heap.size, 1, none⟩ = some (.int .i64 a.hs) := c1'.cell 1
   have e2 : w2.cell? ⟨w.heap.size, 2, none⟩ = some (.slice s1 st.length c1) := c1'.cell 2
   have e3 : w2.cell? ⟨w.heap.size, 3, none⟩ = some (.slice s2 fo.length c2) := c1'.cell 3
   have r0 : w2.cell? ⟨w.heap.size + 2, 0, none⟩ = some (.int .i64 0) := c2'.cell 0
   have r1 : w2.cell? ⟨w.heap.size + 2, 1, none⟩ = some (.int .i64 0) := c2'.cell 1
   have r2 : w2.cell? ⟨w.heap.size + 2, 2, none⟩ = some (.slice none 0 0) := c2'.cell 2
   have r3 : w2.cell? ⟨w.heap.size + 2, 3, none⟩ = some (.slice none 0 0) := c2'.cell 3
   have k0 := c2'.frozen 0; have k1 := c2'.frozen 1; have k2 := c2'.frozen 2; have k3 := c2'.frozen 3
   by_cases hk : okT a.id a.hs st fo = true
   ·have t2 : (errT (okT a.id a.hs st fo) != 0) = false := by rw [hk]; rfl
    have HK2 := hid hk; clear hk
    go_wp2_with fail
    refine bodyPost_ret (v := .tuple #[.agg #[.int .i64 a.id, .int .i64 a.hs, .slice s1 st.length c1, .slice s2 fo.length c2], .int .i64 0]) (by simp [results, Tryd.results22, go_sem, r0, r1, r2, r3]) rfl ?_
    rw [J.out, if_pos HK2.out]
    exact ⟨_, rfl, goBl, s1, c1, s2, c2, rfl, own_base (base := w.heap.size + 3) (own_other (own_other (own_other (own_other P1.out yL) yL) yL) yL) yL, own_base (base := w.heap.size + 3) (own_other (own_other (own_other (own_other P2.out yL) yL) yL) yL) yL, hap⟩
   ·have hk' : okT a.id a.hs st fo = false := by simpa using hk
    have t2 : (errT (okT a.id a.hs st fo) != 0) = true := by rw [hk']; rfl
    have HK2 := hid hk'; clear hk hk'
    go_wp2_with fail
    refine bodyPost_ret (v := .tuple #[.agg #[.int .i64 0, .int .i64 0, .slice none 0 0, .slice none 0 0], .int .i64 9]) (by simp [results, Tryd.results22, go_sem, r0, r1, r2, r3]) rfl ?_
    rw [J.out, HK2.out]
    exact ⟨_, rfl, goBl, NewT.zero _ _⟩
 ·have hok' : (a.ok && b.ok) = false := by simpa using hok
  have t1 : (errT (a.ok && b.ok) != 0) = true := by rw [hok']; rfl
  have J : Hid (joinF a b = (zeroT, 70)) := by show joinF a b = _; unfold joinF; rw [hok']; rfl
  have K := hid hok'; clear hok hok'
  have r0 := br.cell 0; have r1 := br.cell 1; have r2 := br.cell 2; have r3 := br.cell 3
  have k0 := br.frozen 0; have k1 := br.frozen 1; have k2 := br.frozen 2; have k3 := br.frozen 3
  simp at r0 r1 r2 r3
  go_wp2_with fail
  refine bodyPost_ret (v := .tuple #[.agg #[.int .i64 0, .int .i64 0, .slice none 0 0, .slice none 0 0], .int .i64 70]) (by simp [results, Tryd.results22, go_sem, r0, r1, r2, r3, K.out, errT]) rfl ?_
  rw [J.out]
  exact ⟨_, rfl, goBl, NewT.zero _ _⟩
def notchF (a : Tl) (k : Int) : Tl × Int := if a.ok then (if okN [k] then joinF a ⟨a.id, a.hs, [k], [k]⟩ else (zeroT, 72)) else (zeroT, 70)
theorem rdI_one {w : World} {B : Nat} {k : Int} {t : TypeId} (h : Box w B #[.int .i64 k] t) : RdI w (some ⟨B, 0, none⟩) [k] := fun i hi => by
 match i, hi with
 | 0, _ => exact ⟨B, 0, rfl, h.cell 0⟩
theorem notch_any (a : Tl) (k : Int) (sa fa : Option Addr) (sc fc : Nat) (w : World) (ht : Tab w) (ha : a.small) (h1 : RdI w sa a.st) (h2 : RdI w fa a.fo) :
  Calls Tryd.prog 20 #[.agg #[.int .i64 a.id, .int .i64 a.hs, .slice sa a.st.length sc, .slice fa a.fo.length fc], .int .i64 k] w
   fun e w' => ∃ v, e = .returned (.tuple #[v, .int .i64 (notchF a k).2]) ∧ Below w.heap.size w w' ∧ NewT w.heap.size w' v (notchF a k).1 := by
 have H1 := hid h1; have H2 := hid h2; clear h1 h2
 have HT := hid ht; clear ht
 have HA := hid ha; clear ha
 go_enter Tryd.func20, Tryd.ntmps20
 go_wp2_with fail
 refine (check_any _ _ _ _ _ _ _ _ _ (HT.out.below goBl) HA.out.1 HA.out.2 (H1.out.below goBl) (H2.out.below goBl)).mono ?_
 rintro e w1 ⟨rfl, hb1⟩
 have hz1 := hb1.size; (try simp only [World.size_alloc] at hz1)
 have ba : Box w1 w.heap.size #[.int .i64 a.id, .int .i64 a.hs, .slice sa a.st.length sc, .slice fa a.fo.length fc] 24 := Box.below (by repeat (first | (with_reducible assumption) | (with_reducible refine Box.at _ _ yL) | (with_reducible refine Box.drew ?_) | (with_reducible refine Box.alloc ?_ _) | (with_reducible refine Box.other ?_ _ _ _ yL) | (refine Box.below ?_ hb2 yL) | (refine Box.below ?_ hb3 yL))) hb1 yL
 have br : Box w1 (w.heap.size + 1) #[.int .i64 0, .int .i64 0, .slice none 0 0, .slice none 0 0] 24 := Box.below (by repeat (first | (with_reducible assumption) | (with_reducible refine Box.at _ _ yL) | (with_reducible refine Box.drew ?_) | (with_reducible refine Box.alloc ?_ _) | (with_reducible refine Box.other ?_ _ _ _ yL) | (refine Box.below ?_ hb2 yL) | (refine Box.below ?_ hb3 yL))) hb1 yL
 have hb : Below w.heap.size w w1 := goBl
 clear hb1
 have z1 := ba.lt; have z2 := br.lt
 by_cases hok : a.ok = true
 ·have t1 : (errT (okT a.id a.hs a.st a.fo) != 0) = false := by rw [show okT a.id a.hs a.st a.fo = true from hok]; rfl
  have HK := hid hok; clear hok
  go_wp2_with fail
  refine (kinds_any _ _ [k] _ (by simp) (rdI_one (t := 3) (by repeat (first | (with_reducible assumption) | (with_reducible refine Box.at _ _ yL) | (with_reducible refine Box.drew ?_) | (with_reducible refine Box.alloc ?_ _) | (with_reducible refine Box.other ?_ _ _ _ yL) | (refine Box.below ?_ hb2 yL) | (refine Box.below ?_ hb3 yL))))).mono ?_
  rintro e w2 ⟨rfl, hb2⟩
  have hz2 := hb2.size; (try simp only [World.size_alloc] at hz2)
  have ba2 : Box w2 w.heap.size #[.int .i64 a.id, .int .i64 a.hs, .slice sa a.st.length sc, .slice fa a.fo.length fc] 24 := Box.below (by repeat (first | (with_reducible assumption) | (with_reducible refine Box.at _ _ yL) | (with_reducible refine Box.drew ?_) | (with_reducible refine Box.alloc ?_ _) | (with_reducible refine Box.other ?_ _ _ _ yL) | (refine Box.below ?_ hb2 yL) | (refine Box.below ?_ hb3 yL))) hb2 yL
  have br2 : Box w2 (w.heap.size + 1) #[.int .i64 0, .int .i64 0, .slice none 0 0, .slice none 0 0] 24 := Box.below (by repeat (first | (with_reducible assumption) | (with_reducible refine Box.at _ _ yL) | (with_reducible refine Box.drew ?_) | (with_reducible refine Box.alloc ?_ _) | (with_reducible refine Box.other ?_ _ _ _ yL) | (refine Box.below ?_ hb2 yL) | (refine Box.below ?_ hb3 yL))) hb2 yL
  have hw2 : Below w.heap.size w w2 := goBl
  clear hb2
  have z12 := ba2.lt; have z22 := br2.lt
  by_cases hk : okN [k] = true
  ·have HK2 := hid hk
   have e0 : w2.cell? ⟨w.heap.size, 0, none⟩ = some (.int .i64 a.id) := ba2.cell 0
   have e1 : w2.cell? ⟨w.heap.size, 1, none⟩ = some (.int .i64 a.hs) := ba2.cell 1
   have e2 : w2.cell? ⟨w.heap.size, 2, none⟩ = some (.slice sa a.st.length sc) := ba2.cell 2
   have e3 : w2.cell? ⟨w.heap.size, 3, none⟩ = some (.slice fa a.fo.length fc) := ba2.cell 3
   go_wp2_with fail
   refine (join_any a ⟨a.id, a.hs, [k], [k]⟩ _ _ _ _ _ _ _ _ _ (HT.out.below goBl) HA.out ⟨by simp, by simp⟩ (H1.out.below goBl) (H2.out.below goBl) (rdI_one (t := 3) (by repeat (first | (with_reducible assumption) | (with_reducible refine Box.at _ _ yL) | (with_reducible refine Box.drew ?_) | (with_reducible refine Box.alloc ?_ _) | (with_reducible refine Box.other ?_ _ _ _ yL) | (refine Box.below ?_ hb2 yL) | (refine Box.below ?_ hb3 yL)))) (rdI_one (t := 3) (by repeat (first | (with_reducible assumption) | (with_reducible refine Box.at _ _ yL) | (with_reducible refine Box.drew ?_) | (with_reducible refine Box.alloc ?_ _) | (with_reducible refine Box.other ?_ _ _ _ yL) | (refine Box.below ?_ hb2 yL) | (refine Box.below ?_ hb3 yL))))).mono ?_
   rintro e w3 ⟨v, rfl, hb3, hn⟩
   have hz3 := hb3.size; (try simp only [World.size_alloc] at hz3)
   have br3 : Box w3 (w.heap.size + 1) #[.int .i64 0, .int .i64 0, .slice none 0 0, .slice none 0 0] 24 := Box.below (by repeat (first | (with_reducible assumption) | (with_reducible refine Box.at _ _ yL) | (with_reducible refine Box.drew ?_) | (with_reducible refine Box.alloc ?_ _) | (with_reducible refine Box.other ?_ _ _ _ yL) | (refine Box.below ?_ hb2 yL) | (refine Box.below ?_ hb3 yL))) hb3 yL
   have hw3 : Below w.heap.size w w3 := goBl
   obtain ⟨s1, c1, s2, c2, rfl, o1, o2, hap⟩ := hn
   have J : Hid (notchF a k = joinF a ⟨a.id, a.hs, [k], [k]⟩) := by show notchF a k = _; unfold notchF; rw [if_pos HK.out, if_pos HK2.out]
   have r0 : w3.cell? ⟨w.heap.size + 1, 0, none⟩ = some (.int .i64 0) := br3.cell 0
   have r1 : w3.cell? ⟨w.heap.size + 1, 1, none⟩ = some (.int .i64 0) := br3.cell 1
   have r2 : w3.cell? ⟨w.heap.size + 1, 2, none⟩ = some (.slice none 0 0) := br3.cell 2
   have r3 : w3.cell? ⟨w.heap.size + 1, 3, none⟩ = some (.slice none 0 0) := br3.cell 3
   have k0 := br3.frozen 0; have k1 := br3.frozen 1; have k2 := br3.frozen 2; have k3 := br3.frozen 3
   have O1 := hid o1; have O2 := hid o2; clear o1 o2
   generalize joinF a ⟨a.id, a.hs, [k], [k]⟩ = r at *
   go_wp2_with fail
   refine bodyPost_ret (v := .tuple #[.agg #[.int .i64 r.1.id, .int .i64 r.1.hs, .slice s1 r.1.st.length c1, .slice s2 r.1.fo.length c2], .int .i64 r.2]) (by simp [results, Tryd.results20, go_sem, r0, r1, r2, r3]) rfl ?_
   rw [J.out]
   refine ⟨_, rfl, goBl, s1, c1, s2, c2, rfl, ?_, ?_, hap⟩
   ·exact own_base (base := w.heap.size + 2) (own_other (own_other (own_other (own_other (own_base O1.out yL) yL) yL) yL) yL) yL
   ·exact own_base (base := w.heap.size + 2) (own_other (own_other (own_other (own_other (own_base O2.out yL) yL) yL) yL) yL) yL
  ·have hk' : okN [k] = false := by simpa using hk
   have J : Hid (notchF a k = (zeroT, 72)) := by show notchF a k = _; unfold notchF; rw [if_pos HK.out, hk']; rfl
   have r0 := br2.cell 0; have r1 := br2.cell 1; have r2 := br2.cell 2; have r3 := br2.cell 3
   have k0 := br2.frozen 0; have k1 := br2.frozen 1; have k2 := br2.frozen 2; have k3 := br2.frozen 3
   simp at r0 r1 r2 r3
   clear hk
   go_wp2_with fail
   refine bodyPost_ret (v := .tuple #[.agg #[.int .i64 0, .int .i64 0, .slice none 0 0, .slice none 0 0], .int .i64 72]) (by simp [results, Tryd.results20, go_sem, r0, r1, r2, r3]) rfl ?_
   rw [J.out]
   exact ⟨_, rfl, goBl, NewT.zero _ _⟩
 ·have hok' : okT a.id a.hs a.st a.fo = false := by simpa [Tl.ok] using hok
  have t1 : (errT (okT a.id a.hs a.st a.fo) != 0) = true := by rw [hok']; rfl
  have J : Hid (notchF a k = (zeroT, 70)) := by show notchF a k = _; unfold notchF; rw [if_neg hok]
  have K := hid hok'; clear hok hok'
  have r0 := br.cell 0; have r1 := br.cell 1; have r2 := br.cell 2; have r3 := br.cell 3
  have k0 := br.frozen 0; have k1 := br.frozen 1; have k2 := br.frozen 2; have k3 := br.frozen 3
  simp at r0 r1 r2 r3
  go_wp2_with fail
  refine bodyPost_ret (v := .tuple #[.agg #[.int .i64 0, .int .i64 0, .slice none 0 0, .slice none 0 0], .int .i64 70]) (by simp [results, Tryd.results20, go_sem, r0, r1, r2, r3, K.out, errT]) rfl ?_
  rw [J.out]
  exact ⟨_, rfl, goBl, NewT.zero _ _⟩
def cutSum (st fo : List Int) (n j : Nat) : Nat := dist (st.take n) (fo.take j) + dd st fo n j
def IsCut (st fo : List Int) (n k : Nat) : Prop := k ≤ fo.length ∧ cutSum st fo n k = dist st fo ∧ ∀ j, j < k → dist st fo < cutSum st fo n j
theorem cut_ge (st fo : List Int) (n j : Nat) : dist st fo ≤ cutSum st fo n j := dist_cut st fo n j
theorem cut_ex (st fo : List Int) (n : Nat) (h : n ≤ st.length) : ∃ j, j ≤ fo.length ∧ cutSum st fo n j ≤ dist st fo := dist_split st fo n h
theorem cut_le (st fo : List Int) (n j : Nat) (hl : st.length ≤ 1000) (hl2 : fo.length ≤ 1000) : cutSum st fo n j ≤ 4000 := by
 have h1 := dist_le (st.take n) (fo.take j)
 have h2 := dist_le (st.drop n) (fo.drop j)
 simp only [List.length_take, List.length_drop] at h1 h2
 unfold cutSum dd
 omega
theorem IsCut.unique {st fo : List Int} {n k k' : Nat} (h : IsCut st fo n k) (h' : IsCut st fo n k') : k = k' := by
 rcases Nat.lt_trichotomy k k' with hlt | heq | hlt
 ·have := h'.2.2 k hlt; have := h.2.1; omega
 ·exact heq
 ·have := h.2.2 k' hlt; have := h'.2.1; omega
def CutR (a : Tl) (at' : Int) (r : Int × Int) : Prop := (a.ok = false ∧ r = (0, 70)) ∨ (a.ok = true ∧ ¬ (0 ≤ at' ∧ at' ≤ a.st.length) ∧ r = (0, 73)) ∨
 (a.ok = true ∧ ∃ n k : Nat, at' = n ∧ n ≤ a.st.length ∧ IsCut a.st a.fo n k ∧ r = ((k : Int), 0))
theorem CutR.unique {a : Tl} {at' : Int} {r r' : Int × Int} (h : CutR a at' r) (h' : CutR a at' r') : r = r' := by
 rcases h with ⟨h1, rfl⟩ | ⟨h1, h2, rfl⟩ | ⟨h1, n, k, rfl, h3, h4, rfl⟩ <;> rcases h' with ⟨g1, rfl⟩ | ⟨g1, g2, rfl⟩ | ⟨g1, n', k', g2, g3, g4, rfl⟩
 all_goals first | rfl | (rw [h1] at g1; cases g1) | skip
 ·omega
 ·omega
 ·obtain rfl : n = n' := by omega
  rw [h4.unique g4]
theorem RdI.take {w : World} {a : Option Addr} {xs : List Int} (h : RdI w a xs) (n : Nat) : RdI w a (xs.take n) := fun i hi => by
 rw [List.length_take] at hi
 obtain ⟨b, o, ha, hc⟩ := h i (by omega)
 exact ⟨b, o, ha, by rw [hc, List.getElem_take]⟩
theorem where_any (a : Tl) (at' : Int) (sa fa : Option Addr) (sc fc : Nat) (w : World) (ht : Tab w) (hl : a.st.length ≤ 1000) (hl2 : a.fo.length ≤ 1000) (hc : a.st.length ≤ sc) (hc2 : a.fo.length ≤ fc) (h1 : RdI w sa a.st) (h2 : RdI w fa a.fo) :
  Calls Tryd.prog 26 #[.agg #[.int .i64 a.id, .int .i64 a.hs, .slice sa a.st.length sc, .slice fa a.fo.length fc], .int .i64 at'] w
   fun e w' => ∃ r : Int × Int, e = .returned (.tuple #[.int .i64 r.1, .int .i64 r.2]) ∧ CutR a at' r ∧ Below w.heap.size w w' := by
 have H1 := hid h1; have H2 := hid h2; clear h1 h2
 have HT := hid ht; clear ht
 have hm := mixedS
 go_enter Tryd.func26, Tryd.ntmps26
 go_wp2_with fail
 go_step3
 go_wp2_with fail
 refine (check_any _ _ _ _ _ _ _ _ _ (HT.out.below goBl) (by omega) (by omega) (H1.out.below goBl) (H2.out.below goBl)).mono ?_
 rintro e w1 ⟨rfl, hb1⟩
 have hz1 := (hb1).size; (try simp only [World.size_alloc, World.size_setCell, World.size_drew, World.heap_drewN] at hz1); obtain ⟨hc1, hf1⟩ := bcell hb1
 by_cases hok : okT a.id a.hs a.st a.fo = true
 ·have t1 : (errT (okT a.id a.hs a.st a.fo) != 0) = false := by rw [hok]; rfl
  have HK := hid hok; clear hok
  go_wp2_with fail
  refine (in_any 0 a.st.length _ _ [at'] _ (by simp) ?_).mono ?_
  ·intro i hi
   match i, hi with
   | 0, _ => exact ⟨_, _, rfl, by simp [go_sem]⟩
  rintro e w2 ⟨rfl, hb2⟩
  have b1 : Box w1 w.heap.size #[.int .i64 a.id, .int .i64 a.hs, .slice sa a.st.length sc, .slice fa a.fo.length fc] 24 := (Box.new w _ _).below hb1 (by simp)
  have b2 := (b1.alloc (.cells #[.int .i64 at'] 3)).below hb2 (by have := b1.lt; simp; omega)
  have hbw : Below w.heap.size w w2 := goBl
  by_cases hin : 0 ≤ at' ∧ at' ≤ a.st.length
  ·obtain ⟨n, rfl⟩ : ∃ n : Nat, at' = n := ⟨at'.toNat, by omega⟩
   have hn : n ≤ a.st.length := by omega
   have hall : ([(n : Int)].all fun n => decide (0 ≤ n) && decide (n ≤ (a.st.length : Int))) = true := by simp; omega
   rw [hall]
   clear hall hin
   have c0 : w2.cell? ⟨w.heap.size, 0, none⟩ = some (.int .i64 a.id) := b2.cell 0
   have c1 : w2.cell? ⟨w.heap.size, 1, none⟩ = some (.int .i64 a.hs) := b2.cell 1
   have c2 : w2.cell? ⟨w.heap.size, 2, none⟩ = some (.slice sa a.st.length sc) := b2.cell 2
   have c3 : w2.cell? ⟨w.heap.size, 3, none⟩ = some (.slice fa a.fo.length fc) := b2.cell 3
   go_wp2_with fail
   refine (halves_any a.id a.hs a.st a.fo sa fa sc fc w2 (by omega) (by omega) (H1.out.below hbw) (H2.out.below hbw)).mono ?_
   rintro e w3 ⟨pb, eb, kb, M, rfl, hb3, hM, hH⟩
   have b3 := b2.below hb3 b2.lt
   have HH := hid hH; clear hH
   have hfd := field_left
   unfold pairC leftV
   go_wp2_with fail
   have hH3 := HH.out.keep ((Keep.refl _ w3).alloc (.cells (pairC a.id a.hs a.st a.fo sa fa sc fc (leftV eb kb pb)) 134)) (HH.out.map.alloc _)
   refine (left_any pb eb kb M a.id a.hs a.st a.fo sa fa sc fc (by omega) (by omega) 0 0 _ (Nat.zero_le _) (Nat.zero_le _) hH3).mono ?_
   rintro e w4 ⟨rfl, hk4, hp4⟩
   have hsz3 := hb3.size
   have l2 := b2.lt
   have hMx : w.heap.size ≠ M := by omega
   have hMB : w3.heap.size ≠ M := by have := HH.out.map.lt; omega
   have hM2 : w2.heap.size ≤ M := hM
   clear c0 c1 c2 c3 b1 hb1 hb2
   go_wp2_with fail
   go_step3
   refine forget (fun W => Box W w.heap.size #[.int .i64 a.id, .int .i64 a.hs, .slice sa a.st.length sc, .slice fa a.fo.length fc] 24 ∧ Box W w3.heap.size (pairC a.id a.hs a.st a.fo sa fa sc fc (leftV eb kb pb)) 134 ∧ Half W pb eb kb M a.id a.hs a.st a.fo sa fa sc fc ∧ Below w.heap.size w W) ⟨?_, ?_, hH3.keep hk4 hp4, ?_⟩ ?_
   ·exact hk4.box hMx (b3.alloc _)
   ·exact hk4.box hMB (Box.new _ _ _)
   ·exact ((hbw.trans (hb3.mono hbw.size)).alloc (by have := hbw.size; omega) _).trans (hk4.below (B := w.heap.size) (fun k hk => show k ≠ M by have := hbw.size; omega) (by simp; have := hbw.size; omega))
   rintro W0 ⟨q1, q2, q3, q4⟩
   clear hk4 hp4 hH3 b2 b3 hb3
   have f3 : W0.cell? ⟨w.heap.size, 3, none⟩ = some (.slice fa a.fo.length fc) := q1.cell 3
   go_wp2_with fail
   have Q1 := hid q1; have Q2 := hid q2; have Q3 := hid q3; have Q4 := hid q4; clear q1 q2 q3 q4 f3
   obtain ⟨X, hX⟩ : ∃ X, X = w3.heap.size := ⟨_, rfl⟩
   have e1 : (a.st.take n).length = n := List.length_take_of_le hn
   have hnc : n ≤ sc := by omega
   rw [← hX] at Q2 hMB ⊢
   have lX : w.heap.size ≤ X := by omega
   clear hX
   go_loopw [32] (fun p W => ∃ j : Nat, j ≤ a.fo.length + 1 ∧ p = .int .i64 j ∧ (∀ i, i < j → dist a.st a.fo < cutSum a.st a.fo n i) ∧ Box W w.heap.size #[.int .i64 a.id, .int .i64 a.hs, .slice sa a.st.length sc, .slice fa a.fo.length fc] 24 ∧ Box W X (pairC a.id a.hs a.st a.fo sa fa sc fc (leftV eb kb pb)) 134 ∧ Half W pb eb kb M a.id a.hs a.st a.fo sa fa sc fc ∧ Below w.heap.size w W) (fun p _ => (a.fo.length + 1 - (intOf p).toNat))
   case atStart => exact ⟨0, by omega, rfl, fun i hi => absurd hi (Nat.not_lt_zero _), Q1.out, Q2.out, Q3.out, Q4.out⟩
   case round =>
    obtain ⟨j, hj, rfl, hno, q1, q2, q3, q4⟩ := hrel
    have Hno := hid hno; clear hno
    clear Q1 Q2 Q3 Q4
    by_cases hlt : j < a.fo.length + 1
    ·have hjf : j ≤ a.fo.length := by omega
     have hjc : j ≤ fc := by omega
     have e2 : (a.fo.take j).length = j := List.length_take_of_le hjf
     have g2 : wr.cell? ⟨w.heap.size, 2, none⟩ = some (.slice sa a.st.length sc) := q1.cell 2
     have g3 : wr.cell? ⟨w.heap.size, 3, none⟩ = some (.slice fa a.fo.length fc) := q1.cell 3
     have p4 : wr.cell? ⟨X, 4, none⟩ = some (.func (.func 106) #[] #[.pointer (some ⟨eb, 0, none⟩), .pointer (some ⟨kb, 0, none⟩), .pointer (some ⟨pb, 0, none⟩)]) := q2.cell 4
     have Q1 := hid q1; have Q2 := hid q2; have Q3 := hid q3; have Q4 := hid q4
     have lw := q1.lt; have lX2 := q2.lt
     have r1 := hid (q3.s.take n); have r2 := hid (q3.f.take j)
     have hs := cut_le a.st a.fo n j hl hl2
     clear q1 q2 q3 q4
     go_wp2_with fail
     refine wp_region_F [1, 5, 10] (fun w' => w'.cell? ⟨w.heap.size, 2, none⟩ = some (.slice sa a.st.length sc) ∧ w'.cell? ⟨w.heap.size, 3, none⟩ = some (.slice fa a.fo.length fc) ∧ w'.cell? ⟨X, 4, none⟩ = some (.func (.func 106) #[] #[.pointer (some ⟨eb, 0, none⟩), .pointer (some ⟨kb, 0, none⟩), .pointer (some ⟨pb, 0, none⟩)])) hm ⟨by go_simp, by go_simp, by go_simp⟩ ?_
     intro hS0; have hS := hid hS0; clear hS0
     (apply wpAnyF_pure (i := 0) rfl (by kernel_rfl) (fun _ _ _ h => h); · first | exact .inr ⟨rfl, rfl⟩ | exact .inl ⟨rfl, fun w' => by go_simp; rfl⟩); simp only [Act.put, List.setIfInBounds_toArray, List.set_cons_succ, List.set_cons_zero, List.getElem_toArray, List.getElem_cons_succ, List.getElem_cons_zero]
     (apply wpAnyF_held (i := 1) rfl (by kernel_rfl) (fun _ _ _ h => h) hS.out; · first | exact .inr ⟨rfl, rfl⟩ | exact .inl ⟨rfl, fun w' hS' => by (obtain ⟨s1, s2, s3⟩ := hS'; go_simp; rfl)⟩); simp only [Act.put, List.setIfInBounds_toArray, List.set_cons_succ, List.set_cons_zero, List.getElem_toArray, List.getElem_cons_succ, List.getElem_cons_zero]
     (apply wpAnyF_pure (i := 2) rfl (by kernel_rfl) (fun _ _ _ h => h); · first | exact .inr ⟨rfl, rfl⟩ | exact .inl ⟨rfl, fun w' => by go_simp; rfl⟩); simp only [Act.put, List.setIfInBounds_toArray, List.set_cons_succ, List.set_cons_zero, List.getElem_toArray, List.getElem_cons_succ, List.getElem_cons_zero]
     (apply wpAnyF_pure (i := 3) rfl (by kernel_rfl) (fun _ _ _ h => h); · first | exact .inr ⟨rfl, rfl⟩ | exact .inl ⟨rfl, fun w' => by go_simp; rfl⟩); simp only [Act.put, List.setIfInBounds_toArray, List.set_cons_succ, List.set_cons_zero, List.getElem_toArray, List.getElem_cons_succ, List.getElem_cons_zero]
     (apply wpAnyF_pure (i := 4) rfl (by kernel_rfl) (fun _ _ _ h => h); · first | exact .inr ⟨rfl, rfl⟩ | exact .inl ⟨rfl, fun w' => by go_simp; rfl⟩); simp only [Act.put, List.setIfInBounds_toArray, List.set_cons_succ, List.set_cons_zero, List.getElem_toArray, List.getElem_cons_succ, List.getElem_cons_zero]
     (apply wpAnyF_held (i := 5) rfl (by kernel_rfl) (fun _ _ _ h => h) hS.out; · first | exact .inr ⟨rfl, rfl⟩ | exact .inl ⟨rfl, fun w' hS' => by (obtain ⟨s1, s2, s3⟩ := hS'; go_simp; rfl)⟩); simp only [Act.put, List.setIfInBounds_toArray, List.set_cons_succ, List.set_cons_zero, List.getElem_toArray, List.getElem_cons_succ, List.getElem_cons_zero]
     (apply wpAnyF_pure (i := 6) rfl (by kernel_rfl) (fun _ _ _ h => h); · first | exact .inr ⟨rfl, rfl⟩ | exact .inl ⟨rfl, fun w' => by go_simp; rfl⟩); simp only [Act.put, List.setIfInBounds_toArray, List.set_cons_succ, List.set_cons_zero, List.getElem_toArray, List.getElem_cons_succ, List.getElem_cons_zero]
     (apply wpAnyF_pure (i := 7) rfl (by kernel_rfl) (fun _ _ _ h => h); · first | exact .inr ⟨rfl, rfl⟩ | exact .inl ⟨rfl, fun w' => by go_simp; rfl⟩); simp only [Act.put, List.setIfInBounds_toArray, List.set_cons_succ, List.set_cons_zero, List.getElem_toArray, List.getElem_cons_succ, List.getElem_cons_zero]
     (apply wpAnyF_pure (i := 9) rfl (by kernel_rfl) (fun _ _ _ h => h); · first | exact .inr ⟨rfl, rfl⟩ | exact .inl ⟨rfl, fun w' => by go_simp; rfl⟩); simp only [Act.put, List.setIfInBounds_toArray, List.set_cons_succ, List.set_cons_zero, List.getElem_toArray, List.getElem_cons_succ, List.getElem_cons_zero]
     (apply wpAnyF_held (i := 10) rfl (by kernel_rfl) (fun _ _ _ h => h) hS.out; · first | exact .inr ⟨rfl, rfl⟩ | exact .inl ⟨rfl, fun w' hS' => by (obtain ⟨s1, s2, s3⟩ := hS'; go_simp; rfl)⟩); simp only [Act.put, List.setIfInBounds_toArray, List.set_cons_succ, List.set_cons_zero, List.getElem_toArray, List.getElem_cons_succ, List.getElem_cons_zero]
     (apply wpAnyF_pure (i := 11) rfl (by kernel_rfl) (fun _ _ _ h => h); · first | exact .inr ⟨rfl, rfl⟩ | exact .inl ⟨rfl, fun w' => by go_simp; rfl⟩); simp only [Act.put, List.setIfInBounds_toArray, List.set_cons_succ, List.set_cons_zero, List.getElem_toArray, List.getElem_cons_succ, List.getElem_cons_zero]
     (apply wpAnyF_pure (i := 12) rfl (by kernel_rfl) (fun _ _ _ h => h); · first | exact .inr ⟨rfl, rfl⟩ | exact .inl ⟨rfl, fun w' => by go_simp; rfl⟩); simp only [Act.put, List.setIfInBounds_toArray, List.set_cons_succ, List.set_cons_zero, List.getElem_toArray, List.getElem_cons_succ, List.getElem_cons_zero]
     (apply wpAnyF_pure (i := 13) rfl (by kernel_rfl) (fun _ _ _ h => h); · first | exact .inr ⟨rfl, rfl⟩ | exact .inl ⟨rfl, fun w' => by go_simp; rfl⟩); simp only [Act.put, List.setIfInBounds_toArray, List.set_cons_succ, List.set_cons_zero, List.getElem_toArray, List.getElem_cons_succ, List.getElem_cons_zero]
     (apply wpAnyF_pure (i := 16) rfl (by kernel_rfl) (fun _ _ _ h => h); · first | exact .inr ⟨rfl, rfl⟩ | exact .inl ⟨rfl, fun w' => by go_simp; rfl⟩); simp only [Act.put, List.setIfInBounds_toArray, List.set_cons_succ, List.set_cons_zero, List.getElem_toArray, List.getElem_cons_succ, List.getElem_cons_zero]
     refine wpAnyF_one (i := 8) rfl ⟨by kernel_rfl, by kernel_rfl⟩ ?_
     intro K hK
     go_simp
     rw [show Value.slice sa n sc = .slice sa (a.st.take n).length sc by rw [e1], show Value.slice fa j fc = .slice fa (a.fo.take j).length fc by rw [e2]]
     refine (between_any (a.st.take n) (a.fo.take j) sa fa sc fc wr.drew (by omega) (by omega) r1.out.drew r2.out.drew).mono ?_
     rintro e w5 ⟨rfl, hb5⟩
     have hb5' : Below wr.heap.size wr w5 := ⟨hb5.os, hb5.tape, hb5.output, hb5.size, hb5.block⟩
     refine shutS hK ⟨(hb5'.cell (p := ⟨w.heap.size, 2, none⟩) lw).trans g2, (hb5'.cell (p := ⟨w.heap.size, 3, none⟩) lw).trans g3, (hb5'.cell (p := ⟨X, 4, none⟩) lX2).trans p4⟩ (fun hS => ?_)
     refine wpAnyF_one (i := 14) rfl ⟨by kernel_rfl, by kernel_rfl⟩ ?_
     intro K hK
     go_simp
     have Q3' := Q3.out.keep (Keep.of_below hb5' (fun _ h _ => h)) (Q3.out.map.kept (hb5'.block _ Q3.out.map.lt))
     refine (left_any pb eb kb M a.id a.hs a.st a.fo sa fa sc fc (by omega) (by omega) n j w5 hn hjf Q3').mono ?_
     rintro e w6 ⟨rfl, hk6, hp6⟩
     refine shutN hK (by kernel_rfl) ?_
     (apply wpAnyF_pure (i := 15) rfl (by kernel_rfl) (fun _ _ _ h => h); · first | exact .inr ⟨rfl, rfl⟩ | exact .inl ⟨rfl, fun w' => by go_simp; rfl⟩); simp only [Act.put, List.setIfInBounds_toArray, List.set_cons_succ, List.set_cons_zero, List.getElem_toArray, List.getElem_cons_succ, List.getElem_cons_zero]
     (apply wpAnyF_pure (i := 17) rfl (by kernel_rfl) (fun _ _ _ h => h); · first | exact .inr ⟨rfl, rfl⟩ | exact .inl ⟨rfl, fun w' => by go_simp; rfl⟩); simp only [Act.put, List.setIfInBounds_toArray, List.set_cons_succ, List.set_cons_zero, List.getElem_toArray, List.getElem_cons_succ, List.getElem_cons_zero]
     refine wpAnyF_done (by kernel_rfl) ?_ _
     clear hS
     have hw := wrap_small (n := (dist (a.st.take n) (a.fo.take j) : Int) + (dd a.st a.fo n j : Int)) (by omega) (by unfold cutSum at hs; omega)
     have K6 : Keep (· ≠ M) wr w6 := (Keep.of_below hb5' (fun _ h _ => h)).trans hk6
     have hge := cut_ge a.st a.fo n j
     have e0 : dd a.st a.fo 0 0 = dist a.st a.fo := rfl
     have es : cutSum a.st a.fo n j = dist (a.st.take n) (a.fo.take j) + dd a.st a.fo n j := rfl
     have z1 := K6.box hMx Q1.out
     have z2 := K6.box hMB Q2.out
     have z3 := Q3.out.keep K6 hp6
     have z4 := Q4.out.trans (K6.below (B := w.heap.size) (fun k hk => show k ≠ M by have := hbw.size; omega) (by omega))
     simp only [hw]
     by_cases hgt : (dd a.st a.fo 0 0 : Int) < (dist (a.st.take n) (a.fo.take j) : Int) + (dd a.st a.fo n j : Int)
     ·have HG := hid hgt
      go_wp2_with fail
      refine ⟨⟨j + 1, by omega, by simp, fun i hi => ?_, z1, z2, z3, z4⟩, by simp [intOf]; omega⟩
      by_cases hij : i = j
      ·subst hij; have := HG.out; omega
      ·exact Hno.out i (by omega)
     ·have HG := hid hgt
      go_wp2_with fail
      refine bodyPost_ret (results_tmp2 rfl _ _ _) rfl ?_
      exact ⟨((j : Int), 0), rfl, .inr (.inr ⟨HK.out, n, j, rfl, hn, ⟨hjf, by have := HG.out; omega, Hno.out⟩, rfl⟩), z4⟩
    ·obtain ⟨j', hj', hle⟩ := cut_ex a.st a.fo n hn
     exact absurd (Hno.out j' (by omega)) (by omega)
  ·have hall : ([at'].all fun n => decide (0 ≤ n) && decide (n ≤ (a.st.length : Int))) = false := by simp; omega
   rw [hall]
   clear hall
   have HI := hid hin; clear hin
   go_wp2_with fail
   rw [Exit.noGoto_ret]
   refine bodyPost_ret (results_tmp2 rfl _ _ _) rfl ?_
   exact ⟨(0, 73), rfl, .inr (.inl ⟨HK.out, HI.out, rfl⟩), hbw⟩
 ·have hok' : okT a.id a.hs a.st a.fo = false := by simpa using hok
  have t1 : (errT (okT a.id a.hs a.st a.fo) != 0) = true := by rw [hok']; rfl
  have t2 : errT (okT a.id a.hs a.st a.fo) = 70 := by rw [hok']; rfl
  have HK := hid hok'; clear hok hok'
  go_wp2_with fail
  rw [Exit.noGoto_ret]
  refine bodyPost_ret (results_tmp2 rfl _ _ _) rfl ?_
  exact ⟨(0, 70), rfl, .inl ⟨HK.out, rfl⟩, goBl⟩
def dropA (a : Option Addr) (c n : Nat) : Option Addr := if c = n then a else Option.map (fun x => x.add n) a
theorem RdI.dropA {w : World} {a : Option Addr} {xs : List Int} (h : RdI w a xs) {n c : Nat} (hc : xs.length ≤ c) : RdI w (dropA a c n) (xs.drop n) := fun i hi => by
 rw [List.length_drop] at hi
 obtain ⟨b, o, ha, hcell⟩ := h (n + i) (by omega)
 refine ⟨b, o + n, ?_, ?_⟩
 ·unfold Go.Proofs.YthddoikmgpgakaaDoor.dropA
  rw [if_neg (by omega), ha]
  have ea : (⟨b, o, Option.none⟩ : Addr).add n = ⟨b, o + n, Option.none⟩ := by unfold Addr.add; split <;> simp_all
  rw [Option.map_some, ea]
 ·rw [Nat.add_assoc, hcell, List.getElem_drop]
def splitF (a : Tl) (i j : Int) : Tl × Tl × Int :=
 if a.ok then if (0 ≤ i ∧ i ≤ a.st.length) ∧ (0 ≤ j ∧ j ≤ a.fo.length) then (⟨a.id, a.hs, a.st.take i.toNat, a.fo.take j.toNat⟩, ⟨a.id, a.hs, a.st.drop i.toNat, a.fo.drop j.toNat⟩, 0) else (zeroT, zeroT, 73) else (zeroT, zeroT, 70)
def NewB (B X : Nat) (w : World) (v : Value) (t : Tl) : Prop := ∃ sa sc fa fc, v = .agg #[.int .i64 t.id, .int .i64 t.hs, .slice sa t.st.length sc, .slice fa t.fo.length fc] ∧
 w.ownsRow B 3 1 (.slice sa t.st.length sc) t.st.length (t.st.map (Value.int .i64)) ∧ w.ownsRow B 3 1 (.slice fa t.fo.length fc) t.fo.length (t.fo.map (Value.int .i64)) ∧ ApartV (.slice sa t.st.length sc) (.slice fa t.fo.length fc) ∧
 (∀ g, (Value.slice sa t.st.length sc).ownBlock = some g → g < X) ∧ (∀ g, (Value.slice fa t.fo.length fc).ownBlock = some g → g < X)
theorem NewT.newB {B : Nat} {w : World} {v : Value} {t : Tl} (h : NewT B w v t) : NewB B w.heap.size w v t := by
 obtain ⟨sa, sc, fa, fc, hv, h1, h2, h3⟩ := h
 exact ⟨sa, sc, fa, fc, hv, h1, h2, h3, fun g hg => (h1.lt g hg).2, fun g hg => (h2.lt g hg).2⟩
theorem NewB.zero (B X : Nat) (w : World) : NewB B X w (.agg #[.int .i64 0, .int .i64 0, .slice none 0 0, .slice none 0 0]) zeroT :=
 ⟨none, 0, none, 0, rfl, World.ownsRow_nil _ _ _ _, World.ownsRow_nil _ _ _ _, fun g h => (by cases h), fun g h => (by cases h), fun g h => (by cases h)⟩
theorem NewB.base {B B' X : Nat} {w : World} {v : Value} {t : Tl} (h : NewB B X w v t) (hB : B' ≤ B) : NewB B' X w v t := by
 obtain ⟨sa, sc, fa, fc, hv, h1, h2, h3⟩ := h
 exact ⟨sa, sc, fa, fc, hv, own_base h1 hB, own_base h2 hB, h3⟩
theorem NewB.below {B B' X : Nat} {w w' : World} {v : Value} {t : Tl} (h : NewB B X w v t) (hb : Below B' w w') (hB : w.heap.size ≤ B') : NewB B X w' v t := by
 obtain ⟨sa, sc, fa, fc, hv, h1, h2, h3⟩ := h
 exact ⟨sa, sc, fa, fc, hv, own_below h1 hb hB, own_below h2 hb hB, h3⟩
theorem NewB.set {B X : Nat} {w : World} {v : Value} {t : Tl} (h : NewB B X w v t) {b j : Nat} (hb : b < B) (u : Value) : NewB B X (w.setCell ⟨b, j, none⟩ u) v t := by
 obtain ⟨sa, sc, fa, fc, hv, h1, h2, h3⟩ := h
 exact ⟨sa, sc, fa, fc, hv, own_other h1 hb, own_other h2 hb, h3⟩
theorem NewT.set {B : Nat} {w : World} {v : Value} {t : Tl} (h : NewT B w v t) {b j : Nat} (hb : b < B) (u : Value) : NewT B (w.setCell ⟨b, j, none⟩ u) v t := by
 obtain ⟨sa, sc, fa, fc, hv, h1, h2, h3⟩ := h
 exact ⟨sa, sc, fa, fc, hv, own_other h1 hb, own_other h2 hb, h3⟩
theorem NewT.set4 {B : Nat} {w : World} {v : Value} {t : Tl} (h : NewT B w v t) {b : Nat} (hb : b < B) (u0 u1 u2 u3 : Value) : NewT B ((((w.setCell ⟨b, 0, none⟩ u0).setCell ⟨b, 1, none⟩ u1).setCell ⟨b, 2, none⟩ u2).setCell ⟨b, 3, none⟩ u3) v t := (((h.set hb _).set hb _).set hb _).set hb _
theorem NewB.set4 {B X : Nat} {w : World} {v : Value} {t : Tl} (h : NewB B X w v t) {b : Nat} (hb : b < B) (u0 u1 u2 u3 : Value) : NewB B X ((((w.setCell ⟨b, 0, none⟩ u0).setCell ⟨b, 1, none⟩ u1).setCell ⟨b, 2, none⟩ u2).setCell ⟨b, 3, none⟩ u3) v t := (((h.set hb _).set hb _).set hb _).set hb _
theorem NewT.drew {B : Nat} {w : World} {v : Value} {t : Tl} (h : NewT B w v t) : NewT B w.drew v t := h
theorem NewB.drew {B X : Nat} {w : World} {v : Value} {t : Tl} (h : NewB B X w v t) : NewB B X w.drew v t := h
theorem box_oth4 {w : World} {b b' : Nat} {cs : Array Value} {t : TypeId} (h : Box w b cs t) (hne : b ≠ b') (u0 u1 u2 u3 : Value) : Box ((((w.setCell ⟨b', 0, none⟩ u0).setCell ⟨b', 1, none⟩ u1).setCell ⟨b', 2, none⟩ u2).setCell ⟨b', 3, none⟩ u3) b cs t :=
 (((h.other _ _ _ hne).other _ _ _ hne).other _ _ _ hne).other _ _ _ hne
theorem box_oth2 {w : World} {b b' j k : Nat} {cs : Array Value} {t : TypeId} (h : Box w b cs t) (hne : b ≠ b') (u0 u1 : Value) : Box ((w.setCell ⟨b', j, none⟩ u0).setCell ⟨b', k, none⟩ u1) b cs t :=
 (h.other _ _ _ hne).other _ _ _ hne
theorem box_put4 {w : World} {b : Nat} {t : TypeId} {u0 u1 u2 u3 : Value} (v0 v1 v2 v3 : Value) (h : Box w b #[u0, u1, u2, u3] t) : Box ((((w.setCell ⟨b, 0, none⟩ v0).setCell ⟨b, 1, none⟩ v1).setCell ⟨b, 2, none⟩ v2).setCell ⟨b, 3, none⟩ v3) b #[v0, v1, v2, v3] t := by
 have := (((h.set 0 v0).set 1 v1).set 2 v2).set 3 v3
 simpa using this
theorem box_four {w : World} {b : Nat} {t : TypeId} {v0 v1 v2 v3 : Value} (h : Box w b #[v0, v1, v2, v3] t) :
  (w.cell? ⟨b, 0, none⟩ = some v0 ∧ w.cell? ⟨b, 1, none⟩ = some v1 ∧ w.cell? ⟨b, 2, none⟩ = some v2 ∧ w.cell? ⟨b, 3, none⟩ = some v3) ∧ (w.frozen? ⟨b, 0, none⟩ = false ∧ w.frozen? ⟨b, 1, none⟩ = false ∧ w.frozen? ⟨b, 2, none⟩ = false ∧ w.frozen? ⟨b, 3, none⟩ = false) ∧ b < w.heap.size :=
 ⟨⟨h.cell 0, h.cell 1, h.cell 2, h.cell 3⟩, ⟨h.frozen 0, h.frozen 1, h.frozen 2, h.frozen 3⟩, h.lt⟩
theorem split_any (a : Tl) (i j : Int) (sa fa : Option Addr) (sc fc : Nat) (w : World) (ht : Tab w) (hl : a.st.length ≤ 1000) (hl2 : a.fo.length ≤ 1000) (hc : a.st.length ≤ sc) (hc2 : a.fo.length ≤ fc) (h1 : RdI w sa a.st) (h2 : RdI w fa a.fo) :
  Calls Tryd.prog 28 #[.agg #[.int .i64 a.id, .int .i64 a.hs, .slice sa a.st.length sc, .slice fa a.fo.length fc], .int .i64 i, .int .i64 j] w
   fun e w' => ∃ v u X, e = .returned (.tuple #[v, u, .int .i64 (splitF a i j).2.2]) ∧ Below w.heap.size w w' ∧ NewB w.heap.size X w' v (splitF a i j).1 ∧ w.heap.size ≤ X ∧ NewT X w' u (splitF a i j).2.1 := by
 have H1 := hid h1; have H2 := hid h2; clear h1 h2
 have HT := hid ht; clear ht
 have hm := mixed
 go_enter Tryd.func28, Tryd.ntmps28
 go_wp2_with fail
 refine (check_any _ _ _ _ _ _ _ _ _ (HT.out.below goBl) (by omega) (by omega) (H1.out.below goBl) (H2.out.below goBl)).mono ?_
 rintro e w1 ⟨rfl, hb1⟩
 have hz1 := hb1.size
 simp only [World.size_alloc] at hz1
 have bx := Box.below (w' := w1) (((Box.new w #[.int .i64 a.id, .int .i64 a.hs, .slice sa a.st.length sc, .slice fa a.fo.length fc] 24).alloc (.cells #[.int .i64 0, .int .i64 0, .slice none 0 0, .slice none 0 0] 24)).alloc (.cells #[.int .i64 0, .int .i64 0, .slice none 0 0, .slice none 0 0] 24)) hb1 (by simp; omega)
 have b6 := Box.below (w' := w1) ((Box.at (w := w.alloc (.cells #[.int .i64 a.id, .int .i64 a.hs, .slice sa a.st.length sc, .slice fa a.fo.length fc] 24)) (n := w.heap.size + 1) #[.int .i64 0, .int .i64 0, .slice none 0 0, .slice none 0 0] 24 (by simp)).alloc (.cells #[.int .i64 0, .int .i64 0, .slice none 0 0, .slice none 0 0] 24)) hb1 (by simp)
 have b7 := Box.below (w' := w1) (Box.at (w := (w.alloc (.cells #[.int .i64 a.id, .int .i64 a.hs, .slice sa a.st.length sc, .slice fa a.fo.length fc] 24)).alloc (.cells #[.int .i64 0, .int .i64 0, .slice none 0 0, .slice none 0 0] 24)) (n := w.heap.size + 1 + 1) #[.int .i64 0, .int .i64 0, .slice none 0 0, .slice none 0 0] 24 (by simp)) hb1 (by simp)
 have hbw : Below w.heap.size w w1 := goBl
 have BX := hid bx; have B6 := hid b6; have B7 := hid b7
 obtain ⟨⟨c0, c1, c2, c3⟩, ⟨k0, k1, k2, k3⟩, lx⟩ := box_four bx
 obtain ⟨⟨c60, c61, c62, c63⟩, ⟨k60, k61, k62, k63⟩, l6⟩ := box_four b6
 obtain ⟨⟨c70, c71, c72, c73⟩, ⟨k70, k71, k72, k73⟩, l7⟩ := box_four b7
 clear bx b6 b7
 have HB := hid hbw; clear hbw hb1
 by_cases hok : okT a.id a.hs a.st a.fo = true
 ·have t1 : (errT (okT a.id a.hs a.st a.fo) != 0) = false := by rw [hok]; rfl
  have HK := hid hok; clear hok
  go_wp2_with fail
  refine (in_any 0 a.st.length _ _ [i] _ (by simp) ?_).mono ?_
  ·intro i hi
   match i, hi with
   | 0, _ => exact ⟨_, _, rfl, by simp [go_sem]⟩
  rintro e w2 ⟨rfl, hb2⟩
  have hz2 := hb2.size
  simp only [World.size_alloc] at hz2
  have hbw2 : Below w.heap.size w w2 := (HB.out.alloc HB.out.size _).trans (hb2.mono (by simp; omega))
  have bx := (BX.out.alloc (.cells #[.int .i64 i] 3)).below hb2 (by simp; omega)
  have b6 := (B6.out.alloc (.cells #[.int .i64 i] 3)).below hb2 (by simp; omega)
  have b7 := (B7.out.alloc (.cells #[.int .i64 i] 3)).below hb2 (by simp; omega)
  clear BX B6 B7 HB c0 c1 c2 c3 k0 k1 k2 k3 lx c60 c61 c62 c63 k60 k61 k62 k63 l6 c70 c71 c72 c73 k70 k71 k72 k73 l7
  have BX := hid bx; have B6 := hid b6; have B7 := hid b7
  obtain ⟨⟨c0, c1, c2, c3⟩, ⟨k0, k1, k2, k3⟩, lx⟩ := box_four bx
  obtain ⟨⟨c60, c61, c62, c63⟩, ⟨k60, k61, k62, k63⟩, l6⟩ := box_four b6
  obtain ⟨⟨c70, c71, c72, c73⟩, ⟨k70, k71, k72, k73⟩, l7⟩ := box_four b7
  clear bx b6 b7
  have HB := hid hbw2; clear hbw2 hb2
  by_cases hin : 0 ≤ i ∧ i ≤ a.st.length
  ·have hall : ([i].all fun n => decide (0 ≤ n) && decide (n ≤ (a.st.length : Int))) = true := by simp; omega
   rw [hall]
   clear hall
   go_wp2_with fail
   refine (in_any 0 a.fo.length _ _ [j] _ (by simp) ?_).mono ?_
   ·intro i hi
    match i, hi with
    | 0, _ => exact ⟨_, _, rfl, by simp [go_sem]⟩
   rintro e w3 ⟨rfl, hb3⟩
   have hz3 := hb3.size
   simp only [World.size_alloc] at hz3
   have hbw3 : Below w.heap.size w w3 := (HB.out.alloc HB.out.size _).trans (hb3.mono (by simp; omega))
   have bx := (BX.out.alloc (.cells #[.int .i64 j] 3)).below hb3 (by simp; omega)
   have b6 := (B6.out.alloc (.cells #[.int .i64 j] 3)).below hb3 (by simp; omega)
   have b7 := (B7.out.alloc (.cells #[.int .i64 j] 3)).below hb3 (by simp; omega)
   clear BX B6 B7 HB c0 c1 c2 c3 k0 k1 k2 k3 lx c60 c61 c62 c63 k60 k61 k62 k63 l6 c70 c71 c72 c73 k70 k71 k72 k73 l7
   have BX := hid bx; have B6 := hid b6; have B7 := hid b7
   obtain ⟨⟨c0, c1, c2, c3⟩, ⟨k0, k1, k2, k3⟩, lx⟩ := box_four bx
   obtain ⟨⟨c60, c61, c62, c63⟩, ⟨k60, k61, k62, k63⟩, l6⟩ := box_four b6
   obtain ⟨⟨c70, c71, c72, c73⟩, ⟨k70, k71, k72, k73⟩, l7⟩ := box_four b7
   clear bx b6 b7
   have HB := hid hbw3; clear hbw3 hb3
   by_cases hjn : 0 ≤ j ∧ j ≤ a.fo.length
   ·have hall : ([j].all fun n => decide (0 ≤ n) && decide (n ≤ (a.fo.length : Int))) = true := by simp; omega
    rw [hall]
    clear hall
    have e0 : splitF a i j = (⟨a.id, a.hs, a.st.take i.toNat, a.fo.take j.toNat⟩, ⟨a.id, a.hs, a.st.drop i.toNat, a.fo.drop j.toNat⟩, 0) := by unfold splitF Tl.ok; rw [HK.out, if_pos rfl, if_pos ⟨hin, hjn⟩]
    have E0 := hid e0; clear e0
    obtain ⟨n, rfl⟩ : ∃ n : Nat, i = n := ⟨i.toNat, by omega⟩
    obtain ⟨m, rfl⟩ : ∃ m : Nat, j = m := ⟨j.toNat, by omega⟩
    have hn : n ≤ a.st.length := by omega
    have hmm : m ≤ a.fo.length := by omega
    have hnc : n ≤ sc := by omega
    have hmc : m ≤ fc := by omega
    clear hin hjn
    rw [show ((n : Int)).toNat = n from Int.toNat_natCast n, show ((m : Int)).toNat = m from Int.toNat_natCast m] at E0
    go_wp2_with fail
    refine wp_region_F [0, 1] (fun w' => w'.cell? ⟨w.heap.size, 0, none⟩ = some (.int .i64 a.id) ∧ w'.cell? ⟨w.heap.size, 1, none⟩ = some (.int .i64 a.hs) ∧ w'.cell? ⟨w.heap.size, 2, none⟩ = some (.slice sa a.st.length sc) ∧ w'.cell? ⟨w.heap.size, 3, none⟩ = some (.slice fa a.fo.length fc)) hm ⟨by go_simp, by go_simp, by go_simp, by go_simp⟩ ?_
    intro hS0; have hS := hid hS0; clear hS0
    (apply wpAnyF_held (i := 0) rfl (by kernel_rfl) (fun _ _ _ h => h) hS.out; · first | exact .inr ⟨rfl, rfl⟩ | exact .inl ⟨rfl, fun w' hS' => by (obtain ⟨s1, s2, s3, s4⟩ := hS'; go_simp; rfl)⟩); simp only [Act.put, List.setIfInBounds_toArray, List.set_cons_succ, List.set_cons_zero, List.getElem_toArray, List.getElem_cons_succ, List.getElem_cons_zero]
    (apply wpAnyF_held (i := 1) rfl (by kernel_rfl) (fun _ _ _ h => h) hS.out; · first | exact .inr ⟨rfl, rfl⟩ | exact .inl ⟨rfl, fun w' hS' => by (obtain ⟨s1, s2, s3, s4⟩ := hS'; go_simp; rfl)⟩); simp only [Act.put, List.setIfInBounds_toArray, List.set_cons_succ, List.set_cons_zero, List.getElem_toArray, List.getElem_cons_succ, List.getElem_cons_zero]
    refine wpAnyF_one (i := 2) rfl ⟨by kernel_rfl, by kernel_rfl⟩ ?_
    intro K hK
    go_simp
    refine shutS hK (by obtain ⟨s1, s2, s3, s4⟩ := hS.out; exact ⟨by go_simp, by go_simp, by go_simp, by go_simp⟩) (fun hS => ?_)
    refine wpAnyF_one (i := 3) rfl ⟨by kernel_rfl, by kernel_rfl⟩ ?_
    intro K hK
    go_simp
    refine shutN hK (by kernel_rfl) ?_
    refine wpAnyF_done (by kernel_rfl) ?_ _
    have HBo := HB.out
    refine wp_goal (fun W => Box W w.heap.size #[.int .i64 a.id, .int .i64 a.hs, .slice sa a.st.length sc, .slice fa a.fo.length fc] 24 ∧ Box W (w.heap.size + 1) #[.int .i64 a.id, .int .i64 a.hs, .slice sa a.st.length sc, .slice fa a.fo.length fc] 24 ∧ Box W (w.heap.size + 1 + 1) #[.int .i64 a.id, .int .i64 a.hs, .slice sa a.st.length sc, .slice fa a.fo.length fc] 24 ∧ Below w.heap.size w W) ⟨(box_oth4 (box_oth4 BX.out (by omega) _ _ _ _) (by omega) _ _ _ _).drew, (box_oth4 (box_put4 _ _ _ _ B6.out) (by omega) _ _ _ _).drew, (box_put4 _ _ _ _ (box_oth4 B7.out (by omega) _ _ _ _)).drew, goBl⟩ ?_
    clear HBo
    clear hS BX B6 B7 HB c0 c1 c2 c3 k0 k1 k2 k3 lx c60 c61 c62 c63 k60 k61 k62 k63 l6 c70 c71 c72 c73 k70 k71 k72 k73 l7
    rintro W6 ⟨bx, b6, b7, hbW⟩
    have BX := hid bx; have B6 := hid b6; have B7 := hid b7
    obtain ⟨⟨c0, c1, c2, c3⟩, ⟨k0, k1, k2, k3⟩, lx⟩ := box_four bx
    obtain ⟨⟨c60, c61, c62, c63⟩, ⟨k60, k61, k62, k63⟩, l6⟩ := box_four b6
    obtain ⟨⟨c70, c71, c72, c73⟩, ⟨k70, k71, k72, k73⟩, l7⟩ := box_four b7
    have HB := hid hbW
    clear bx b6 b7 hbW
    go_wp2_with fail
    refine wp_region_F [1, 5] (fun w' => w'.cell? ⟨w.heap.size, 2, none⟩ = some (.slice sa a.st.length sc) ∧ w'.cell? ⟨w.heap.size, 3, none⟩ = some (.slice fa a.fo.length fc)) hm ⟨by go_simp, by go_simp⟩ ?_
    intro hS0; have hS := hid hS0; clear hS0
    (apply wpAnyF_pure (i := 0) rfl (by kernel_rfl) (fun _ _ _ h => h); · first | exact .inr ⟨rfl, rfl⟩ | exact .inl ⟨rfl, fun w' => by go_simp; rfl⟩); simp only [Act.put, List.setIfInBounds_toArray, List.set_cons_succ, List.set_cons_zero, List.getElem_toArray, List.getElem_cons_succ, List.getElem_cons_zero]
    (apply wpAnyF_held (i := 1) rfl (by kernel_rfl) (fun _ _ _ h => h) hS.out; · first | exact .inr ⟨rfl, rfl⟩ | exact .inl ⟨rfl, fun w' hS' => by (obtain ⟨s1, s2⟩ := hS'; go_simp; rfl)⟩); simp only [Act.put, List.setIfInBounds_toArray, List.set_cons_succ, List.set_cons_zero, List.getElem_toArray, List.getElem_cons_succ, List.getElem_cons_zero]
    (apply wpAnyF_pure (i := 2) rfl (by kernel_rfl) (fun _ _ _ h => h); · first | exact .inr ⟨rfl, rfl⟩ | exact .inl ⟨rfl, fun w' => by go_simp; rfl⟩); simp only [Act.put, List.setIfInBounds_toArray, List.set_cons_succ, List.set_cons_zero, List.getElem_toArray, List.getElem_cons_succ, List.getElem_cons_zero]
    (apply wpAnyF_pure (i := 3) rfl (by kernel_rfl) (fun _ _ _ h => h); · first | exact .inr ⟨rfl, rfl⟩ | exact .inl ⟨rfl, fun w' => by go_simp; rfl⟩); simp only [Act.put, List.setIfInBounds_toArray, List.set_cons_succ, List.set_cons_zero, List.getElem_toArray, List.getElem_cons_succ, List.getElem_cons_zero]
    (apply wpAnyF_pure (i := 4) rfl (by kernel_rfl) (fun _ _ _ h => h); · first | exact .inr ⟨rfl, rfl⟩ | exact .inl ⟨rfl, fun w' => by go_simp; rfl⟩); simp only [Act.put, List.setIfInBounds_toArray, List.set_cons_succ, List.set_cons_zero, List.getElem_toArray, List.getElem_cons_succ, List.getElem_cons_zero]
    (apply wpAnyF_held (i := 5) rfl (by kernel_rfl) (fun _ _ _ h => h) hS.out; · first | exact .inr ⟨rfl, rfl⟩ | exact .inl ⟨rfl, fun w' hS' => by (obtain ⟨s1, s2⟩ := hS'; go_simp; rfl)⟩); simp only [Act.put, List.setIfInBounds_toArray, List.set_cons_succ, List.set_cons_zero, List.getElem_toArray, List.getElem_cons_succ, List.getElem_cons_zero]
    (apply wpAnyF_pure (i := 6) rfl (by kernel_rfl) (fun _ _ _ h => h); · first | exact .inr ⟨rfl, rfl⟩ | exact .inl ⟨rfl, fun w' => by go_simp; rfl⟩); simp only [Act.put, List.setIfInBounds_toArray, List.set_cons_succ, List.set_cons_zero, List.getElem_toArray, List.getElem_cons_succ, List.getElem_cons_zero]
    (apply wpAnyF_pure (i := 7) rfl (by kernel_rfl) (fun _ _ _ h => h); · first | exact .inr ⟨rfl, rfl⟩ | exact .inl ⟨rfl, fun w' => by go_simp; rfl⟩); simp only [Act.put, List.setIfInBounds_toArray, List.set_cons_succ, List.set_cons_zero, List.getElem_toArray, List.getElem_cons_succ, List.getElem_cons_zero]
    (apply wpAnyF_pure (i := 8) rfl (by kernel_rfl) (fun _ _ _ h => h); · first | exact .inr ⟨rfl, rfl⟩ | exact .inl ⟨rfl, fun w' => by go_simp; rfl⟩); simp only [Act.put, List.setIfInBounds_toArray, List.set_cons_succ, List.set_cons_zero, List.getElem_toArray, List.getElem_cons_succ, List.getElem_cons_zero]
    refine wpAnyF_one (i := 9) rfl ⟨by kernel_rfl, by kernel_rfl⟩ ?_
    intro K hK
    go_simp
    refine shutS hK (by obtain ⟨s1, s2⟩ := hS.out; exact ⟨by go_simp, by go_simp⟩) (fun hS => ?_)
    (apply wpAnyF_pure (i := 10) rfl (by kernel_rfl) (fun _ _ _ h => h); · first | exact .inr ⟨rfl, rfl⟩ | exact .inl ⟨rfl, fun w' => by go_simp; rfl⟩); simp only [Act.put, List.setIfInBounds_toArray, List.set_cons_succ, List.set_cons_zero, List.getElem_toArray, List.getElem_cons_succ, List.getElem_cons_zero]
    refine wpAnyF_one (i := 11) rfl ⟨by kernel_rfl, by kernel_rfl⟩ ?_
    intro K hK
    go_simp
    refine shutN hK (by kernel_rfl) ?_
    refine wpAnyF_done (by kernel_rfl) ?_ _
    have HBo := HB.out
    refine wp_goal (fun W => Box W w.heap.size #[.int .i64 a.id, .int .i64 a.hs, .slice sa a.st.length sc, .slice fa a.fo.length fc] 24 ∧ Box W (w.heap.size + 1) #[.int .i64 a.id, .int .i64 a.hs, .slice sa n sc, .slice fa m fc] 24 ∧ Box W (w.heap.size + 1 + 1) #[.int .i64 a.id, .int .i64 a.hs, .slice sa a.st.length sc, .slice fa a.fo.length fc] 24 ∧ Below w.heap.size w W) ⟨(box_oth2 BX.out (by omega) _ _).drew, ((B6.out.set 2 _).set 3 _).drew, (box_oth2 B7.out (by omega) _ _).drew, goBl⟩ ?_
    clear HBo
    clear hS BX B6 B7 HB c0 c1 c2 c3 k0 k1 k2 k3 lx c60 c61 c62 c63 k60 k61 k62 k63 l6 c70 c71 c72 c73 k70 k71 k72 k73 l7
    rintro W7 ⟨bx, b6, b7, hbW⟩
    have BX := hid bx; have B6 := hid b6; have B7 := hid b7
    obtain ⟨⟨c0, c1, c2, c3⟩, ⟨k0, k1, k2, k3⟩, lx⟩ := box_four bx
    obtain ⟨⟨c60, c61, c62, c63⟩, ⟨k60, k61, k62, k63⟩, l6⟩ := box_four b6
    obtain ⟨⟨c70, c71, c72, c73⟩, ⟨k70, k71, k72, k73⟩, l7⟩ := box_four b7
    have HB := hid hbW
    clear bx b6 b7 hbW
    go_wp2_with fail
    refine wp_region_F [1, 5] (fun w' => w'.cell? ⟨w.heap.size, 2, none⟩ = some (.slice sa a.st.length sc) ∧ w'.cell? ⟨w.heap.size, 3, none⟩ = some (.slice fa a.fo.length fc)) hm ⟨by go_simp, by go_simp⟩ ?_
    intro hS0; have hS := hid hS0; clear hS0
    (apply wpAnyF_pure (i := 0) rfl (by kernel_rfl) (fun _ _ _ h => h); · first | exact .inr ⟨rfl, rfl⟩ | exact .inl ⟨rfl, fun w' => by go_simp; rfl⟩); simp only [Act.put, List.setIfInBounds_toArray, List.set_cons_succ, List.set_cons_zero, List.getElem_toArray, List.getElem_cons_succ, List.getElem_cons_zero]
    (apply wpAnyF_held (i := 1) rfl (by kernel_rfl) (fun _ _ _ h => h) hS.out; · first | exact .inr ⟨rfl, rfl⟩ | exact .inl ⟨rfl, fun w' hS' => by (obtain ⟨s1, s2⟩ := hS'; go_simp; rfl)⟩); simp only [Act.put, List.setIfInBounds_toArray, List.set_cons_succ, List.set_cons_zero, List.getElem_toArray, List.getElem_cons_succ, List.getElem_cons_zero]
    (apply wpAnyF_pure (i := 2) rfl (by kernel_rfl) (fun _ _ _ h => h); · first | exact .inr ⟨rfl, rfl⟩ | exact .inl ⟨rfl, fun w' => by go_simp; rfl⟩); simp only [Act.put, List.setIfInBounds_toArray, List.set_cons_succ, List.set_cons_zero, List.getElem_toArray, List.getElem_cons_succ, List.getElem_cons_zero]
    (apply wpAnyF_pure (i := 3) rfl (by kernel_rfl) (fun _ _ _ h => h); · first | exact .inr ⟨rfl, rfl⟩ | exact .inl ⟨rfl, fun w' => by go_simp; rfl⟩); simp only [Act.put, List.setIfInBounds_toArray, List.set_cons_succ, List.set_cons_zero, List.getElem_toArray, List.getElem_cons_succ, List.getElem_cons_zero]
    (apply wpAnyF_pure (i := 4) rfl (by kernel_rfl) (fun _ _ _ h => h); · first | exact .inr ⟨rfl, rfl⟩ | exact .inl ⟨rfl, fun w' => by go_simp; rfl⟩); simp only [Act.put, List.setIfInBounds_toArray, List.set_cons_succ, List.set_cons_zero, List.getElem_toArray, List.getElem_cons_succ, List.getElem_cons_zero]
    (apply wpAnyF_held (i := 5) rfl (by kernel_rfl) (fun _ _ _ h => h) hS.out; · first | exact .inr ⟨rfl, rfl⟩ | exact .inl ⟨rfl, fun w' hS' => by (obtain ⟨s1, s2⟩ := hS'; go_simp; rfl)⟩); simp only [Act.put, List.setIfInBounds_toArray, List.set_cons_succ, List.set_cons_zero, List.getElem_toArray, List.getElem_cons_succ, List.getElem_cons_zero]
    (apply wpAnyF_pure (i := 6) rfl (by kernel_rfl) (fun _ _ _ h => h); · first | exact .inr ⟨rfl, rfl⟩ | exact .inl ⟨rfl, fun w' => by go_simp; rfl⟩); simp only [Act.put, List.setIfInBounds_toArray, List.set_cons_succ, List.set_cons_zero, List.getElem_toArray, List.getElem_cons_succ, List.getElem_cons_zero]
    (apply wpAnyF_pure (i := 7) rfl (by kernel_rfl) (fun _ _ _ h => h); · first | exact .inr ⟨rfl, rfl⟩ | exact .inl ⟨rfl, fun w' => by go_simp; rfl⟩); simp only [Act.put, List.setIfInBounds_toArray, List.set_cons_succ, List.set_cons_zero, List.getElem_toArray, List.getElem_cons_succ, List.getElem_cons_zero]
    (apply wpAnyF_pure (i := 8) rfl (by kernel_rfl) (fun _ _ _ h => h); · first | exact .inr ⟨rfl, rfl⟩ | exact .inl ⟨rfl, fun w' => by go_simp; rfl⟩); simp only [Act.put, List.setIfInBounds_toArray, List.set_cons_succ, List.set_cons_zero, List.getElem_toArray, List.getElem_cons_succ, List.getElem_cons_zero]
    refine wpAnyF_one (i := 9) rfl ⟨by kernel_rfl, by kernel_rfl⟩ ?_
    intro K hK
    go_simp
    refine shutS hK (by obtain ⟨s1, s2⟩ := hS.out; exact ⟨by go_simp, by go_simp⟩) (fun hS => ?_)
    (apply wpAnyF_pure (i := 10) rfl (by kernel_rfl) (fun _ _ _ h => h); · first | exact .inr ⟨rfl, rfl⟩ | exact .inl ⟨rfl, fun w' => by go_simp; rfl⟩); simp only [Act.put, List.setIfInBounds_toArray, List.set_cons_succ, List.set_cons_zero, List.getElem_toArray, List.getElem_cons_succ, List.getElem_cons_zero]
    refine wpAnyF_one (i := 11) rfl ⟨by kernel_rfl, by kernel_rfl⟩ ?_
    intro K hK
    go_simp
    refine shutN hK (by kernel_rfl) ?_
    refine wpAnyF_done (by kernel_rfl) ?_ _
    have HBo := HB.out
    rw [show (if sc = n then sa else Option.map (fun x => x.add n) sa) = dropA sa sc n from rfl, show (if fc = m then fa else Option.map (fun x => x.add m) fa) = dropA fa fc m from rfl]
    refine wp_goal (fun W => Box W w.heap.size #[.int .i64 a.id, .int .i64 a.hs, .slice sa a.st.length sc, .slice fa a.fo.length fc] 24 ∧ Box W (w.heap.size + 1) #[.int .i64 a.id, .int .i64 a.hs, .slice sa n sc, .slice fa m fc] 24 ∧ Box W (w.heap.size + 1 + 1) #[.int .i64 a.id, .int .i64 a.hs, .slice (dropA sa sc n) (a.st.length - n) (sc - n), .slice (dropA fa fc m) (a.fo.length - m) (fc - m)] 24 ∧ Below w.heap.size w W) ⟨(box_oth2 BX.out (by omega) _ _).drew, (box_oth2 B6.out (by omega) _ _).drew, ((B7.out.set 2 _).set 3 _).drew, goBl⟩ ?_
    clear HBo
    clear hS BX B6 B7 HB c0 c1 c2 c3 k0 k1 k2 k3 lx c60 c61 c62 c63 k60 k61 k62 k63 l6 c70 c71 c72 c73 k70 k71 k72 k73 l7
    rintro W8 ⟨bx, b6, b7, hbW⟩
    have BX := hid bx; have B6 := hid b6; have B7 := hid b7
    obtain ⟨⟨c0, c1, c2, c3⟩, ⟨k0, k1, k2, k3⟩, lx⟩ := box_four bx
    obtain ⟨⟨c60, c61, c62, c63⟩, ⟨k60, k61, k62, k63⟩, l6⟩ := box_four b6
    obtain ⟨⟨c70, c71, c72, c73⟩, ⟨k70, k71, k72, k73⟩, l7⟩ := box_four b7
    have HB := hid hbW
    clear bx b6 b7 hbW
    go_wp2_with fail
    refine wp_region_F [0, 2] (fun w' => (w'.cell? ⟨w.heap.size + 1, 0, none⟩ = some (.int .i64 a.id) ∧ w'.cell? ⟨w.heap.size + 1, 1, none⟩ = some (.int .i64 a.hs) ∧ w'.cell? ⟨w.heap.size + 1, 2, none⟩ = some (.slice sa n sc) ∧ w'.cell? ⟨w.heap.size + 1, 3, none⟩ = some (.slice fa m fc)) ∧ (w'.cell? ⟨w.heap.size + 1 + 1, 0, none⟩ = some (.int .i64 a.id) ∧ w'.cell? ⟨w.heap.size + 1 + 1, 1, none⟩ = some (.int .i64 a.hs) ∧ w'.cell? ⟨w.heap.size + 1 + 1, 2, none⟩ = some (.slice (dropA sa sc n) (a.st.length - n) (sc - n)) ∧ w'.cell? ⟨w.heap.size + 1 + 1, 3, none⟩ = some (.slice (dropA fa fc m) (a.fo.length - m) (fc - m)))) hm ⟨⟨by go_simp, by go_simp, by go_simp, by go_simp⟩, ⟨by go_simp, by go_simp, by go_simp, by go_simp⟩⟩ ?_
    intro hS0; have hS := hid hS0; clear hS0
    (apply wpAnyF_held (i := 0) rfl (by kernel_rfl) (fun _ _ _ h => h) hS.out; · first | exact .inr ⟨rfl, rfl⟩ | exact .inl ⟨rfl, fun w' hS' => by (obtain ⟨s1, s2⟩ := hS'; go_simp; rfl)⟩); simp only [Act.put, List.setIfInBounds_toArray, List.set_cons_succ, List.set_cons_zero, List.getElem_toArray, List.getElem_cons_succ, List.getElem_cons_zero]
    (apply wpAnyF_held (i := 2) rfl (by kernel_rfl) (fun _ _ _ h => h) hS.out; · first | exact .inr ⟨rfl, rfl⟩ | exact .inl ⟨rfl, fun w' hS' => by (obtain ⟨s1, s2⟩ := hS'; go_simp; rfl)⟩); simp only [Act.put, List.setIfInBounds_toArray, List.set_cons_succ, List.set_cons_zero, List.getElem_toArray, List.getElem_cons_succ, List.getElem_cons_zero]
    refine wpAnyF_one (i := 1) rfl ⟨by kernel_rfl, by kernel_rfl⟩ ?_
    intro K hK
    go_simp
    have q1 : (a.st.take n).length = n := List.length_take_of_le hn
    have q2 : (a.fo.take m).length = m := List.length_take_of_le hmm
    rw [show Value.slice sa n sc = .slice sa (a.st.take n).length sc by rw [q1], show Value.slice fa m fc = .slice fa (a.fo.take m).length fc by rw [q2]]
    refine (copied_any ⟨a.id, a.hs, a.st.take n, a.fo.take m⟩ sa fa sc fc W8.drew (by dsimp only; omega) (by dsimp only; omega) ((H1.out.below HB.out).take n).drew ((H2.out.below HB.out).take m).drew).mono ?_
    rintro e w9 ⟨v1, rfl, hb9, hN1⟩
    have hb9' : Below W8.heap.size W8 w9 := ⟨hb9.os, hb9.tape, hb9.output, hb9.size, hb9.block⟩
    have N1 := hid (show NewT W8.heap.size w9 v1 _ from hN1)
    have D6 := B6.out.below hb9' l6
    have D7 := B7.out.below hb9' l7
    refine shutS hK ⟨(box_four D6).1, (box_four D7).1⟩ (fun hS => ?_)
    refine wpAnyF_one (i := 3) rfl ⟨by kernel_rfl, by kernel_rfl⟩ ?_
    intro K hK
    go_simp
    have q3 : (a.st.drop n).length = a.st.length - n := List.length_drop
    have q4 : (a.fo.drop m).length = a.fo.length - m := List.length_drop
    rw [show Value.slice (dropA sa sc n) (a.st.length - n) (sc - n) = .slice (dropA sa sc n) (a.st.drop n).length (sc - n) by rw [q3], show Value.slice (dropA fa fc m) (a.fo.length - m) (fc - m) = .slice (dropA fa fc m) (a.fo.drop m).length (fc - m) by rw [q4]]
    refine (copied_any ⟨a.id, a.hs, a.st.drop n, a.fo.drop m⟩ (dropA sa sc n) (dropA fa fc m) (sc - n) (fc - m) w9 (by dsimp only; omega) (by dsimp only; omega) (((H1.out.below HB.out).dropA hc).below hb9') (((H2.out.below HB.out).dropA hc2).below hb9')).mono ?_
    rintro e w10 ⟨v2, rfl, hb10, hN2⟩
    have N2 := hid hN2
    have s9 := hb9'.size
    have E6 := D6.below hb10 (by omega)
    have E7 := D7.below hb10 (by omega)
    obtain ⟨⟨f60, f61, f62, f63⟩, ⟨g60, g61, g62, g63⟩, m6⟩ := box_four E6
    obtain ⟨⟨f70, f71, f72, f73⟩, ⟨g70, g71, g72, g73⟩, m7⟩ := box_four E7
    obtain ⟨sa1, sc1, fa1, fc1, hv1, _, _, _⟩ := hN1
    obtain ⟨sa2, sc2, fa2, fc2, hv2, _, _, _⟩ := hN2
    subst hv1 hv2
    dsimp only
    refine shutN hK (by kernel_rfl) ?_
    refine wpAnyF_one (i := 4) rfl ⟨by kernel_rfl, by kernel_rfl⟩ ?_
    intro K hK
    go_simp
    refine shutN hK (by kernel_rfl) ?_
    refine wpAnyF_one (i := 5) rfl ⟨by kernel_rfl, by kernel_rfl⟩ ?_
    intro K hK
    go_simp
    refine shutN hK (by kernel_rfl) ?_
    (apply wpAnyF_pure (i := 6) rfl (by kernel_rfl) (fun _ _ _ h => h); · first | exact .inr ⟨rfl, rfl⟩ | exact .inl ⟨rfl, fun w' => by go_simp; rfl⟩); simp only [Act.put, List.setIfInBounds_toArray, List.set_cons_succ, List.set_cons_zero, List.getElem_toArray, List.getElem_cons_succ, List.getElem_cons_zero]
    refine wpAnyF_done (by kernel_rfl) ?_ _
    have hbT := (HB.out.trans (hb9'.mono HB.out.size)).trans (hb10.mono (by have := HB.out.size; omega))
    have P1 := ((((N1.out.newB.below hb10 (Nat.le_refl _)).set4 (b := w.heap.size + 1) (by omega) (.int .i64 a.id) (.int .i64 a.hs) (.slice sa1 n sc1) (.slice fa1 m fc1)).set4 (b := w.heap.size + 1 + 1) (by omega) (.int .i64 a.id) (.int .i64 a.hs) (.slice sa2 (a.st.length - n) sc2) (.slice fa2 (a.fo.length - m) fc2))).base HB.out.size
    have P2 := (N2.out.set4 (b := w.heap.size + 1) (by omega) (.int .i64 a.id) (.int .i64 a.hs) (.slice sa1 n sc1) (.slice fa1 m fc1)).set4 (b := w.heap.size + 1 + 1) (by omega) (.int .i64 a.id) (.int .i64 a.hs) (.slice sa2 (a.st.length - n) sc2) (.slice fa2 (a.fo.length - m) fc2)
    dsimp only at P1 P2
    rw [List.length_take_of_le hn, List.length_take_of_le hmm] at P1
    rw [List.length_drop, List.length_drop] at P2
    have hX9 : w.heap.size ≤ w9.heap.size := by have := HB.out.size; omega
    refine wp_goal (fun W => Box W (w.heap.size + 1) #[.int .i64 a.id, .int .i64 a.hs, .slice sa1 n sc1, .slice fa1 m fc1] 24 ∧ Box W (w.heap.size + 1 + 1) #[.int .i64 a.id, .int .i64 a.hs, .slice sa2 (a.st.length - n) sc2, .slice fa2 (a.fo.length - m) fc2] 24 ∧ Below w.heap.size w W ∧ NewB w.heap.size w9.heap.size W (.agg #[.int .i64 a.id, .int .i64 a.hs, .slice sa1 n sc1, .slice fa1 m fc1]) ⟨a.id, a.hs, a.st.take n, a.fo.take m⟩ ∧ NewT w9.heap.size W (.agg #[.int .i64 a.id, .int .i64 a.hs, .slice sa2 (a.st.length - n) sc2, .slice fa2 (a.fo.length - m) fc2]) ⟨a.id, a.hs, a.st.drop n, a.fo.drop m⟩) ⟨box_oth4 (box_put4 _ _ _ _ E6) (by omega) _ _ _ _, box_put4 _ _ _ _ (box_oth4 E7 (by omega) _ _ _ _), goBl, P1, P2⟩ ?_
    clear hbT P1 P2 N1 N2 E6 E7 D6 D7 hb9' hb10 hb9 f60 f61 f62 f63 g60 g61 g62 g63 m6 f70 f71 f72 f73 g70 g71 g72 g73 m7
    clear hS BX B6 B7 HB c0 c1 c2 c3 k0 k1 k2 k3 lx c60 c61 c62 c63 k60 k61 k62 k63 l6 c70 c71 c72 c73 k70 k71 k72 k73 l7
    rintro W ⟨z6, z7, hbT, P1, P2⟩
    have P1' := hid P1; have P2' := hid P2; clear P1 P2
    obtain ⟨⟨f60, f61, f62, f63⟩, _, _⟩ := box_four z6
    obtain ⟨⟨f70, f71, f72, f73⟩, _, _⟩ := box_four z7
    have HZ := hid hbT; clear hbT z6 z7
    go_wp2_with fail
    refine bodyPost_ret (v := .tuple #[.agg #[.int .i64 a.id, .int .i64 a.hs, .slice sa1 n sc1, .slice fa1 m fc1], .agg #[.int .i64 a.id, .int .i64 a.hs, .slice sa2 (a.st.length - n) sc2, .slice fa2 (a.fo.length - m) fc2], .int .i64 0]) (by simp [results, Tryd.results28, go_sem, f60, f61, f62, f63, f70, f71, f72, f73]) rfl ?_
    rw [E0.out]
    exact ⟨_, _, rfl, HZ.out, w9.heap.size, P1'.out, hX9, P2'.out⟩
   ·have hall : ([j].all fun n => decide (0 ≤ n) && decide (n ≤ (a.fo.length : Int))) = false := by simp; omega
    rw [hall]
    clear hall
    have e0 : splitF a i j = (zeroT, zeroT, 73) := by unfold splitF Tl.ok; rw [HK.out, if_pos rfl, if_neg (fun h => hjn h.2)]
    have E0 := hid e0; clear e0
    go_wp2_with fail
    have HBo := HB.out
    refine bodyPost_ret (v := .tuple #[.agg #[.int .i64 0, .int .i64 0, .slice none 0 0, .slice none 0 0], .agg #[.int .i64 0, .int .i64 0, .slice none 0 0, .slice none 0 0], .int .i64 73]) (by simp [results, Tryd.results28, go_sem, c60, c61, c62, c63, c70, c71, c72, c73]) rfl ?_
    rw [E0.out]
    exact ⟨_, _, w.heap.size, rfl, goBl, NewB.zero _ _ _, Nat.le_refl _, NewT.zero _ _⟩
  ·have hall : ([i].all fun n => decide (0 ≤ n) && decide (n ≤ (a.st.length : Int))) = false := by simp; omega
   rw [hall]
   clear hall
   have e0 : splitF a i j = (zeroT, zeroT, 73) := by unfold splitF Tl.ok; rw [HK.out, if_pos rfl, if_neg (fun h => hin h.1)]
   have E0 := hid e0; clear e0 hin
   go_wp2_with fail
   have HBo := HB.out
   refine bodyPost_ret (v := .tuple #[.agg #[.int .i64 0, .int .i64 0, .slice none 0 0, .slice none 0 0], .agg #[.int .i64 0, .int .i64 0, .slice none 0 0, .slice none 0 0], .int .i64 73]) (by simp [results, Tryd.results28, go_sem, c60, c61, c62, c63, c70, c71, c72, c73]) rfl ?_
   rw [E0.out]
   exact ⟨_, _, w.heap.size, rfl, goBl, NewB.zero _ _ _, Nat.le_refl _, NewT.zero _ _⟩
 ·have hok' : okT a.id a.hs a.st a.fo = false := by simpa using hok
  have t1 : (errT (okT a.id a.hs a.st a.fo) != 0) = true := by rw [hok']; rfl
  have t2 : errT (okT a.id a.hs a.st a.fo) = 70 := by rw [hok']; rfl
  have e0 : splitF a i j = (zeroT, zeroT, 70) := by unfold splitF Tl.ok; rw [hok']; rfl
  have E0 := hid e0
  clear hok hok' e0
  go_wp2_with fail
  have HBo := HB.out
  refine bodyPost_ret (v := .tuple #[.agg #[.int .i64 0, .int .i64 0, .slice none 0 0, .slice none 0 0], .agg #[.int .i64 0, .int .i64 0, .slice none 0 0, .slice none 0 0], .int .i64 70]) (by simp [results, Tryd.results28, go_sem, c60, c61, c62, c63, c70, c71, c72, c73]) rfl ?_
  rw [E0.out]
  exact ⟨_, _, w.heap.size, rfl, goBl, NewB.zero _ _ _, Nat.le_refl _, NewT.zero _ _⟩
def falseR (a : Tl) : Int × Int := if okT a.id a.hs a.st a.fo = true then (dist a.st a.fo, 0) else (0, 70)
theorem false_any (a : Tl) (sa fa : Option Addr) (sc fc : Nat) (w : World) (ht : Tab w) (hl : a.st.length ≤ 1000) (hl2 : a.fo.length ≤ 1000) (h1 : RdI w sa a.st) (h2 : RdI w fa a.fo) :
  Calls Tryd.prog 30 #[.agg #[.int .i64 a.id, .int .i64 a.hs, .slice sa a.st.length sc, .slice fa a.fo.length fc]] w
   fun e w' => e = .returned (.tuple #[.int .i64 (falseR a).1, .int .i64 (falseR a).2]) ∧ Below w.heap.size w w' := by
 have H1 := hid h1; have H2 := hid h2; clear h1 h2
 have HT := hid ht; clear ht
 go_enter Tryd.func30, Tryd.ntmps30
 go_wp2_with fail
 refine (check_any _ _ _ _ _ _ _ _ _ (HT.out.below goBl) (by omega) (by omega) (H1.out.below goBl) (H2.out.below goBl)).mono ?_
 rintro e w1 ⟨rfl, hb1⟩
 have b1 := (Box.new w #[.int .i64 a.id, .int .i64 a.hs, .slice sa a.st.length sc, .slice fa a.fo.length fc] 24).below hb1 (by simp)
 have c2 : w1.cell? ⟨w.heap.size, 2, none⟩ = some (.slice sa a.st.length sc) := b1.cell 2
 have c3 : w1.cell? ⟨w.heap.size, 3, none⟩ = some (.slice fa a.fo.length fc) := b1.cell 3
 have hbw : Below w.heap.size w w1 := goBl
 clear b1 hb1
 by_cases hok : okT a.id a.hs a.st a.fo = true
 ·have t1 : (errT (okT a.id a.hs a.st a.fo) != 0) = false := by rw [hok]; rfl
  have HK := hid hok; clear hok
  go_wp2_with fail
  refine (between_any a.st a.fo sa fa sc fc w1 (by omega) (by omega) (H1.out.below hbw) (H2.out.below hbw)).mono ?_
  rintro e w2 ⟨rfl, hb2⟩
  have hb := hbw.trans (hb2.mono hbw.size)
  clear t1 c2 c3 hbw hb2
  go_wp2_with fail
  refine bodyPost_ret (results_tmp2 rfl _ _ _) rfl ?_
  unfold falseR; rw [if_pos HK.out]
  exact ⟨rfl, hb⟩
 ·have t1 : (errT (okT a.id a.hs a.st a.fo) != 0) = true := by rw [Bool.not_eq_true] at hok; rw [hok]; rfl
  have t2 : errT (okT a.id a.hs a.st a.fo) = 70 := by rw [Bool.not_eq_true] at hok; rw [hok]; rfl
  have HK := hid hok; clear hok
  rw [t2] at t1 ⊢
  clear t2
  go_wp2_with fail
  refine bodyPost_ret (results_tmp2 rfl _ _ _) rfl ?_
  unfold falseR; rw [if_neg HK.out]
  exact ⟨rfl, hbw⟩
end Go.Proofs.YthddoikmgpgakaaDoor
