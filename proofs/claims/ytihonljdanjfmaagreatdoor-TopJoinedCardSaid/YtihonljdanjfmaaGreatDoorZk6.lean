/- Proofs for the seat's cards: All, Owes, Wide, Concat, Table, RefC0, Br8, DoorB, Twin, Join, False, SwI, SwQ, TJa, FloorV, FloorW, FloorX, FloorY, FloorM, FloorOa. No condition of its own. -/
import Derived.Test.YtihonljdanjfmaaGreatDoorProg
import Derived.Outline
import Derived.RangeFuncNested
import Derived.Shelf.Abstract
import Derived.Deep.QuietTactic
import Derived.BigQuiet
import Derived.Deep.RegionHeld3
import Derived.WalkSmall
import Derived.Laws.EntriesVeiled
import Derived.WalkMore
import Derived.Lib.AppendZerosOnto
import Derived.Lib.Walk
import Derived.Lib.SliceRun
import Derived.Laws.MakeOwn
import Derived.Deep.Cut
import Derived.Deep.AppendLies
import Derived.Lib.LazyBuf
import Derived.Test.YtihonljdanjfmaaGreatDoorZk5
set_option linter.unusedVariables false
set_option linter.unusedSimpArgs false
set_option maxRecDepth 40000
set_option maxHeartbeats 32000000
namespace Go.Proofs.YtihonljdanjfmaaGreatDoor
open Go.RowKit Go.Proofs Go.Shelf
def errAll (ts : List Tl) : Int := if 6 < ts.length then 2 else if ts.all Tl.ok then 0 else 70
theorem all_any (a : Option Addr) (c : Nat) (ts : List Tl) (w : World) (hl : ts.length ≤ 4000) (ht : Tab w) (hs : ∀ t ∈ ts, t.small) (h : RdT w a ts) :
  Calls Tryz.prog 102 #[.slice a ts.length c] w fun e w' => e = .returned (.int .i64 (errAll ts)) ∧ Below w.heap.size w w' := by
 have H := hid h; clear h
 have HT := hid ht; clear ht
 have HS := hid hs; clear hs
 by_cases h6 : (6 : Int) < (ts.length : Int)
 ·go_enter Tryz.func102, Tryz.ntmps102
  go_wp2_with fail
  go_ret
  exact ⟨(congrArg (fun b => Ending.returned (Value.int .i64 b)) (by unfold errAll; rw [if_pos (by omega)])), Below.refl _ _⟩
 ·have E : Hid (¬ 6 < ts.length) := by show ¬ 6 < ts.length; omega
  go_enter Tryz.func102, Tryz.ntmps102
  go_wp2_with fail
  go_loopw [11] (fun i wr => ∃ k : Nat, k ≤ ts.length ∧ i = .int .i64 k ∧ (ts.take k).all Tl.ok = true ∧ Below w.heap.size w wr) (fun i _ => (ts.length - (intOf i).toNat))
  case atStart => exact ⟨0, by omega, rfl, by simp, Below.refl _ _⟩
  case round =>
   obtain ⟨k, hk, rfl, hno, hb⟩ := hrel
   have Hno := hid hno; clear hno
   by_cases hlt : k < ts.length
   ·obtain ⟨b, o, sa, sc, fa, fc, rfl, g0, g1, g2, g3, g4, g5⟩ := H.out.below hb k hlt
    have hbl := cell_lt g0
    have hsz := hb.size
    have HG4 := hid g4; have HG5 := hid g5; clear g4 g5
    go_wp2_with fail
    refine (check_any _ _ _ _ _ _ _ _ _ (HT.out.below goBl) (HS.out _ (List.getElem_mem hlt)).1 (HS.out _ (List.getElem_mem hlt)).2 (HG4.out.below goBl) (HG5.out.below goBl)).mono ?_
    rintro e w1 ⟨rfl, hb1⟩
    have hz1 := hb1.size; (try simp only [World.size_alloc] at hz1)
    by_cases hok : okT ts[k].id ts[k].hs ts[k].st ts[k].fo = true
    ·have t1 : (errT (okT ts[k].id ts[k].hs ts[k].st ts[k].fo) != 0) = false := by rw [hok]; rfl
     have HK := hid hok; clear hok
     go_wp2_with fail
     go_roundw
     case rel =>
      refine ⟨k + 1, by omega, by go_num, ?_, goBl⟩
      rw [List.take_succ_eq_append_getElem hlt, List.all_append, Hno.out]
      simpa [Tl.ok] using HK.out
     case measure => simp [intOf]; omega
    ·have hok' : okT ts[k].id ts[k].hs ts[k].st ts[k].fo = false := by simpa using hok
     have t1 : (errT (okT ts[k].id ts[k].hs ts[k].st ts[k].fo) != 0) = true := by rw [hok']; rfl
     have HK := hid hok'; clear hok hok'
     go_wp2_with fail
     go_ret
     refine ⟨(congrArg (fun b => Ending.returned (Value.int .i64 b)) ?_), goBl⟩
     have h2 : ts.all Tl.ok = false := List.all_eq_false.2 ⟨_, List.getElem_mem hlt, by simp [Tl.ok, HK.out]⟩
     rw [HK.out]; unfold errAll; rw [if_neg E.out, h2]; rfl
   ·go_wp2_with fail
    go_ret
    refine ⟨(congrArg (fun b => Ending.returned (Value.int .i64 b)) ?_), hb⟩
    have : k = ts.length := by omega
    subst this
    have h2 := Hno.out
    rw [List.take_of_length_le (Nat.le_refl _)] at h2
    unfold errAll; rw [if_neg E.out, h2]; rfl
structure Rt where
 skin : Int
 half : Int
 barrel : Int
 paid : Int
def Rt.val (r : Rt) : Value := .agg #[.int .i64 r.skin, .int .i64 r.half, .int .i64 r.barrel, .int .i64 r.paid]
def Rt.ok (r : Rt) : Bool := (decide (0 ≤ r.skin) && decide (r.skin ≤ 1000)) && ((decide (0 ≤ r.half) && decide (r.half ≤ 1000)) && ((decide (0 ≤ r.barrel) && decide (r.barrel ≤ 1000)) && (decide (0 ≤ r.paid) && decide (r.paid ≤ 1000))))
def rateW (r : Rt) (n : Int) : Int := if n = 1 then r.skin else if n = 2 then r.half else if n = 3 then r.barrel else if n = 4 then -r.paid else 0
theorem Rt.ok_iff {r : Rt} (h : r.ok = true) : (0 ≤ r.skin ∧ r.skin ≤ 1000) ∧ (0 ≤ r.half ∧ r.half ≤ 1000) ∧ (0 ≤ r.barrel ∧ r.barrel ≤ 1000) ∧ (0 ≤ r.paid ∧ r.paid ≤ 1000) := by
 unfold Rt.ok at h
 simpa using h
theorem rateW_b {r : Rt} (h : r.ok = true) (n : Int) : -1000 ≤ rateW r n ∧ rateW r n ≤ 1000 := by
 obtain ⟨h1, h2, h3, h4⟩ := Rt.ok_iff h
 unfold rateW
 split
 ·omega
 ·split
  ·omega
  ·split
   ·omega
   ·split <;> omega
theorem valid_any (r : Rt) (w : World) :
  Calls Tryz.prog 125 #[r.val] w fun e w' => e = .returned (.bool r.ok) ∧ Below w.heap.size w w' := by
 unfold Rt.val
 go_enter Tryz.func125, Tryz.ntmps125
 go_wp2_with fail
 refine (in_any 0 1000 _ _ [r.skin, r.half, r.barrel, r.paid] _ (by simp) ?_).mono ?_
 ·intro i hi
  match i, hi with
  | 0, _ => exact ⟨_, _, rfl, by simp [go_sem]⟩
  | 1, _ => exact ⟨_, _, rfl, by simp [go_sem]⟩
  | 2, _ => exact ⟨_, _, rfl, by simp [go_sem]⟩
  | 3, _ => exact ⟨_, _, rfl, by simp [go_sem]⟩
 rintro e w1 ⟨rfl, hb1⟩
 go_wp2_with fail
 go_ret
 exact ⟨(congrArg (fun b => Ending.returned (Value.bool b)) (by simp [Rt.ok])), goBl⟩
theorem idx5_0 (v0 v1 v2 v3 v4 : Int) (w : World) : (Instr.index 198 (.agg #[.int .i64 v0, .int .i64 v1, .int .i64 v2, .int .i64 v3, .int .i64 v4]) (.int .i64 0)).run Tryz.prog w = .ok (.int .i64 v0) w := by kernel_rfl
theorem idx5_1 (v0 v1 v2 v3 v4 : Int) (w : World) : (Instr.index 198 (.agg #[.int .i64 v0, .int .i64 v1, .int .i64 v2, .int .i64 v3, .int .i64 v4]) (.int .i64 1)).run Tryz.prog w = .ok (.int .i64 v1) w := by kernel_rfl
theorem idx5_2 (v0 v1 v2 v3 v4 : Int) (w : World) : (Instr.index 198 (.agg #[.int .i64 v0, .int .i64 v1, .int .i64 v2, .int .i64 v3, .int .i64 v4]) (.int .i64 2)).run Tryz.prog w = .ok (.int .i64 v2) w := by kernel_rfl
theorem idx5_3 (v0 v1 v2 v3 v4 : Int) (w : World) : (Instr.index 198 (.agg #[.int .i64 v0, .int .i64 v1, .int .i64 v2, .int .i64 v3, .int .i64 v4]) (.int .i64 3)).run Tryz.prog w = .ok (.int .i64 v3) w := by kernel_rfl
theorem idx5_4 (v0 v1 v2 v3 v4 : Int) (w : World) : (Instr.index 198 (.agg #[.int .i64 v0, .int .i64 v1, .int .i64 v2, .int .i64 v3, .int .i64 v4]) (.int .i64 4)).run Tryz.prog w = .ok (.int .i64 v4) w := by kernel_rfl
theorem worth_any (r : Rt) (hr : r.ok = true) (n : Int) (w : World) (h0 : 0 ≤ n) (h4 : n ≤ 4) :
  Calls Tryz.prog 126 #[r.val, .int .i64 n] w fun e w' => e = .returned (.int .i64 (rateW r n)) ∧ Below w.heap.size w w' := by
 obtain ⟨r1, r2, r3, r4⟩ := Rt.ok_iff hr
 have hw := wrap_mid (n := -r.paid) (by omega) (by omega)
 unfold Rt.val
 have hn : n = 0 ∨ n = 1 ∨ n = 2 ∨ n = 3 ∨ n = 4 := by omega
 go_enter Tryz.func126, Tryz.ntmps126
 rcases hn with rfl | rfl | rfl | rfl | rfl
 ·have hx := idx5_0
  go_wp2_with fail
  go_ret
  exact ⟨rfl, goBl⟩
 ·have hx := idx5_1
  go_wp2_with fail
  go_ret
  exact ⟨rfl, goBl⟩
 ·have hx := idx5_2
  go_wp2_with fail
  go_ret
  exact ⟨rfl, goBl⟩
 ·have hx := idx5_3
  go_wp2_with fail
  go_ret
  exact ⟨rfl, goBl⟩
 ·have hx := idx5_4
  go_wp2_with fail
  go_ret
  exact ⟨rfl, goBl⟩
theorem rates_worth (r : Rt) (hr : r.ok = true) : Worth (fun _ => True) (.func (.func 126) #[r.val] #[]) (rateW r) :=
 ⟨_, _, _, rfl, enters_of Tryz.func126 (by kernel_rfl) rfl, fun n w h0 h4 _ => worth_any r hr n w h0 h4⟩
theorem okT_okN' {id hs : Int} {st fo : List Int} (h : okT id hs st fo = true) : okN st = true ∧ okN fo = true := by
 unfold okT at h
 simp only [Bool.and_eq_true] at h
 exact ⟨h.1.2, h.2⟩
noncomputable def spanF (W : Int → Int) (s f : List Int) : Int × Int := @Classical.epsilon (Int × Int) ⟨(0, 0)⟩ (fun p => IsSpan W (TrueL s f) p.1 p.2)
theorem spanF_eq {W : Int → Int} {s f : List Int} {lo hi : Int} (h : IsSpan W (TrueL s f) lo hi) : spanF W s f = (lo, hi) := by
 have h1 := @Classical.epsilon_spec (Int × Int) (fun p => IsSpan W (TrueL s f) p.1 p.2) ⟨(lo, hi), h⟩
 have h2 := h1.unique h
 exact Prod.ext h2.1 h2.2
noncomputable def owesL (W : Int → Int) (house : Int) (ts : List Tl) : Int × Int := ts.foldl (fun s t => if t.hs = house then (s.1 + (spanF W t.st t.fo).1, s.2 + (spanF W t.st t.fo).2) else s) (0, 0)
noncomputable def owesR (ts : List Tl) (house : Int) (r : Rt) : (Int × Int) × Int := if errAll ts ≠ 0 then ((0, 0), errAll ts) else if r.ok = true then (owesL (rateW r) house ts, 0) else ((0, 0), 71)
theorem owes_any (ts : List Tl) (house : Int) (r : Rt) (la : Option Addr) (lc : Nat) (w : World) (ht : Tab w) (hl : ts.length ≤ 4000) (hs : ∀ t ∈ ts, t.st.length ≤ 1000 ∧ t.fo.length ≤ 1000) (h : RdT w la ts) :
  Calls Tryz.prog 83 #[.slice la ts.length lc, .int .i64 house, r.val] w
   fun e w' => e = .returned (.tuple #[.agg #[.int .i64 (owesR ts house r).1.1, .int .i64 (owesR ts house r).1.2], .int .i64 (owesR ts house r).2]) ∧ Below w.heap.size w w' := by
 have H := hid h; clear h
 have HT := hid ht; clear ht
 have HS := hid hs; clear hs
 unfold Rt.val
 go_enter Tryz.func83, Tryz.ntmps83
 go_wp2_with fail
 refine (all_any la lc ts _ hl (HT.out.below goBl) (fun t h => ⟨by have := (HS.out t h).1; omega, by have := (HS.out t h).2; omega⟩) (H.out.below goBl)).mono ?_
 rintro e w1 ⟨rfl, hb1⟩
 have B5 := hid (((Box.new w #[.int .i64 r.skin, .int .i64 r.half, .int .i64 r.barrel, .int .i64 r.paid] 69).alloc (.cells #[.int .i64 0, .int .i64 0] 73)).below hb1 (by simp; omega))
 have B6 := hid ((Box.at (w := w.alloc (.cells #[.int .i64 r.skin, .int .i64 r.half, .int .i64 r.barrel, .int .i64 r.paid] 69)) (n := w.heap.size + 1) #[.int .i64 0, .int .i64 0] 73 (by simp)).below hb1 (by simp))
 have WB := hid (show Below w.heap.size w w1 from goBl)
 clear hb1
 by_cases he : errAll ts = 0
 ·have t1 : (errAll ts != 0) = false := by rw [he]; rfl
  have HE := hid he; clear he
  obtain ⟨⟨c0, c1, c2, c3⟩, _, lx⟩ := box_quad B5.out
  go_wp2_with fail
  refine (valid_any r w1).mono ?_
  rintro e w2 ⟨rfl, hb2⟩
  have B5 := hid (B5.out.below hb2 B5.out.lt); have B6 := hid (B6.out.below hb2 B6.out.lt); have WB := hid (WB.out.trans (hb2.mono WB.out.size))
  clear hb2 c0 c1 c2 c3 lx
  obtain ⟨⟨c0, c1, c2, c3⟩, _, lx⟩ := box_quad B5.out
  by_cases hr : r.ok = true
  ·rw [hr]
   have HR := hid hr; clear hr
   have hl6 : ts.length ≤ 6 := by
    have h := HE.out
    unfold errAll at h
    split at h
    ·cases h
    ·omega
   have hok : ∀ t ∈ ts, okT t.id t.hs t.st t.fo = true := by
    have h := HE.out
    unfold errAll at h
    split at h
    ·cases h
    ·split at h
     ·rename_i h2; exact fun t ht => List.all_eq_true.1 h2 t ht
     ·cases h
   have HOK := hid hok; clear hok
   go_wp2_with fail
   refine wp_world (fun W => Box W w2.heap.size #[.int .i64 0, .int .i64 0] 73 ∧ Box W (w.heap.size + 1) #[.int .i64 0, .int .i64 0] 73 ∧ Below w.heap.size w W) ⟨Box.new _ _ _, B6.out.alloc _, WB.out.alloc WB.out.size _⟩ ?_
   obtain ⟨P, hP⟩ : ∃ P, P = w2.heap.size := ⟨_, rfl⟩
   have nP : w.heap.size + 1 < P := by have := B6.out.lt; omega
   rw [← hP]
   clear hP c0 c1 c2 c3 lx t1 B5 B6 WB
   rintro W0 ⟨bP, b6, hB⟩
   go_loopw [30] (fun p wr => ∃ k : Nat, k ≤ ts.length ∧ p = .int .i64 k ∧ Box wr P #[.int .i64 (owesL (rateW r) house (ts.take k)).1, .int .i64 (owesL (rateW r) house (ts.take k)).2] 73 ∧ Box wr (w.heap.size + 1) #[.int .i64 0, .int .i64 0] 73 ∧ Below w.heap.size w wr ∧ (-(2000000 * k : Int) ≤ (owesL (rateW r) house (ts.take k)).1 ∧ (owesL (rateW r) house (ts.take k)).1 ≤ 2000000 * k ∧ -(2000000 * k : Int) ≤ (owesL (rateW r) house (ts.take k)).2 ∧ (owesL (rateW r) house (ts.take k)).2 ≤ 2000000 * k)) (fun p _ => ts.length - (intOf p).toNat)
   case atStart => exact ⟨0, by omega, rfl, bP, b6, hB, by simp [owesL]⟩
   case round =>
    obtain ⟨k, hk, rfl, hbP, hb6, hBr, hbd⟩ := hrel
    have BP := hid hbP; have B6 := hid hb6; have WB := hid hBr
    clear bP b6 hB
    by_cases hlt : k < ts.length
    ·obtain ⟨b, o, sa, sc, fa, fc, rfl, g0, g1, g2, g3, g4, g5⟩ := H.out.below hBr k hlt
     have G4 := hid g4; have G5 := hid g5
     have lb := cell_lt g0
     have hsn : owesL (rateW r) house (ts.take (k + 1)) = (if ts[k].hs = house then ((owesL (rateW r) house (ts.take k)).1 + (spanF (rateW r) ts[k].st ts[k].fo).1, (owesL (rateW r) house (ts.take k)).2 + (spanF (rateW r) ts[k].st ts[k].fo).2) else owesL (rateW r) house (ts.take k)) := by
      rw [List.take_succ_eq_append_getElem hlt]
      unfold owesL
      rw [List.foldl_append]
      rfl
     have HSN := hid hsn; clear hsn
     have hts := HOK.out _ (List.getElem_mem hlt)
     have hln := HS.out _ (List.getElem_mem hlt)
     obtain ⟨E, hE⟩ : ∃ E, owesL (rateW r) house (ts.take k) = E := ⟨_, rfl⟩
     rw [hE] at BP HSN hbd
     obtain ⟨e1, e2⟩ := E
     obtain ⟨t, hT⟩ : ∃ t, ts[k] = t := ⟨_, rfl⟩
     rw [hT] at g0 g1 g2 g3 G4 G5 HSN hts hln
     have HTS := hid hts
     clear hE hT hts hbP hb6 hBr g4 g5
     dsimp only at BP HSN hbd
     by_cases hh : t.hs = house
     ·have hq : (t.hs == house) = true := by simp [hh]
      have HH := hid hh; clear hh
      go_wp2_with fail
      refine (halves_any t.id t.hs t.st t.fo sa fa sc fc _ (by omega) (by omega) (G4.out.alloc _) (G5.out.alloc _)).mono ?_
      rintro e w3 ⟨pb, eb, qb, M, rfl, hb3, hM, hH⟩
      have hb := ((Below.refl _ wr).alloc (Nat.le_refl _) (.cells #[.int .i64 t.id, .int .i64 t.hs, .slice sa t.st.length sc, .slice fa t.fo.length fc] 67)).trans (hb3.mono (by simp))
      have hM' : wr.heap.size < M := by simp at hM; omega
      have swr := WB.out.size
      have lP := BP.out.lt; have l6 := B6.out.lt
      have BP := hid (BP.out.below hb lP); have B6 := hid (B6.out.below hb l6); have WB := hid (WB.out.trans (hb.mono swr))
      have HH2 := hid hH
      clear hb hb3 hH hM g0 g1 g2 g3 lb
      unfold pairC leftV
      go_wp2_with fail
      refine (comes_any pb eb qb M t sa fa sc fc _ (rateW r) (fun _ => True) w3 hln.1 hln.2 (okT_okN' HTS.out).1 (okT_okN' HTS.out).2 (rates_worth r HR.out) (by simp [rateW]) (rateW_b HR.out) (fun _ _ _ _ => trivial) trivial HH2.out).mono ?_
      rintro e w4 ⟨lo, hi, rfl, hsp, kp⟩
      have hsf := spanF_eq hsp
      have sb := span_bound (rateW_b HR.out) hln.1 hln.2 hsp
      have BP := hid (kp.box (show P ≠ M by omega) BP.out); have B6 := hid (kp.box (show w.heap.size + 1 ≠ M by omega) B6.out)
      have WB := hid (WB.out.trans (kp.below (B := w.heap.size) (fun b hb => show b ≠ M by omega) WB.out.size))
      have HSF := hid hsf
      have y0 : w4.cell? ⟨P, 0, none⟩ = some (.int .i64 e1) := BP.out.cell 0
      have y1 : w4.cell? ⟨P, 1, none⟩ = some (.int .i64 e2) := BP.out.cell 1
      have y2 := BP.out.frozen 0; have y3 := BP.out.frozen 1; have y4 := BP.out.lt
      have hw1 := wrap_mid (n := e1 + lo) (by omega) (by omega)
      have hw2 := wrap_mid (n := e2 + hi) (by omega) (by omega)
      have hP6 : w.heap.size ≤ P := by omega
      clear hsp kp hsf
      go_wp2_with fail
      have k7 := WB.out.alloc WB.out.size (.cells #[.int .i64 lo, .int .i64 hi] 73)
      refine ⟨⟨k + 1, by omega, by go_num, ?_, ?_, ?_, ?_⟩, by simp [intOf]; omega⟩
      ·rw [HSN.out, if_pos HH.out, HSF.out]
       first | exact (((BP.out.alloc _).set 0 _).set 1 _) | exact (((BP.out.set 0 _).set 1 _).alloc _)
      ·first | exact ((B6.out.alloc _).other _ _ _ (by omega)).other _ _ _ (by omega) | exact (((B6.out.other _ _ _ (by omega)).other _ _ _ (by omega)).alloc _)
      ·first | exact ((k7.setCell (p := ⟨P, 0, none⟩) hP6 _).setCell (p := ⟨P, 1, none⟩) hP6 _) | exact (((WB.out.setCell (p := ⟨P, 0, none⟩) hP6 _).setCell (p := ⟨P, 1, none⟩) hP6 _).alloc (by simp; exact WB.out.size) _)
      ·rw [HSN.out, if_pos HH.out, HSF.out]
       dsimp only
       omega
     ·have hq : (t.hs == house) = false := by simp [hh]
      have HH := hid hh; clear hh
      go_wp2_with fail
      exact ⟨⟨k + 1, by omega, by go_num, by rw [HSN.out, if_neg HH.out]; exact BP.out.alloc _, B6.out.alloc _, WB.out.alloc WB.out.size _, by rw [HSN.out, if_neg HH.out]; dsimp only; omega⟩, by simp [intOf]; omega⟩
    ·have hkk : k = ts.length := by omega
     subst hkk
     rw [List.take_of_length_le (Nat.le_refl _)] at BP
     obtain ⟨E, hE⟩ : ∃ E, owesL (rateW r) house ts = E := ⟨_, rfl⟩
     rw [hE] at BP
     obtain ⟨e1, e2⟩ := E
     have y0 : wr.cell? ⟨P, 0, none⟩ = some (.int .i64 e1) := BP.out.cell 0
     have y1 : wr.cell? ⟨P, 1, none⟩ = some (.int .i64 e2) := BP.out.cell 1
     have r0 := hb6.cell 0; have r1 := hb6.cell 1; have r2 := hb6.frozen 0; have r3 := hb6.frozen 1; have r4 := hb6.lt
     simp only [List.getElem?_toArray, List.getElem?_cons_zero, List.getElem?_cons_succ] at r0 r1
     have HE3 := hid hE
     clear hbP hb6 hBr hE hbd
     go_wp2_with fail
     refine bodyPost_ret (v := .tuple #[.agg #[.int .i64 e1, .int .i64 e2], .int .i64 0]) (by simp [results, Tryz.results83, go_sem, r0, r1, r2, r3, r4]) rfl ⟨?_, (((WB.out).setCell (p := ⟨w.heap.size + 1, 0, none⟩) (show w.heap.size ≤ w.heap.size + 1 by omega) _).setCell (p := ⟨w.heap.size + 1, 1, none⟩) (show w.heap.size ≤ w.heap.size + 1 by omega) _)⟩
     have h1 : owesR ts house r = ((e1, e2), 0) := by unfold owesR; rw [if_neg (by rw [HE.out]; simp), if_pos HR.out, HE3.out]
     rw [h1]
  ·have hr' : r.ok = false := by simpa using hr
   have HR := hid hr; clear hr
   rw [hr']
   have r0 := B6.out.cell 0; have r1 := B6.out.cell 1; have r2 := B6.out.frozen 0; have r3 := B6.out.frozen 1; have r4 := B6.out.lt
   simp only [List.getElem?_toArray, List.getElem?_cons_zero, List.getElem?_cons_succ] at r0 r1
   go_wp2_with fail
   refine bodyPost_ret (v := .tuple #[.agg #[.int .i64 0, .int .i64 0], .int .i64 71]) (by simp [results, Tryz.results83, go_sem, r0, r1, r2, r3, r4]) rfl ⟨?_, (((WB.out).setCell (p := ⟨w.heap.size + 1, 0, none⟩) (show w.heap.size ≤ w.heap.size + 1 by omega) _).setCell (p := ⟨w.heap.size + 1, 1, none⟩) (show w.heap.size ≤ w.heap.size + 1 by omega) _)⟩
   have h1 : owesR ts house r = ((0, 0), 71) := by unfold owesR; rw [if_neg (by rw [HE.out]; simp), if_neg HR.out]
   rw [h1]
 ·have t1 : (errAll ts != 0) = true := by simpa using he
  have HE := hid he; clear he
  have r0 := B6.out.cell 0; have r1 := B6.out.cell 1; have r2 := B6.out.frozen 0; have r3 := B6.out.frozen 1; have r4 := B6.out.lt
  simp only [List.getElem?_toArray, List.getElem?_cons_zero, List.getElem?_cons_succ] at r0 r1
  go_wp2_with fail
  refine bodyPost_ret (v := .tuple #[.agg #[.int .i64 0, .int .i64 0], .int .i64 (errAll ts)]) (by simp [results, Tryz.results83, go_sem, r0, r1, r2, r3, r4]) rfl ⟨?_, (((WB.out).setCell (p := ⟨w.heap.size + 1, 0, none⟩) (show w.heap.size ≤ w.heap.size + 1 by omega) _).setCell (p := ⟨w.heap.size + 1, 1, none⟩) (show w.heap.size ≤ w.heap.size + 1 by omega) _)⟩
  have h1 : owesR ts house r = ((0, 0), errAll ts) := by unfold owesR; rw [if_pos HE.out]
  rw [h1]
noncomputable def owedR (a : Tl) (r : Rt) : (Int × Int) × Int := owesR [a] a.hs r
theorem owed_any (a : Tl) (r : Rt) (sa fa : Option Addr) (sc fc : Nat) (w : World) (ht : Tab w) (hl : a.st.length ≤ 1000) (hl2 : a.fo.length ≤ 1000) (h1 : RdI w sa a.st) (h2 : RdI w fa a.fo) :
  Calls Tryz.prog 37 #[.agg #[.int .i64 a.id, .int .i64 a.hs, .slice sa a.st.length sc, .slice fa a.fo.length fc], r.val] w
   fun e w' => e = .returned (.tuple #[.agg #[.int .i64 (owedR a r).1.1, .int .i64 (owedR a r).1.2], .int .i64 (owedR a r).2]) ∧ Below w.heap.size w w' := by
 have H1 := hid h1; have H2 := hid h2; clear h1 h2
 have HT := hid ht; clear ht
 have hou := fun W hT hR => owes_any [a] a.hs r (some ⟨w.heap.size + 1 + 1 + 1, 0, none⟩) 1 W hT (by simp) (fun t ht => by rw [List.mem_singleton] at ht; subst ht; exact ⟨hl, hl2⟩) hR
 have HO := hid hou; clear hou
 unfold Rt.val at HO ⊢
 go_enter Tryz.func37, Tryz.ntmps37
 go_wp2_with fail
 refine (HO.out _ (HT.out.below goBl) ?_).mono ?_
 ·intro i hi
  match i, hi with
  | 0, _ =>
   have bx := Box.at (w := ((w.alloc (.cells #[.int .i64 a.id, .int .i64 a.hs, .slice sa a.st.length sc, .slice fa a.fo.length fc] 67)).alloc (.cells #[.int .i64 r.skin, .int .i64 r.half, .int .i64 r.barrel, .int .i64 r.paid] 69)).alloc (.cells #[.int .i64 0, .int .i64 0] 73)) (n := w.heap.size + 1 + 1 + 1) (#[.int .i64 a.id, .int .i64 a.hs, .slice sa a.st.length sc, .slice fa a.fo.length fc]) 67 (by simp)
   exact ⟨w.heap.size + 1 + 1 + 1, 0, sa, sc, fa, fc, rfl, bx.cell 0, bx.cell 1, bx.cell 2, bx.cell 3, H1.out.below goBl, H2.out.below goBl⟩
 rintro e w1 ⟨rfl, hb1⟩
 have b4 := hid (((Box.at (w := (w.alloc (.cells #[.int .i64 a.id, .int .i64 a.hs, .slice sa a.st.length sc, .slice fa a.fo.length fc] 67)).alloc (.cells #[.int .i64 r.skin, .int .i64 r.half, .int .i64 r.barrel, .int .i64 r.paid] 69)) (n := w.heap.size + 1 + 1) #[.int .i64 0, .int .i64 0] 73 (by simp)).alloc (.cells #[.int .i64 a.id, .int .i64 a.hs, .slice sa a.st.length sc, .slice fa a.fo.length fc] 67)).below hb1 (by simp))
 have WB : Below w.heap.size w w1 := goBl
 have r0 := b4.out.cell 0; have r1 := b4.out.cell 1; have r2 := b4.out.frozen 0; have r3 := b4.out.frozen 1; have r4 := b4.out.lt
 simp only [List.getElem?_toArray, List.getElem?_cons_zero, List.getElem?_cons_succ] at r0 r1
 obtain ⟨O, hO⟩ : ∃ O, owesR [a] a.hs r = O := ⟨_, rfl⟩
 rw [hO]
 have HOO := hid hO
 clear hO HO
 obtain ⟨⟨o1, o2⟩, o3⟩ := O
 dsimp only
 have WBB := hid WB
 clear WB hb1 b4
 go_wp2_with fail
 refine bodyPost_ret (v := .tuple #[.agg #[.int .i64 o1, .int .i64 o2], .int .i64 o3]) (by simp [results, Tryz.results37, go_sem, r0, r1, r2, r3, r4]) rfl ⟨by unfold owedR; rw [HOO.out], (WBB.out.setCell (p := ⟨w.heap.size + 1 + 1, 0, none⟩) (show w.heap.size ≤ w.heap.size + 1 + 1 by omega) _).setCell (p := ⟨w.heap.size + 1 + 1, 1, none⟩) (show w.heap.size ≤ w.heap.size + 1 + 1 by omega) _⟩
def wideF (s t : Int × Int) (a b : Int) (first : Bool) : Int × Int := if first then (t.1 + min a b, t.2 + max a b) else endF s (t.1 + min a b, t.2 + max a b)
theorem refRates_any (r : Rt) (w : World) :
  Calls Tryz.prog 36 #[r.val] w fun e w' => e = .returned (.bool r.ok) ∧ Below w.heap.size w w' := by
 have hok : r.ok = ((decide (0 ≤ r.skin) && decide (r.skin ≤ 1000)) && ((decide (0 ≤ r.half) && decide (r.half ≤ 1000)) && ((decide (0 ≤ r.barrel) && decide (r.barrel ≤ 1000)) && (decide (0 ≤ r.paid) && decide (r.paid ≤ 1000))))) := rfl
 have HOK := hid hok; clear hok
 obtain ⟨q1, hq1⟩ : ∃ q, (decide (0 ≤ r.skin) && decide (r.skin ≤ 1000)) = q := ⟨_, rfl⟩
 obtain ⟨q2, hq2⟩ : ∃ q, (decide (0 ≤ r.half) && decide (r.half ≤ 1000)) = q := ⟨_, rfl⟩
 obtain ⟨q3, hq3⟩ : ∃ q, (decide (0 ≤ r.barrel) && decide (r.barrel ≤ 1000)) = q := ⟨_, rfl⟩
 obtain ⟨q4, hq4⟩ : ∃ q, (decide (0 ≤ r.paid) && decide (r.paid ≤ 1000)) = q := ⟨_, rfl⟩
 rw [hq1, hq2, hq3, hq4] at HOK
 unfold Rt.val
 cases q1 with
 | false => (go_enter Tryz.func36, Tryz.ntmps36; go_wp2_with (refine (within_any _ _ _ _).mono ?_; rintro e w' ⟨rfl, rfl⟩); go_ret; exact ⟨(congrArg (fun b => Ending.returned (Value.bool b)) (by rw [HOK.out]; first | rfl | simp [*])), goBl⟩)
 | true =>
  cases q2 with
  | false => (go_enter Tryz.func36, Tryz.ntmps36; go_wp2_with (refine (within_any _ _ _ _).mono ?_; rintro e w' ⟨rfl, rfl⟩); go_ret; exact ⟨(congrArg (fun b => Ending.returned (Value.bool b)) (by rw [HOK.out]; first | rfl | simp [*])), goBl⟩)
  | true =>
   cases q3 with
   | false => (go_enter Tryz.func36, Tryz.ntmps36; go_wp2_with (refine (within_any _ _ _ _).mono ?_; rintro e w' ⟨rfl, rfl⟩); go_ret; exact ⟨(congrArg (fun b => Ending.returned (Value.bool b)) (by rw [HOK.out]; first | rfl | simp [*])), goBl⟩)
   | true =>
    cases q4 with
    | false => (go_enter Tryz.func36, Tryz.ntmps36; go_wp2_with (refine (within_any _ _ _ _).mono ?_; rintro e w' ⟨rfl, rfl⟩); go_ret; exact ⟨(congrArg (fun b => Ending.returned (Value.bool b)) (by rw [HOK.out]; first | rfl | simp [*])), goBl⟩)
    | true => (go_enter Tryz.func36, Tryz.ntmps36; go_wp2_with (refine (within_any _ _ _ _).mono ?_; rintro e w' ⟨rfl, rfl⟩); go_ret; exact ⟨(congrArg (fun b => Ending.returned (Value.bool b)) (by rw [HOK.out]; first | rfl | simp [*])), goBl⟩)
def AccW (W : Int → Int) (P : List Int → Prop) (s : Int × Int) (first : Bool) : Prop := (first = true ∧ s = (0, 0) ∧ ∀ l, ¬ P l) ∨ (first = false ∧ IsSpan W P s.1 s.2)
theorem AccW.iff {W : Int → Int} {P Q : List Int → Prop} {s : Int × Int} {first : Bool} (h : AccW W P s first) (hq : ∀ x, P x ↔ Q x) : AccW W Q s first := by
 rcases h with ⟨h1, h0, h2⟩ | ⟨h1, h2⟩
 ·exact .inl ⟨h1, h0, fun l hl => h2 l ((hq l).2 hl)⟩
 ·exact .inr ⟨h1, h2.iff hq⟩
theorem byN_span {W : Int → Int} (h0 : W 0 = 0) {a : Tl} {x : St} (hn : ∀ n ∈ notchesL x, 0 ≤ n) {lo hi : Int} (h : IsSpan W (TrueL (a.st.drop x.i) (a.fo.drop x.k)) lo hi) : IsSpan W (ByN a x (notchesL x)) (lo + min (W x.s) (W x.f)) (hi + max (W x.s) (W x.f)) := by
 have hs : 0 ≤ x.s := hn _ (by unfold notchesL; split <;> simp)
 have hf : 0 ≤ x.f := hn _ (by unfold notchesL; split <;> simp_all)
 have g1 := h.pre h0 hs
 have g2 := h.pre h0 hf
 have g := (g1.or g2).iff (Q := ByN a x (notchesL x)) (fun l => by
  unfold ByN notchesL
  by_cases e : x.s = x.f
  ·rw [if_pos e]
   simp only [List.mem_singleton, exists_eq_left]
   rw [e]
   exact ⟨fun h => h.elim id id, .inl⟩
  ·rw [if_neg e]
   simp only [List.mem_cons, List.not_mem_nil, or_false]
   constructor
   ·rintro (h | h)
    ·exact ⟨_, .inl rfl, h⟩
    ·exact ⟨_, .inr rfl, h⟩
   ·rintro ⟨n, rfl | rfl, h⟩
    ·exact .inl h
    ·exact .inr h)
 have e1 : min (W x.s + lo) (W x.f + lo) = lo + min (W x.s) (W x.f) := by omega
 have e2 : max (W x.s + hi) (W x.f + hi) = hi + max (W x.s) (W x.f) := by omega
 rw [e1, e2] at g
 exact g
theorem AccW.snoc {W : Int → Int} (h0 : W 0 = 0) {a : Tl} {xs : List St} {x : St} {s : Int × Int} {first : Bool} (h : AccW W (ByS a xs) s first) (hn : ∀ n ∈ notchesL x, 0 ≤ n) {t : Int × Int} (k : IsSpan W (TrueL (a.st.drop x.i) (a.fo.drop x.k)) t.1 t.2) : AccW W (ByS a (xs ++ [x])) (wideF s t (W x.s) (W x.f) first) false := by
 have hb := byN_span h0 hn k
 refine .inr ⟨rfl, ?_⟩
 rcases h with ⟨rfl, -, hnone⟩ | ⟨rfl, hs⟩
 ·exact hb.iff (fun l => ⟨fun g => (byS_snoc a xs x l).2 (.inr g), fun g => ((byS_snoc a xs x l).1 g).resolve_left (hnone l)⟩)
 ·exact (hs.or hb).iff (fun l => (byS_snoc a xs x l).symm)
theorem infoInt : (Tryz.prog.info? 3).map (fun i => (i.zero, i.size, i.bytes)) = some (some (.int .i64 0), 1, 8) := by kernel_rfl
theorem growNil_any (n : Nat) (hn : n ≤ 4000) (w : World) :
  Calls Tryz.prog 137 #[.slice none 0 0, .int .i64 n] w fun e w' => ∃ a c, e = .returned (.slice a 0 c) ∧ Below w.heap.size w w' ∧ w'.ownsRow w.heap.size 3 1 (.slice a 0 c) 0 [] := by
 have k1 : ¬ ((n : Int) < 0) := by omega
 rcases Nat.eq_zero_or_pos n with rfl | hp
 ·go_enter Tryz.func137, Tryz.ntmps137
  go_wp2
  go_ret
  exact ⟨none, 0, rfl, Below.refl _ _, World.ownsRow_nil _ _ _ _⟩
 ·obtain ⟨i0, hi, iz0, iz1, iz2⟩ := info_parts infoInt
  have hold : (Builtin.firstCells i0.size 0 (.slice none 0 0)).run Tryz.prog w.drew = .ok ([] : List Value).toArray w.drew := run_firstCells_none w.drew i0.size 0 0 0
  have hrz : ∀ ty, (Builtin.append_ #[22, 3] ty #[.slice none 0 0, .int .i64 (n : Int)]).run Tryz.prog w =
    .ok (.slice (some ⟨w.heap.size, 0, none⟩) n (grownCap w n 0 3)) (w.drew.alloc (.cells (([] : List Value).toArray ++ Builtin.zeroCells #[.int .i64 0] n ++ Builtin.zeroCells #[.int .i64 0] (grownCap w n 0 3 - n)) 3)) := fun ty => by
   have h := Lib.run_append_grow_zeros w 22 3 ty 3 i0 _ .i64 .i64 Tryz.underlying22 Tryz.underlying3 hi iz0 none 0 0 [] hold n hp (by omega) (by omega) (by omega) (by rw [iz2]; omega) (growslice_fits (by omega) (by rw [iz2]; omega))
   simpa [Value.cells] using h
  have hGn : n ≤ grownCap w n 0 3 := grownCap_ge w _ _ _
  have hGm : grownCap w n 0 3 ≤ maxLen := grownCap_le_maxLen w _ _ _ (by simp only [maxLen]; omega)
  obtain ⟨G, hG⟩ : ∃ G, G = grownCap w n 0 3 := ⟨_, rfl⟩
  rw [← hG] at hrz hGn hGm
  have hG63 : G ≤ 9223372036854775807 := by simp only [maxLen] at hGm; omega
  have HG := hid hGm
  clear hold hG hGm iz0 iz1 iz2 hi
  have own := World.ownsRow_made (e := 3) (size := 1) (base := w.heap.size) w.drew (([] : List Value).toArray ++ Builtin.zeroCells #[.int .i64 0] n ++ Builtin.zeroCells #[.int .i64 0] (G - n)) G (Nat.le_refl _) HG.out (by simp [size_zeroCells]; omega)
  have OW := hid own; clear own
  have h4 : (n : Int) > 0 := by omega
  go_enter Tryz.func137, Tryz.ntmps137
  go_wp2_with (at_builtin; refine Lib.wpList_append_run _ rfl _ _ _ _ rfl _ _ rfl rfl _ _ (hrz _) ?_)
  all_goals (go_ret; exact ⟨_, _, rfl, goBl, by simpa using (show (w.alloc (.cells _ _)).drew.ownsRow _ _ _ _ _ _ from OW.out)⟩)
theorem concat_any (B : Nat) (a b : Option Addr) (c d : Nat) (xs ys : List Int) (w : World) (hl : xs.length ≤ 1000) (hl2 : ys.length ≤ 1000) (h1 : RdI w a xs) (h2 : RdI w b ys)
  (c0 : w.cell? ⟨B, 0, none⟩ = some (.slice a xs.length c)) (c1 : w.cell? ⟨B, 1, none⟩ = some (.slice b ys.length d)) :
  Calls Tryz.prog 103 #[.slice (some ⟨B, 0, none⟩) 2 2] w fun e w' => ∃ a' c', e = .returned (.slice a' (xs.length + ys.length) c') ∧ Below w.heap.size w w' ∧ w'.ownsRow w.heap.size 3 1 (.slice a' (xs.length + ys.length) c') (xs.length + ys.length) ((xs ++ ys).map (Value.int .i64)) := by
 have HX := hid h1; clear h1
 have HY := hid h2; clear h2
 have hB := cell_lt c0
 simp only at hB
 obtain ⟨i0, hi, iz0, iz1, iz2⟩ := info_parts infoInt
 have n1 : ¬ ((xs.length : Int) < 0) := by omega
 have n2 : ¬ ((xs.length : Int) + (ys.length : Int) < 0) := by omega
 go_enter Tryz.func103, Tryz.ntmps103
 go_wp2_with fail
 refine wp_loop_rounds 3 ?_
 rw [rounds_succ]; go_wp2_with fail
 rw [rounds_succ]; go_wp2_with fail
 rw [rounds_succ]; go_wp2_with fail
 refine (growNil_any (xs.length + ys.length) (by omega) w).mono ?_
 rintro e w1 ⟨ga, gc, rfl, hb1, own1⟩
 have hz1 := (hb1).size; (try simp only [World.size_alloc, World.size_setCell, World.size_drew, World.heap_drewN] at hz1); obtain ⟨hc1, hf1⟩ := bcell hb1
 have d0 : w1.cell? ⟨B, 0, none⟩ = some (.slice a xs.length c) := (hc1 B 0 hB).trans c0
 have d1 : w1.cell? ⟨B, 1, none⟩ = some (.slice b ys.length d) := (hc1 B 1 hB).trans c1
 clear hc1 hf1 c0 c1
 go_wp2_with fail
 refine wp_loop_rounds 3 ?_
 rw [rounds_succ]
 go_wp2_with (at_builtin; refine wpList_append_any _ rfl _ _ _ rfl w.heap.size 3 i0 _ 1 8 Tryz.underlying22 hi iz0 iz1 iz2 rfl (by decide) (.slice ga 0 gc) 0 [] rfl own1 a xs.length c (xs.map (Value.int .i64)) rfl (by simp) (RdI.none (HX.out.below goBl)) (RdI.news (HX.out.below goBl)) (ints_one _) (by omega) (by omega) yL ?_; intro a2 c2 w2 own2 gr2 pl2)
 simp only [Nat.zero_add, List.nil_append] at own2 pl2 ⊢
 have hz2' := gr2.size
 have hb2 : Below w.heap.size w w2 := Below.grown (a := w) (hb1.trans (Below.refl _ _)) gr2 yL (fun k hk => (own1.lt k hk).1)
 have ne1 : (Value.slice ga 0 gc).ownBlock ≠ some B := fun h => by have := (own1.lt _ h).1; omega
 have d2 : w2.cell? ⟨B, 1, none⟩ = some (.slice b ys.length d) := (gr2.cell_far _ (by simp; omega) (Ne.symm ne1)).trans d1
 clear d0 d1
 rw [rounds_succ]
 go_wp2_with (at_builtin; refine wpList_append_any _ rfl _ _ _ rfl w.heap.size 3 i0 _ 1 8 Tryz.underlying22 hi iz0 iz1 iz2 rfl (by decide) (.slice a2 xs.length c2) xs.length (xs.map (Value.int .i64)) rfl own2 b ys.length d (ys.map (Value.int .i64)) rfl (by simp) (RdI.none (HY.out.below goBl)) (RdI.news (HY.out.below goBl)) (ints_one _) (by omega) (by omega) yL ?_; intro a3 c3 w3 own3 gr3 pl3)
 have hb3 : Below w.heap.size w w3 := Below.grown (a := w) hb2 gr3 yL (fun k hk => (own2.lt k hk).1)
 rw [rounds_succ]
 go_wp2_with fail
 go_ret
 exact ⟨a3, c3, by simp, hb3, by simpa using own3⟩
def RowAt (W : World) (cs : Array Value) (a b : List Int) (O X : Nat) (r : Nat) : Prop := ∃ R rs, cs[r]? = some (.slice (some ⟨R, 0, none⟩) (b.length + 1) (b.length + 1)) ∧ R < X ∧ R ≠ O ∧ Box W R rs 3 ∧ rs.size = b.length + 1 ∧ ∀ k, k ≤ b.length → rs[k]? = some (.int .i64 (dd a b r k : Int))
theorem RowAt.keep {W W' : World} {cs cs' : Array Value} {a b : List Int} {O X X' r : Nat} (h : RowAt W cs a b O X r) (hc : cs'[r]? = cs[r]?) (hX : X ≤ X') (hk : ∀ k, k < X → k ≠ O → W'.heap[k]? = W.heap[k]?) : RowAt W' cs' a b O X' r := by
 obtain ⟨R, rs, h1, h2, h3, h4, h5, h6⟩ := h
 exact ⟨R, rs, hc.trans h1, by omega, h3, (hk R h2 h3).trans h4, h5, h6⟩
def Same (a b : World) : Prop := b.heap = a.heap ∧ b.os = a.os ∧ b.tape = a.tape ∧ b.output = a.output
theorem Same.box {a b : World} (h : Same a b) {k : Nat} {cs : Array Value} {t : TypeId} (hb : Box a k cs t) : Box b k cs t := by unfold Box at *; rw [h.1]; exact hb
theorem Same.below {w a b : World} {B : Nat} (h : Same a b) (hb : Below B w a) : Below B w b := ⟨h.2.1.trans hb.os, h.2.2.1.trans hb.tape, h.2.2.2.trans hb.output, by rw [h.1]; exact hb.size, fun k hk => by rw [h.1]; exact hb.block k hk⟩
def SRow (sp : Nat → Nat → Int × Int) (W : World) (cs : Array Value) (m O X : Nat) (r : Nat) : Prop := ∃ R rs, cs[r]? = some (.slice (some ⟨R, 0, none⟩) (m + 1) (m + 1)) ∧ R < X ∧ R ≠ O ∧ Box W R rs 73 ∧ rs.size = 2 * (m + 1) ∧ ∀ k, k ≤ m → rs[k * 2]? = some (.int .i64 (sp r k).1) ∧ rs[k * 2 + 1]? = some (.int .i64 (sp r k).2)
theorem SRow.keep {sp : Nat → Nat → Int × Int} {W W' : World} {cs cs' : Array Value} {m O X X' r : Nat} (h : SRow sp W cs m O X r) (hc : cs'[r]? = cs[r]?) (hX : X ≤ X') (hk : ∀ k, k < X → k ≠ O → k < W.heap.size → W'.heap[k]? = W.heap[k]?) : SRow sp W' cs' m O X' r := by
 obtain ⟨R, rs, h1, h2, h3, h4, h5, h6⟩ := h
 exact ⟨R, rs, hc.trans h1, by omega, h3, (hk R h2 h3 h4.lt).trans h4, h5, h6⟩
structure RcI (sp : Nat → Nat → Int × Int) (w1 : World) (n m O X i : Nat) (cs : Array Value) (rs : Array Value) (l : Nat) (V : World) : Prop where
 o : Box V O cs 208
 rows : ∀ r, i + 1 ≤ r → r ≤ n → SRow sp V cs m O X r
 bel : Below w1.heap.size w1 V
 x : Box V X rs 73
 sz : rs.size = 2 * (m + 1)
 got : ∀ k, l ≤ k → k ≤ m → rs[k * 2]? = some (.int .i64 (sp i k).1) ∧ rs[k * 2 + 1]? = some (.int .i64 (sp i k).2)
theorem RcI.keep {sp : Nat → Nat → Int × Int} {w1 V V' : World} {n m O X i l Y : Nat} {cs rs : Array Value} (h : RcI sp w1 n m O X i cs rs l V) (hO : O < Y) (hX : X < Y) (h1 : w1.heap.size ≤ Y) (kp : Keep (· < Y) V V') : RcI sp w1 n m O X i cs rs l V' :=
 ⟨kp.box hO h.o, fun r g1 g2 => (h.rows r g1 g2).keep rfl (Nat.le_refl _) (fun k hk _ hv => kp.block k hv (show k < Y by omega)), h.bel.trans (kp.below (fun b hb => show b < Y by omega) h.bel.size), kp.box hX h.x, h.sz, h.got⟩
theorem RcI.same {sp : Nat → Nat → Int × Int} {w1 V V' : World} {n m O X i l : Nat} {cs rs : Array Value} (h : RcI sp w1 n m O X i cs rs l V) (k : Keep (fun _ => True) V V') : RcI sp w1 n m O X i cs rs l V' :=
 ⟨k.box trivial h.o, fun r g1 g2 => (h.rows r g1 g2).keep rfl (Nat.le_refl _) (fun k' _ _ hv => k.block k' hv trivial), h.bel.trans (k.below (fun b hb => trivial) h.bel.size), k.box trivial h.x, h.sz, h.got⟩
end Go.Proofs.YtihonljdanjfmaaGreatDoor
namespace Go.Proofs.YtihonljdanjfmaaGreatDoor.Sw
open Go.RowKit Go
def tC (t : Tl) : List AV := [.val (.int .i64 t.id), .val (.int .i64 t.hs), .sl 1 iC t.st, .sl 1 iC t.fo]
def rC (r : Rt) : List AV := [.val (.int .i64 r.skin), .val (.int .i64 r.half), .val (.int .i64 r.barrel), .val (.int .i64 r.paid)]
def pC (s : Int × Int) : List AV := [.val (.int .i64 s.1), .val (.int .i64 s.2)]
instance {t : Tl} : OneL (tC t) := inferInstanceAs (OneL [_, _, _, _])
instance {t : Int × Int} : OneL (pC t) := inferInstanceAs (OneL [_, _])
theorem rdI_of {G : Nat → Option Obj} {w : World} (hG : Gin G w) {a : Option Addr} {xs : List Int} (h : SlP G 1 iC a xs) : RdI w a xs := fun i hi => by
 obtain ⟨b, o, e, h1⟩ := h i hi
 obtain ⟨u, h2, h3⟩ := h1 0 _ rfl
 refine ⟨b, o, e, ?_⟩
 have h3' : u = .int .i64 xs[i] := h3
 have := cellG.cell hG h2
 rw [h3'] at this
 simpa using this
theorem fits_tl {G : Nat → Option Obj} {w : World} (hG : Gin G w) {t : Tl} {v : Value} (h : (AV.agg (tC t)).P G v) : ∃ sa sc fa fc, v = .agg #[.int .i64 t.id, .int .i64 t.hs, .slice sa t.st.length sc, .slice fa t.fo.length fc] ∧ RdI w sa t.st ∧ RdI w fa t.fo := by
 obtain ⟨us, e, hu⟩ := h
 match us, hu with
 | [v0, v1, v2, v3], ⟨h0, h1, ⟨a1, c1, h2, _, h4⟩, ⟨a2, c2, h3, _, h5⟩, _⟩ =>
  have h0' : v0 = _ := h0
  have h1' : v1 = _ := h1
  subst e h0' h1' h2 h3
  exact ⟨a1, c1, a2, c2, rfl, rdI_of hG h4, rdI_of hG h5⟩
theorem fits_rt {G : Nat → Option Obj} {r : Rt} {v : Value} (h : (AV.agg (rC r)).P G v) : v = r.val := by
 obtain ⟨us, e, hu⟩ := h
 match us, hu with
 | [v0, v1, v2, v3], ⟨h0, h1, h2, h3, _⟩ =>
  have h0' : v0 = _ := h0
  have h1' : v1 = _ := h1
  have h2' : v2 = _ := h2
  have h3' : v3 = _ := h3
  subst e h0' h1' h2' h3'
  rfl
def TabG (G : Nat → Option Obj) : Prop := cellG G 1 0 = some (.func (.func 210) #[] #[]) ∧ cellG G 1 1 = some (.func (.func 211) #[] #[]) ∧ cellG G 1 2 = some (.func (.func 212) #[] #[])
def HA.tab : HA := ⟨fun G F _ => F = [] ∧ TabG G, fun h k => ⟨k.1, cellG.le h k.2.1, cellG.le h k.2.2.1, cellG.le h k.2.2.2⟩, fun _ k => k⟩
theorem con_tab {P : Program} {k : FuncId} {args : List AV} {av : AV} (he : ∀ args w, (callFunc k args).run P w = .ok (.enter k args) w)
  (h : ∀ (G : Nat → Option Obj) (vs : List Value) (w : World), Fits G args vs → Gin G w → Tab w → Calls P k vs.toArray w fun e w' => ∃ v, e = .returned v ∧ av.P G v ∧ Below w.heap.size w w') : Con P k args [HA.tab] (Is av [HA.tab]) :=
 ⟨he, fun G Fp vs w hf hi => by
  obtain ⟨F1, F2, ep, ⟨hF1, hT⟩, hF2⟩ := hi.hs
  have hF2' : F2 = [] := hF2
  subst hF1 hF2'
  obtain rfl : Fp = [] := List.Perm.eq_nil (by simpa using ep)
  refine (h G vs w hf hi.gin ⟨cellG.cell hi.gin hT.1, cellG.cell hi.gin hT.2.1, cellG.cell hi.gin hT.2.2⟩).mono fun e w' ⟨v, h1, h2, h3⟩ => ?_
  exact ⟨v, av, [HA.tab], G, [], h1, ⟨rfl, rfl⟩, ⟨h3.os, h3.tape, h3.output, h3.size, fun b hb _ => h3.block b hb, fun _ h => .inl h, Gle.refl _, fun _ _ h => .inl h⟩, ⟨fun b o e => (h3.block b (hi.gin.lt e)).trans (hi.gin b o e), by simp, fun b hb => (by cases hb), [], [], .refl _, ⟨rfl, hT⟩, rfl⟩, h2⟩⟩
theorem great_con (t : Tl) : Con Tryz.prog 34 [.agg (tC t)] [] (Is (.val (.bool (decide ((30 : Int) < t.st.length) || decide ((30 : Int) < t.fo.length)))) []) := by
 refine con_same (enters_of Tryz.func34 (by kernel_rfl) rfl) fun G vs w hf hG => ?_
 match vs, hf with
 | [v], ⟨h, _⟩ =>
  obtain ⟨sa, sc, fa, fc, rfl, h1, h2⟩ := fits_tl hG h
  exact (great_any t.id t.hs sa t.st.length sc fa t.fo.length fc w).mono fun e w' ⟨h, hb⟩ => ⟨_, h, rfl, hb⟩
theorem tally_con (t : Tl) (h1 : t.st.length ≤ 1000) (h2 : t.fo.length ≤ 1000) : Con Tryz.prog 35 [.agg (tC t)] [] (Is (.val (.bool (okT t.id t.hs t.st t.fo))) []) := by
 refine con_same (enters_of Tryz.func35 (by kernel_rfl) rfl) fun G vs w hf hG => ?_
 match vs, hf with
 | [v], ⟨h, _⟩ =>
  obtain ⟨sa, sc, fa, fc, rfl, g1, g2⟩ := fits_tl hG h
  exact (tally_any t.id t.hs _ _ _ _ _ _ w (by omega) (by omega) g1 g2).mono fun e w' ⟨h, hb⟩ => ⟨_, h, rfl, hb⟩
def seA (s : (Int × Int) × Int) : AV := .tup [.agg (pC s.1), .val (.int .i64 s.2)]
theorem seA_ok (s : (Int × Int) × Int) (G : Nat → Option Obj) : (seA s).P G (.tuple #[.agg #[.int .i64 s.1.1, .int .i64 s.1.2], .int .i64 s.2]) := ⟨[_, _], rfl, ⟨[_, _], rfl, rfl, rfl, trivial⟩, rfl, trivial⟩
theorem owed_con (t : Tl) (r : Rt) (h1 : t.st.length ≤ 1000) (h2 : t.fo.length ≤ 1000) : Con Tryz.prog 37 [.agg (tC t), .agg (rC r)] [HA.tab] (Is (seA (owedR t r)) [HA.tab]) := by
 refine con_tab (enters_of Tryz.func37 (by kernel_rfl) rfl) fun G vs w hf hG hT => ?_
 match vs, hf with
 | [v, v'], ⟨h, h', _⟩ =>
  obtain ⟨sa, sc, fa, fc, rfl, g1, g2⟩ := fits_tl hG h
  obtain rfl := fits_rt h'
  exact (owed_any t r sa fa sc fc w hT h1 h2 g1 g2).mono fun e w' ⟨h, hb⟩ => ⟨_, h, seA_ok _ G, hb⟩
theorem refRates_con (r : Rt) : Con Tryz.prog 36 [.agg (rC r)] [] (Is (.val (.bool r.ok)) []) := by
 refine con_same (enters_of Tryz.func36 (by kernel_rfl) rfl) fun G vs w hf hG => ?_
 match vs, hf with
 | [v], ⟨h', _⟩ =>
  obtain rfl := fits_rt h'
  exact (refRates_any r w).mono fun e w' ⟨h, hb⟩ => ⟨_, h, rfl, hb⟩
theorem owedR_eq (a : Tl) (r : Rt) : owedR a r = if okT a.id a.hs a.st a.fo = true then (if r.ok = true then (spanF (rateW r) a.st a.fo, 0) else ((0, 0), 71)) else ((0, 0), 70) := by
 unfold owedR owesR errAll owesL
 simp [Tl.ok]
 split <;> simp_all
end Go.Proofs.YtihonljdanjfmaaGreatDoor.Sw
namespace Go.Proofs.YtihonljdanjfmaaGreatDoor
open Go Go.ChangeShapes Go.WideShapes Go.ChangeAt Go.RowKit
def laidB : List (String × DataW Unit) := [("aguador/tally.checks", Rows.laid_aguador_tally_checks), ("aguador/floor.checks", Rows.laid_aguador_floor_checks)]
set_option maxRecDepth 100000 in
theorem door_metB (os : Os) (args : Array Value) : laidMetH Tryz.prog laidB ((World.doorLaid Tryz.prog 400 os).forCall (fun _ _ => 0) ⟨#[], args, []⟩).memory :=
 laidMetH_of_parts3 (fuel := 8) (laidMet_of_run' 8 (by kernel_rfl) (by kernel_rfl)) (by kernel_rfl) (by kernel_rfl)
set_option maxRecDepth 100000 in
theorem tab_ofT {W : World} {L : List (String × DataW Unit)} (hm : ("aguador/tally.checks", Rows.laid_aguador_tally_checks) ∈ L) (h : laidMetH Tryz.prog L W) : Tab W := by
 obtain ⟨g, t, cs, fuel, p, hg, ht, hv, hd⟩ := h.funcs (n := "aguador/tally.checks") hm
 obtain rfl := Option.some.inj ((show Tryz.prog.globalNamed "aguador/tally.checks" = some 1 by kernel_rfl).symm.trans hg)
 obtain rfl := Option.some.inj ((show (Tryz.prog.globals[1]?).map (·.type) = some 192 by kernel_rfl).symm.trans ht)
 have hd' : DataW.trod (funcToken Tryz.prog) Tryz.prog W 0 (fun _ => true) true fuel 192 cs.toList = some (.agg [.agg [.held [97, 103, 117, 97, 100, 111, 114, 47, 116, 97, 108, 108, 121, 46, 99, 104, 101, 99, 107, 115, 36, 49]], .agg [.held [97, 103, 117, 97, 100, 111, 114, 47, 116, 97, 108, 108, 121, 46, 99, 104, 101, 99, 107, 115, 36, 50]], .agg [.held [97, 103, 117, 97, 100, 111, 114, 47, 116, 97, 108, 108, 121, 46, 99, 104, 101, 99, 107, 115, 36, 51]]], p) := hd
 obtain ⟨xs, m, rfl, hx, hlen, hn, hel⟩ := DataW.trod_array Tryz.underlying192 hd'
 rw [show Tryz.prog.cellsOf 191 = 1 by kernel_rfl] at hel
 rw [show Tryz.prog.cellsOf 192 = 3 by kernel_rfl] at hlen
 obtain ⟨cl⟩ := cs
 match cl, hlen, xs, hn with
 | [v0, v1, v2], _, [x0, x1, x2], _ =>
  simp only [Prod.mk.injEq, DataW.agg.injEq, List.map_cons, List.map_nil, List.cons.injEq] at hx
  have h0 := hel 0 (by decide); have h1 := hel 1 (by decide); have h2 := hel 2 (by decide)
  simp at h0 h1 h2
  have go : ∀ (v : Value) (x : DataW (List UInt8) × List MemPlace) (b : UInt8) (r : List UInt8) (f0 : FuncId), ((List.range Tryz.prog.funcs.size).filter fun f => (Tryz.prog.funcs[f]?).any (·.name.toUTF8.data.toList == b :: r)) = [f0] →
    DataW.trod (funcToken Tryz.prog) Tryz.prog W 0 (fun _ => true) true m 191 [v] = some x → x.1 = .agg [.held (b :: r)] → v = .func (.func f0) #[] #[] := by
   intro v x b r f0 hone h hx
   obtain ⟨y, n, rfl, _, hy⟩ := trod_struct1 Tryz.underlying191 h
   simp only [DataW.agg.injEq, List.cons.injEq, and_true] at hx
   obtain ⟨y1, y2⟩ := y
   simp only at hx
   subst hx
   exact func_of_trod (P := Tryz.prog) Tryz.underlying70 hone (by simpa [show Tryz.prog.cellsOf 70 = 1 by kernel_rfl] using hy)
  have e0 := go v0 x0 _ _ 210 (by kernel_rfl) h0 hx.1.1.symm
  have e1 := go v1 x1 _ _ 211 (by kernel_rfl) h1 hx.1.2.1.symm
  have e2 := go v2 x2 _ _ 212 (by kernel_rfl) h2 hx.1.2.2.1.symm
  subst e0; subst e1; subst e2
  have c0 := World.var?_cell hg hv 0; have c1 := World.var?_cell hg hv 1; have c2 := World.var?_cell hg hv 2
  exact ⟨by simpa using c0, by simpa using c1, by simpa using c2⟩
end Go.Proofs.YtihonljdanjfmaaGreatDoor
namespace Go.Proofs.YtihonljdanjfmaaGreatDoor.Sw
open Go Go.RowKit Go.ChangeShapes Go.WideShapes Go.ChangeAt
set_option maxRecDepth 100000
theorem tab_hsT {w : World} (h : Tab w) : hsP [HA.tab] (gh w) [] w := ⟨[], [], .refl _, ⟨rfl, cellG_gh h.1, cellG_gh h.2.1, cellG_gh h.2.2⟩, rfl⟩
theorem tabs_of {W : World} (h : laidMetH Tryz.prog laidB W) : hsP [tab8, HA.tab] (gh W) [] W :=
 hsP.append (tab_of8 (List.mem_cons_of_mem _ (List.mem_cons_self ..)) h) (tab_hsT (tab_ofT (List.mem_cons_self ..) h))
end Go.Proofs.YtihonljdanjfmaaGreatDoor.Sw
namespace Go.Proofs.YtihonljdanjfmaaGreatDoor
open Go.RowKit Go.Proofs Go.Shelf
theorem mixed : Tryz.prog.follows .mixedOrders = true := by kernel_rfl
def joinF (a b : Tl) : Tl × Int := if a.ok && b.ok then (if (a.cat b).ok then (a.cat b, 0) else (zeroT, 9)) else (zeroT, 70)
theorem errAll_two (a b : Tl) : errAll [a, b] = errT (a.ok && b.ok) := by
 unfold errAll errT
 rw [if_neg (by simp)]
 simp
theorem RdT.two {w : World} {B : Nat} {a b : Tl} {sa fa sb fb : Option Addr} {sc fc sd fd : Nat} {t : TypeId}
  (h : Box w B #[.int .i64 a.id, .int .i64 a.hs, .slice sa a.st.length sc, .slice fa a.fo.length fc, .int .i64 b.id, .int .i64 b.hs, .slice sb b.st.length sd, .slice fb b.fo.length fd] t)
  (h1 : RdI w sa a.st) (h2 : RdI w fa a.fo) (h3 : RdI w sb b.st) (h4 : RdI w fb b.fo) : RdT w (some ⟨B, 0, none⟩) [a, b] := fun i hi => by
 match i, hi with
 | 0, _ => exact ⟨B, 0, sa, sc, fa, fc, rfl, h.cell 0, h.cell 1, h.cell 2, h.cell 3, h1, h2⟩
 | 1, _ => exact ⟨B, 0, sb, sd, fb, fd, rfl, h.cell 4, h.cell 5, h.cell 6, h.cell 7, h3, h4⟩
theorem join_any (a b : Tl) (sa fa sb fb : Option Addr) (sc fc sd fd : Nat) (w : World) (ht : Tab w)
  (ha : a.small) (hb : b.small) (h1 : RdI w sa a.st) (h2 : RdI w fa a.fo) (h3 : RdI w sb b.st) (h4 : RdI w fb b.fo) :
  Calls Tryz.prog 55 #[.agg #[.int .i64 a.id, .int .i64 a.hs, .slice sa a.st.length sc, .slice fa a.fo.length fc], .agg #[.int .i64 b.id, .int .i64 b.hs, .slice sb b.st.length sd, .slice fb b.fo.length fd]] w
   fun e w' => ∃ v, e = .returned (.tuple #[v, .int .i64 (joinF a b).2]) ∧ Below w.heap.size w w' ∧ NewT w.heap.size w' v (joinF a b).1 := by
 have H1 := hid h1; have H2 := hid h2; have H3 := hid h3; have H4 := hid h4; clear h1 h2 h3 h4
 have HT := hid ht; clear ht
 have HA := hid ha; have HB := hid hb; clear ha hb
 go_enter Tryz.func55, Tryz.ntmps55
 go_wp2_with fail
 refine (all_any _ _ [a, b] _ ?_ ?_ ?_ ?_).mono ?_
 ·simp
 ·exact HT.out.below goBl
 ·intro t ht; simp at ht; rcases ht with rfl | rfl
  ·exact HA.out
  ·exact HB.out
 ·exact RdT.two (sa := sa) (sc := sc) (fa := fa) (fc := fc) (sb := sb) (sd := sd) (fb := fb) (fd := fd) (t := 67) (by repeat (first | (with_reducible assumption) | (with_reducible refine Box.at _ _ yL) | (with_reducible refine Box.drew ?_) | (with_reducible refine Box.alloc ?_ _) | (with_reducible refine Box.other ?_ _ _ _ yL) | (refine Box.below ?_ hb2 yL) | (refine Box.below ?_ hb3 yL))) (H1.out.below goBl) (H2.out.below goBl) (H3.out.below goBl) (H4.out.below goBl)
 rw [errAll_two]
 rintro e w1 ⟨rfl, hb1⟩
 have hz1 := hb1.size; (try simp only [World.size_alloc] at hz1)
 -- the boxes behind the call
 have ba : Box w1 w.heap.size #[.int .i64 a.id, .int .i64 a.hs, .slice sa a.st.length sc, .slice fa a.fo.length fc] 67 := Box.below (by repeat (first | (with_reducible assumption) | (with_reducible refine Box.at _ _ yL) | (with_reducible refine Box.drew ?_) | (with_reducible refine Box.alloc ?_ _) | (with_reducible refine Box.other ?_ _ _ _ yL) | (refine Box.below ?_ hb2 yL) | (refine Box.below ?_ hb3 yL))) hb1 yL
 have bb : Box w1 (w.heap.size + 1) #[.int .i64 b.id, .int .i64 b.hs, .slice sb b.st.length sd, .slice fb b.fo.length fd] 67 := Box.below (by repeat (first | (with_reducible assumption) | (with_reducible refine Box.at _ _ yL) | (with_reducible refine Box.drew ?_) | (with_reducible refine Box.alloc ?_ _) | (with_reducible refine Box.other ?_ _ _ _ yL) | (refine Box.below ?_ hb2 yL) | (refine Box.below ?_ hb3 yL))) hb1 yL
 have br : Box w1 (w.heap.size + 2) #[.int .i64 0, .int .i64 0, .slice none 0 0, .slice none 0 0] 67 := Box.below (by repeat (first | (with_reducible assumption) | (with_reducible refine Box.at _ _ yL) | (with_reducible refine Box.drew ?_) | (with_reducible refine Box.alloc ?_ _) | (with_reducible refine Box.other ?_ _ _ _ yL) | (refine Box.below ?_ hb2 yL) | (refine Box.below ?_ hb3 yL))) hb1 yL
 have hb : Below w.heap.size w w1 := goBl
 clear hb1
 by_cases hok : (a.ok && b.ok) = true
 ·have t1 : (errT (a.ok && b.ok) != 0) = false := by rw [hok]; rfl
  have la : a.st.length ≤ 12 ∧ a.fo.length ≤ 12 := by
   have := (Bool.and_eq_true _ _ ▸ hok).1; simp [Tl.ok, okT] at this; omega
  have lb : b.st.length ≤ 12 ∧ b.fo.length ≤ 12 := by
   have := (Bool.and_eq_true _ _ ▸ hok).2; simp [Tl.ok, okT] at this; omega
  have HK := hid hok; clear hok
  go_wp2_with fail
  refine wp_post (fun a' w' => ∃ x0 x1 x2 x3 x4 x5 x6 x7 x8 x9 x10 x11 x12 x13 x14 x15 x16 x17 x18 x19 x20 x21 x22 x23 x24 x25 x26 x27 x28 x29 x30 x31 x32 x33 s1 c1 s2 c2, a' = ⟨#[x0, x1, x2, x3, x4, x5, x6, x7, x8, x9, x10, x11, x12, x13, x14, x15, x16, x17, x18, x19, x20, x21, x22, x23, x24, x25, x26, x27, x28, x29, x30, x31, x32, x33], []⟩ ∧ x2 = .pointer (some ⟨w.heap.size, 0, none⟩) ∧ x4 = .pointer (some ⟨w.heap.size + 2, 0, none⟩) ∧ Below w.heap.size w w' ∧
   Box w' w.heap.size #[.int .i64 a.id, .int .i64 a.hs, .slice s1 (a.st.length + b.st.length) c1, .slice s2 (a.fo.length + b.fo.length) c2] 67 ∧ Box w' (w.heap.size + 2) #[.int .i64 0, .int .i64 0, .slice none 0 0, .slice none 0 0] 67 ∧
   w'.ownsRow (w.heap.size + 3) 3 1 (.slice s1 (a.st.length + b.st.length) c1) (a.st.length + b.st.length) ((a.st ++ b.st).map (Value.int .i64)) ∧ w'.ownsRow (w.heap.size + 3) 3 1 (.slice s2 (a.fo.length + b.fo.length) c2) (a.fo.length + b.fo.length) ((a.fo ++ b.fo).map (Value.int .i64)) ∧ ApartV (.slice s1 (a.st.length + b.st.length) c1) (.slice s2 (a.fo.length + b.fo.length) c2)) ?_ ?_
  ·have q1 : w1.cell? ⟨w.heap.size, 2, none⟩ = some (.slice sa a.st.length sc) := ba.cell 2
   have q2 : w1.cell? ⟨w.heap.size, 3, none⟩ = some (.slice fa a.fo.length fc) := ba.cell 3
   have q3 : w1.cell? ⟨w.heap.size + 1, 2, none⟩ = some (.slice sb b.st.length sd) := bb.cell 2
   have q4 : w1.cell? ⟨w.heap.size + 1, 3, none⟩ = some (.slice fb b.fo.length fd) := bb.cell 3
   have z1 := ba.lt; have z2 := bb.lt
   refine wp_region_F [1, 3, 7, 9] (fun w' => w'.cell? ⟨w.heap.size, 2, none⟩ = some (.slice sa a.st.length sc) ∧ w'.cell? ⟨w.heap.size, 3, none⟩ = some (.slice fa a.fo.length fc) ∧ w'.cell? ⟨w.heap.size + 1, 2, none⟩ = some (.slice sb b.st.length sd) ∧ w'.cell? ⟨w.heap.size + 1, 3, none⟩ = some (.slice fb b.fo.length fd)) mixed ⟨by go_simp, by go_simp, by go_simp, by go_simp⟩ ?_
   intro hS0; have hS := hid hS0; clear hS0
   (apply wpAnyF_pure (i := 0) rfl (by kernel_rfl) (fun _ _ _ h => h); · first | exact .inr ⟨rfl, rfl⟩ | exact .inl ⟨rfl, fun w' => by go_simp; rfl⟩); simp only [Act.put, List.setIfInBounds_toArray, List.set_cons_succ, List.set_cons_zero, List.getElem_toArray, List.getElem_cons_succ, List.getElem_cons_zero]
   (apply wpAnyF_held (i := 1) rfl (by kernel_rfl) (fun _ _ _ h => h) hS.out; · first | exact .inr ⟨rfl, rfl⟩ | exact .inl ⟨rfl, fun w' hS' => by (obtain ⟨s1, s2, s3, s4⟩ := hS'; go_simp; rfl)⟩); simp only [Act.put, List.setIfInBounds_toArray, List.set_cons_succ, List.set_cons_zero, List.getElem_toArray, List.getElem_cons_succ, List.getElem_cons_zero]
   (apply wpAnyF_pure (i := 2) rfl (by kernel_rfl) (fun _ _ _ h => h); · first | exact .inr ⟨rfl, rfl⟩ | exact .inl ⟨rfl, fun w' => by go_simp; rfl⟩); simp only [Act.put, List.setIfInBounds_toArray, List.set_cons_succ, List.set_cons_zero, List.getElem_toArray, List.getElem_cons_succ, List.getElem_cons_zero]
   (apply wpAnyF_held (i := 3) rfl (by kernel_rfl) (fun _ _ _ h => h) hS.out; · first | exact .inr ⟨rfl, rfl⟩ | exact .inl ⟨rfl, fun w' hS' => by (obtain ⟨s1, s2, s3, s4⟩ := hS'; go_simp; rfl)⟩); simp only [Act.put, List.setIfInBounds_toArray, List.set_cons_succ, List.set_cons_zero, List.getElem_toArray, List.getElem_cons_succ, List.getElem_cons_zero]
   (apply wpAnyF_pure (i := 6) rfl (by kernel_rfl) (fun _ _ _ h => h); · first | exact .inr ⟨rfl, rfl⟩ | exact .inl ⟨rfl, fun w' => by go_simp; rfl⟩); simp only [Act.put, List.setIfInBounds_toArray, List.set_cons_succ, List.set_cons_zero, List.getElem_toArray, List.getElem_cons_succ, List.getElem_cons_zero]
   (apply wpAnyF_held (i := 7) rfl (by kernel_rfl) (fun _ _ _ h => h) hS.out; · first | exact .inr ⟨rfl, rfl⟩ | exact .inl ⟨rfl, fun w' hS' => by (obtain ⟨s1, s2, s3, s4⟩ := hS'; go_simp; rfl)⟩); simp only [Act.put, List.setIfInBounds_toArray, List.set_cons_succ, List.set_cons_zero, List.getElem_toArray, List.getElem_cons_succ, List.getElem_cons_zero]
   (apply wpAnyF_pure (i := 8) rfl (by kernel_rfl) (fun _ _ _ h => h); · first | exact .inr ⟨rfl, rfl⟩ | exact .inl ⟨rfl, fun w' => by go_simp; rfl⟩); simp only [Act.put, List.setIfInBounds_toArray, List.set_cons_succ, List.set_cons_zero, List.getElem_toArray, List.getElem_cons_succ, List.getElem_cons_zero]
   (apply wpAnyF_held (i := 9) rfl (by kernel_rfl) (fun _ _ _ h => h) hS.out; · first | exact .inr ⟨rfl, rfl⟩ | exact .inl ⟨rfl, fun w' hS' => by (obtain ⟨s1, s2, s3, s4⟩ := hS'; go_simp; rfl)⟩); simp only [Act.put, List.setIfInBounds_toArray, List.set_cons_succ, List.set_cons_zero, List.getElem_toArray, List.getElem_cons_succ, List.getElem_cons_zero]
   refine wpAnyF_two (i := 4) (j := 10) rfl rfl ⟨by kernel_rfl, by kernel_rfl, by kernel_rfl⟩ ?_ ?_
   ·
    intro K hK
    go_simp
    refine shutS hK (by obtain ⟨s1, s2, s3, s4⟩ := hS.out; exact ⟨by go_simp, by go_simp, by go_simp, by go_simp⟩) (fun hS => ?_)
    refine wpAnyF_two (i := 5) (j := 10) rfl rfl ⟨by kernel_rfl, by kernel_rfl, by kernel_rfl⟩ ?_ ?_
    ·
     intro K hK
     go_simp
     refine (concat_any _ _ _ _ _ a.st b.st _ (by omega) (by omega) (H1.out.below goBl) (H3.out.below goBl) (Box.cell (cs := #[.slice sa a.st.length sc, .slice sb b.st.length sd]) (t := 22) (by repeat (first | (with_reducible assumption) | (with_reducible refine Box.at _ _ yL) | (with_reducible refine Box.drew ?_) | (with_reducible refine Box.alloc ?_ _) | (with_reducible refine Box.other ?_ _ _ _ yL) | (refine Box.below ?_ hb2 yL) | (refine Box.below ?_ hb3 yL))) 0) (Box.cell (cs := #[.slice sa a.st.length sc, .slice sb b.st.length sd]) (t := 22) (by repeat (first | (with_reducible assumption) | (with_reducible refine Box.at _ _ yL) | (with_reducible refine Box.drew ?_) | (with_reducible refine Box.alloc ?_ _) | (with_reducible refine Box.other ?_ _ _ _ yL) | (refine Box.below ?_ hb2 yL) | (refine Box.below ?_ hb3 yL))) 1)).mono ?_
     rintro e w2 ⟨s1, c1, rfl, hb2, own1⟩
     have hz2 := hb2.size; (try simp at hz2)
     have ba2 : Box w2 w.heap.size #[.int .i64 a.id, .int .i64 a.hs, .slice sa a.st.length sc, .slice fa a.fo.length fc] 67 := Box.below (by repeat (first | (with_reducible assumption) | (with_reducible refine Box.at _ _ yL) | (with_reducible refine Box.drew ?_) | (with_reducible refine Box.alloc ?_ _) | (with_reducible refine Box.other ?_ _ _ _ yL) | (refine Box.below ?_ hb2 yL) | (refine Box.below ?_ hb3 yL))) hb2 yL
     have bb2 : Box w2 (w.heap.size + 1) #[.int .i64 b.id, .int .i64 b.hs, .slice sb b.st.length sd, .slice fb b.fo.length fd] 67 := Box.below (by repeat (first | (with_reducible assumption) | (with_reducible refine Box.at _ _ yL) | (with_reducible refine Box.drew ?_) | (with_reducible refine Box.alloc ?_ _) | (with_reducible refine Box.other ?_ _ _ _ yL) | (refine Box.below ?_ hb2 yL) | (refine Box.below ?_ hb3 yL))) hb2 yL
     have br2 : Box w2 (w.heap.size + 2) #[.int .i64 0, .int .i64 0, .slice none 0 0, .slice none 0 0] 67 := Box.below (by repeat (first | (with_reducible assumption) | (with_reducible refine Box.at _ _ yL) | (with_reducible refine Box.drew ?_) | (with_reducible refine Box.alloc ?_ _) | (with_reducible refine Box.other ?_ _ _ _ yL) | (refine Box.below ?_ hb2 yL) | (refine Box.below ?_ hb3 yL))) hb2 yL
     have hw2 : Below w.heap.size w w2 := goBl
     have z12 := ba2.lt; have z22 := bb2.lt
     refine shutS hK ⟨ba2.cell 2, ba2.cell 3, bb2.cell 2, bb2.cell 3⟩ (fun hS => ?_)
     (apply wpAnyF_pure (i := 12) rfl (by kernel_rfl) (fun _ _ _ h => h); · first | exact .inr ⟨rfl, rfl⟩ | exact .inl ⟨rfl, fun w' => by go_simp; rfl⟩); simp only [Act.put, List.setIfInBounds_toArray, List.set_cons_succ, List.set_cons_zero, List.getElem_toArray, List.getElem_cons_succ, List.getElem_cons_zero]
     refine wpAnyF_one (i := 10) rfl ⟨by kernel_rfl, by kernel_rfl⟩ ?_
     intro K hK
     go_simp
     refine shutS hK (by obtain ⟨s1, s2, s3, s4⟩ := hS.out; exact ⟨by go_simp, by go_simp, by go_simp, by go_simp⟩) (fun hS => ?_)
     refine wpAnyF_one (i := 11) rfl ⟨by kernel_rfl, by kernel_rfl⟩ ?_
     intro K hK
     go_simp
     refine (concat_any _ _ _ _ _ a.fo b.fo _ (by omega) (by omega) (H2.out.below goBl) (H4.out.below goBl) (Box.cell (cs := #[.slice fa a.fo.length fc, .slice fb b.fo.length fd]) (t := 22) (by repeat (first | (with_reducible assumption) | (with_reducible refine Box.at _ _ yL) | (with_reducible refine Box.drew ?_) | (with_reducible refine Box.alloc ?_ _) | (with_reducible refine Box.other ?_ _ _ _ yL) | (refine Box.below ?_ hb2 yL) | (refine Box.below ?_ hb3 yL))) 0) (Box.cell (cs := #[.slice fa a.fo.length fc, .slice fb b.fo.length fd]) (t := 22) (by repeat (first | (with_reducible assumption) | (with_reducible refine Box.at _ _ yL) | (with_reducible refine Box.drew ?_) | (with_reducible refine Box.alloc ?_ _) | (with_reducible refine Box.other ?_ _ _ _ yL) | (refine Box.below ?_ hb2 yL) | (refine Box.below ?_ hb3 yL))) 1)).mono ?_
     rintro e w3 ⟨s2, c2, rfl, hb3, own2⟩
     have hz3 := hb3.size; (try simp at hz3)
     have ba3 : Box w3 w.heap.size #[.int .i64 a.id, .int .i64 a.hs, .slice sa a.st.length sc, .slice fa a.fo.length fc] 67 := Box.below (by first | exact ba2 | exact ba2.alloc _ | exact (by repeat (first | (with_reducible assumption) | (with_reducible refine Box.at _ _ yL) | (with_reducible refine Box.drew ?_) | (with_reducible refine Box.alloc ?_ _) | (with_reducible refine Box.other ?_ _ _ _ yL) | (refine Box.below ?_ hb2 yL) | (refine Box.below ?_ hb3 yL)))) hb3 yL
     have bb3 : Box w3 (w.heap.size + 1) #[.int .i64 b.id, .int .i64 b.hs, .slice sb b.st.length sd, .slice fb b.fo.length fd] 67 := Box.below (by first | exact bb2 | exact bb2.alloc _ | exact (by repeat (first | (with_reducible assumption) | (with_reducible refine Box.at _ _ yL) | (with_reducible refine Box.drew ?_) | (with_reducible refine Box.alloc ?_ _) | (with_reducible refine Box.other ?_ _ _ _ yL) | (refine Box.below ?_ hb2 yL) | (refine Box.below ?_ hb3 yL)))) hb3 yL
     have br3 : Box w3 (w.heap.size + 2) #[.int .i64 0, .int .i64 0, .slice none 0 0, .slice none 0 0] 67 := Box.below (by first | exact br2 | exact br2.alloc _ | exact (by repeat (first | (with_reducible assumption) | (with_reducible refine Box.at _ _ yL) | (with_reducible refine Box.drew ?_) | (with_reducible refine Box.alloc ?_ _) | (with_reducible refine Box.other ?_ _ _ _ yL) | (refine Box.below ?_ hb2 yL) | (refine Box.below ?_ hb3 yL)))) hb3 yL
     have hw3 : Below w.heap.size w w3 := goBl
     have own13 : w3.ownsRow (w.heap.size + 3) 3 1 (.slice s1 (a.st.length + b.st.length) c1) (a.st.length + b.st.length) ((a.st ++ b.st).map (Value.int .i64)) := own_base (by first | exact own_below own1 hb3 (Nat.le_refl _) | exact own_below (own1.alloc _) hb3 (Nat.le_refl _)) yL
     have own23 : w3.ownsRow (w.heap.size + 3) 3 1 (.slice s2 (a.fo.length + b.fo.length) c2) (a.fo.length + b.fo.length) ((a.fo ++ b.fo).map (Value.int .i64)) := own_base own2 yL
     have hap : ApartV (.slice s1 (a.st.length + b.st.length) c1) (.slice s2 (a.fo.length + b.fo.length) c2) := own_apart own1 own2 yL
     have z13 := ba3.lt
     have g2 := ba3.cell 2; have g3 := ba3.cell 3; have k2 := ba3.frozen 2; have k3 := ba3.frozen 3
     simp at g2 g3
     refine shutN hK (by kernel_rfl) ?_
     refine wpAnyF_one (i := 13) rfl ⟨by kernel_rfl, by kernel_rfl⟩ ?_
     intro K hK
     go_simp
     refine shutN hK (by kernel_rfl) ?_
     (apply wpAnyF_pure (i := 14) rfl (by kernel_rfl) (fun _ _ _ h => h); · first | exact .inr ⟨rfl, rfl⟩ | exact .inl ⟨rfl, fun w' => by go_simp; rfl⟩); simp only [Act.put, List.setIfInBounds_toArray, List.set_cons_succ, List.set_cons_zero, List.getElem_toArray, List.getElem_cons_succ, List.getElem_cons_zero]
     refine wpAnyF_one (i := 15) rfl ⟨by kernel_rfl, by kernel_rfl⟩ ?_
     intro K hK
     go_simp
     refine shutN hK (by kernel_rfl) ?_
     refine wpAnyF_done (by kernel_rfl) ?_ _
     exact ⟨_, _, _, _, _, _, _, _, _, _, _, _, _, _, _, _, _, _, _, _, _, _, _, _, _, _, _, _, _, _, _, _, _, _, s1, c1, s2, c2, rfl, rfl, rfl, goBl, (ba3.set 2 _).set 3 _, (by repeat (first | (with_reducible assumption) | (with_reducible refine Box.at _ _ yL) | (with_reducible refine Box.drew ?_) | (with_reducible refine Box.alloc ?_ _) | (with_reducible refine Box.other ?_ _ _ _ yL) | (refine Box.below ?_ hb2 yL) | (refine Box.below ?_ hb3 yL))), own_other (own_other own13 yL) yL, own_other (own_other own23 yL) yL, hap⟩
    ·
     intro K hK
     go_simp
     refine shutS hK (by obtain ⟨s1, s2, s3, s4⟩ := hS.out; exact ⟨by go_simp, by go_simp, by go_simp, by go_simp⟩) (fun hS => ?_)
     refine wpAnyF_one (i := 5) rfl ⟨by kernel_rfl, by kernel_rfl⟩ ?_
     intro K hK
     go_simp
     refine (concat_any _ _ _ _ _ a.st b.st _ (by omega) (by omega) (H1.out.below goBl) (H3.out.below goBl) (Box.cell (cs := #[.slice sa a.st.length sc, .slice sb b.st.length sd]) (t := 22) (by repeat (first | (with_reducible assumption) | (with_reducible refine Box.at _ _ yL) | (with_reducible refine Box.drew ?_) | (with_reducible refine Box.alloc ?_ _) | (with_reducible refine Box.other ?_ _ _ _ yL) | (refine Box.below ?_ hb2 yL) | (refine Box.below ?_ hb3 yL))) 0) (Box.cell (cs := #[.slice sa a.st.length sc, .slice sb b.st.length sd]) (t := 22) (by repeat (first | (with_reducible assumption) | (with_reducible refine Box.at _ _ yL) | (with_reducible refine Box.drew ?_) | (with_reducible refine Box.alloc ?_ _) | (with_reducible refine Box.other ?_ _ _ _ yL) | (refine Box.below ?_ hb2 yL) | (refine Box.below ?_ hb3 yL))) 1)).mono ?_
     rintro e w2 ⟨s1, c1, rfl, hb2, own1⟩
     have hz2 := hb2.size; (try simp at hz2)
     have ba2 : Box w2 w.heap.size #[.int .i64 a.id, .int .i64 a.hs, .slice sa a.st.length sc, .slice fa a.fo.length fc] 67 := Box.below (by repeat (first | (with_reducible assumption) | (with_reducible refine Box.at _ _ yL) | (with_reducible refine Box.drew ?_) | (with_reducible refine Box.alloc ?_ _) | (with_reducible refine Box.other ?_ _ _ _ yL) | (refine Box.below ?_ hb2 yL) | (refine Box.below ?_ hb3 yL))) hb2 yL
     have bb2 : Box w2 (w.heap.size + 1) #[.int .i64 b.id, .int .i64 b.hs, .slice sb b.st.length sd, .slice fb b.fo.length fd] 67 := Box.below (by repeat (first | (with_reducible assumption) | (with_reducible refine Box.at _ _ yL) | (with_reducible refine Box.drew ?_) | (with_reducible refine Box.alloc ?_ _) | (with_reducible refine Box.other ?_ _ _ _ yL) | (refine Box.below ?_ hb2 yL) | (refine Box.below ?_ hb3 yL))) hb2 yL
     have br2 : Box w2 (w.heap.size + 2) #[.int .i64 0, .int .i64 0, .slice none 0 0, .slice none 0 0] 67 := Box.below (by repeat (first | (with_reducible assumption) | (with_reducible refine Box.at _ _ yL) | (with_reducible refine Box.drew ?_) | (with_reducible refine Box.alloc ?_ _) | (with_reducible refine Box.other ?_ _ _ _ yL) | (refine Box.below ?_ hb2 yL) | (refine Box.below ?_ hb3 yL))) hb2 yL
     have hw2 : Below w.heap.size w w2 := goBl
     have z12 := ba2.lt; have z22 := bb2.lt
     refine shutS hK ⟨ba2.cell 2, ba2.cell 3, bb2.cell 2, bb2.cell 3⟩ (fun hS => ?_)
     (apply wpAnyF_pure (i := 12) rfl (by kernel_rfl) (fun _ _ _ h => h); · first | exact .inr ⟨rfl, rfl⟩ | exact .inl ⟨rfl, fun w' => by go_simp; rfl⟩); simp only [Act.put, List.setIfInBounds_toArray, List.set_cons_succ, List.set_cons_zero, List.getElem_toArray, List.getElem_cons_succ, List.getElem_cons_zero]
     refine wpAnyF_one (i := 11) rfl ⟨by kernel_rfl, by kernel_rfl⟩ ?_
     intro K hK
     go_simp
     refine (concat_any _ _ _ _ _ a.fo b.fo _ (by omega) (by omega) (H2.out.below goBl) (H4.out.below goBl) (Box.cell (cs := #[.slice fa a.fo.length fc, .slice fb b.fo.length fd]) (t := 22) (by repeat (first | (with_reducible assumption) | (with_reducible refine Box.at _ _ yL) | (with_reducible refine Box.drew ?_) | (with_reducible refine Box.alloc ?_ _) | (with_reducible refine Box.other ?_ _ _ _ yL) | (refine Box.below ?_ hb2 yL) | (refine Box.below ?_ hb3 yL))) 0) (Box.cell (cs := #[.slice fa a.fo.length fc, .slice fb b.fo.length fd]) (t := 22) (by repeat (first | (with_reducible assumption) | (with_reducible refine Box.at _ _ yL) | (with_reducible refine Box.drew ?_) | (with_reducible refine Box.alloc ?_ _) | (with_reducible refine Box.other ?_ _ _ _ yL) | (refine Box.below ?_ hb2 yL) | (refine Box.below ?_ hb3 yL))) 1)).mono ?_
     rintro e w3 ⟨s2, c2, rfl, hb3, own2⟩
     have hz3 := hb3.size; (try simp at hz3)
     have ba3 : Box w3 w.heap.size #[.int .i64 a.id, .int .i64 a.hs, .slice sa a.st.length sc, .slice fa a.fo.length fc] 67 := Box.below (by first | exact ba2 | exact ba2.alloc _ | exact (by repeat (first | (with_reducible assumption) | (with_reducible refine Box.at _ _ yL) | (with_reducible refine Box.drew ?_) | (with_reducible refine Box.alloc ?_ _) | (with_reducible refine Box.other ?_ _ _ _ yL) | (refine Box.below ?_ hb2 yL) | (refine Box.below ?_ hb3 yL)))) hb3 yL
     have bb3 : Box w3 (w.heap.size + 1) #[.int .i64 b.id, .int .i64 b.hs, .slice sb b.st.length sd, .slice fb b.fo.length fd] 67 := Box.below (by first | exact bb2 | exact bb2.alloc _ | exact (by repeat (first | (with_reducible assumption) | (with_reducible refine Box.at _ _ yL) | (with_reducible refine Box.drew ?_) | (with_reducible refine Box.alloc ?_ _) | (with_reducible refine Box.other ?_ _ _ _ yL) | (refine Box.below ?_ hb2 yL) | (refine Box.below ?_ hb3 yL)))) hb3 yL
     have br3 : Box w3 (w.heap.size + 2) #[.int .i64 0, .int .i64 0, .slice none 0 0, .slice none 0 0] 67 := Box.below (by first | exact br2 | exact br2.alloc _ | exact (by repeat (first | (with_reducible assumption) | (with_reducible refine Box.at _ _ yL) | (with_reducible refine Box.drew ?_) | (with_reducible refine Box.alloc ?_ _) | (with_reducible refine Box.other ?_ _ _ _ yL) | (refine Box.below ?_ hb2 yL) | (refine Box.below ?_ hb3 yL)))) hb3 yL
     have hw3 : Below w.heap.size w w3 := goBl
     have own13 : w3.ownsRow (w.heap.size + 3) 3 1 (.slice s1 (a.st.length + b.st.length) c1) (a.st.length + b.st.length) ((a.st ++ b.st).map (Value.int .i64)) := own_base (by first | exact own_below own1 hb3 (Nat.le_refl _) | exact own_below (own1.alloc _) hb3 (Nat.le_refl _)) yL
     have own23 : w3.ownsRow (w.heap.size + 3) 3 1 (.slice s2 (a.fo.length + b.fo.length) c2) (a.fo.length + b.fo.length) ((a.fo ++ b.fo).map (Value.int .i64)) := own_base own2 yL
     have hap : ApartV (.slice s1 (a.st.length + b.st.length) c1) (.slice s2 (a.fo.length + b.fo.length) c2) := own_apart own1 own2 yL
     have z13 := ba3.lt
     have g2 := ba3.cell 2; have g3 := ba3.cell 3; have k2 := ba3.frozen 2; have k3 := ba3.frozen 3
     simp at g2 g3
     refine shutN hK (by kernel_rfl) ?_
     refine wpAnyF_one (i := 13) rfl ⟨by kernel_rfl, by kernel_rfl⟩ ?_
     intro K hK
     go_simp
     refine shutN hK (by kernel_rfl) ?_
     (apply wpAnyF_pure (i := 14) rfl (by kernel_rfl) (fun _ _ _ h => h); · first | exact .inr ⟨rfl, rfl⟩ | exact .inl ⟨rfl, fun w' => by go_simp; rfl⟩); simp only [Act.put, List.setIfInBounds_toArray, List.set_cons_succ, List.set_cons_zero, List.getElem_toArray, List.getElem_cons_succ, List.getElem_cons_zero]
     refine wpAnyF_one (i := 15) rfl ⟨by kernel_rfl, by kernel_rfl⟩ ?_
     intro K hK
     go_simp
     refine shutN hK (by kernel_rfl) ?_
     refine wpAnyF_done (by kernel_rfl) ?_ _
     exact ⟨_, _, _, _, _, _, _, _, _, _, _, _, _, _, _, _, _, _, _, _, _, _, _, _, _, _, _, _, _, _, _, _, _, _, s1, c1, s2, c2, rfl, rfl, rfl, goBl, (ba3.set 2 _).set 3 _, (by repeat (first | (with_reducible assumption) | (with_reducible refine Box.at _ _ yL) | (with_reducible refine Box.drew ?_) | (with_reducible refine Box.alloc ?_ _) | (with_reducible refine Box.other ?_ _ _ _ yL) | (refine Box.below ?_ hb2 yL) | (refine Box.below ?_ hb3 yL))), own_other (own_other own13 yL) yL, own_other (own_other own23 yL) yL, hap⟩
   ·
    intro K hK
    go_simp
    refine shutS hK (by obtain ⟨s1, s2, s3, s4⟩ := hS.out; exact ⟨by go_simp, by go_simp, by go_simp, by go_simp⟩) (fun hS => ?_)
    refine wpAnyF_one (i := 4) rfl ⟨by kernel_rfl, by kernel_rfl⟩ ?_
    intro K hK
    go_simp
    refine shutS hK (by obtain ⟨s1, s2, s3, s4⟩ := hS.out; exact ⟨by go_simp, by go_simp, by go_simp, by go_simp⟩) (fun hS => ?_)
    refine wpAnyF_one (i := 5) rfl ⟨by kernel_rfl, by kernel_rfl⟩ ?_
    intro K hK
    go_simp
    refine (concat_any _ _ _ _ _ a.st b.st _ (by omega) (by omega) (H1.out.below goBl) (H3.out.below goBl) (Box.cell (cs := #[.slice sa a.st.length sc, .slice sb b.st.length sd]) (t := 22) (by repeat (first | (with_reducible assumption) | (with_reducible refine Box.at _ _ yL) | (with_reducible refine Box.drew ?_) | (with_reducible refine Box.alloc ?_ _) | (with_reducible refine Box.other ?_ _ _ _ yL) | (refine Box.below ?_ hb2 yL) | (refine Box.below ?_ hb3 yL))) 0) (Box.cell (cs := #[.slice sa a.st.length sc, .slice sb b.st.length sd]) (t := 22) (by repeat (first | (with_reducible assumption) | (with_reducible refine Box.at _ _ yL) | (with_reducible refine Box.drew ?_) | (with_reducible refine Box.alloc ?_ _) | (with_reducible refine Box.other ?_ _ _ _ yL) | (refine Box.below ?_ hb2 yL) | (refine Box.below ?_ hb3 yL))) 1)).mono ?_
    rintro e w2 ⟨s1, c1, rfl, hb2, own1⟩
    have hz2 := hb2.size; (try simp at hz2)
    have ba2 : Box w2 w.heap.size #[.int .i64 a.id, .int .i64 a.hs, .slice sa a.st.length sc, .slice fa a.fo.length fc] 67 := Box.below (by repeat (first | (with_reducible assumption) | (with_reducible refine Box.at _ _ yL) | (with_reducible refine Box.drew ?_) | (with_reducible refine Box.alloc ?_ _) | (with_reducible refine Box.other ?_ _ _ _ yL) | (refine Box.below ?_ hb2 yL) | (refine Box.below ?_ hb3 yL))) hb2 yL
    have bb2 : Box w2 (w.heap.size + 1) #[.int .i64 b.id, .int .i64 b.hs, .slice sb b.st.length sd, .slice fb b.fo.length fd] 67 := Box.below (by repeat (first | (with_reducible assumption) | (with_reducible refine Box.at _ _ yL) | (with_reducible refine Box.drew ?_) | (with_reducible refine Box.alloc ?_ _) | (with_reducible refine Box.other ?_ _ _ _ yL) | (refine Box.below ?_ hb2 yL) | (refine Box.below ?_ hb3 yL))) hb2 yL
    have br2 : Box w2 (w.heap.size + 2) #[.int .i64 0, .int .i64 0, .slice none 0 0, .slice none 0 0] 67 := Box.below (by repeat (first | (with_reducible assumption) | (with_reducible refine Box.at _ _ yL) | (with_reducible refine Box.drew ?_) | (with_reducible refine Box.alloc ?_ _) | (with_reducible refine Box.other ?_ _ _ _ yL) | (refine Box.below ?_ hb2 yL) | (refine Box.below ?_ hb3 yL))) hb2 yL
    have hw2 : Below w.heap.size w w2 := goBl
    have z12 := ba2.lt; have z22 := bb2.lt
    refine shutS hK ⟨ba2.cell 2, ba2.cell 3, bb2.cell 2, bb2.cell 3⟩ (fun hS => ?_)
    (apply wpAnyF_pure (i := 12) rfl (by kernel_rfl) (fun _ _ _ h => h); · first | exact .inr ⟨rfl, rfl⟩ | exact .inl ⟨rfl, fun w' => by go_simp; rfl⟩); simp only [Act.put, List.setIfInBounds_toArray, List.set_cons_succ, List.set_cons_zero, List.getElem_toArray, List.getElem_cons_succ, List.getElem_cons_zero]
    refine wpAnyF_one (i := 11) rfl ⟨by kernel_rfl, by kernel_rfl⟩ ?_
    intro K hK
    go_simp
    refine (concat_any _ _ _ _ _ a.fo b.fo _ (by omega) (by omega) (H2.out.below goBl) (H4.out.below goBl) (Box.cell (cs := #[.slice fa a.fo.length fc, .slice fb b.fo.length fd]) (t := 22) (by repeat (first | (with_reducible assumption) | (with_reducible refine Box.at _ _ yL) | (with_reducible refine Box.drew ?_) | (with_reducible refine Box.alloc ?_ _) | (with_reducible refine Box.other ?_ _ _ _ yL) | (refine Box.below ?_ hb2 yL) | (refine Box.below ?_ hb3 yL))) 0) (Box.cell (cs := #[.slice fa a.fo.length fc, .slice fb b.fo.length fd]) (t := 22) (by repeat (first | (with_reducible assumption) | (with_reducible refine Box.at _ _ yL) | (with_reducible refine Box.drew ?_) | (with_reducible refine Box.alloc ?_ _) | (with_reducible refine Box.other ?_ _ _ _ yL) | (refine Box.below ?_ hb2 yL) | (refine Box.below ?_ hb3 yL))) 1)).mono ?_
    rintro e w3 ⟨s2, c2, rfl, hb3, own2⟩
    have hz3 := hb3.size; (try simp at hz3)
    have ba3 : Box w3 w.heap.size #[.int .i64 a.id, .int .i64 a.hs, .slice sa a.st.length sc, .slice fa a.fo.length fc] 67 := Box.below (by first | exact ba2 | exact ba2.alloc _ | exact (by repeat (first | (with_reducible assumption) | (with_reducible refine Box.at _ _ yL) | (with_reducible refine Box.drew ?_) | (with_reducible refine Box.alloc ?_ _) | (with_reducible refine Box.other ?_ _ _ _ yL) | (refine Box.below ?_ hb2 yL) | (refine Box.below ?_ hb3 yL)))) hb3 yL
    have bb3 : Box w3 (w.heap.size + 1) #[.int .i64 b.id, .int .i64 b.hs, .slice sb b.st.length sd, .slice fb b.fo.length fd] 67 := Box.below (by first | exact bb2 | exact bb2.alloc _ | exact (by repeat (first | (with_reducible assumption) | (with_reducible refine Box.at _ _ yL) | (with_reducible refine Box.drew ?_) | (with_reducible refine Box.alloc ?_ _) | (with_reducible refine Box.other ?_ _ _ _ yL) | (refine Box.below ?_ hb2 yL) | (refine Box.below ?_ hb3 yL)))) hb3 yL
    have br3 : Box w3 (w.heap.size + 2) #[.int .i64 0, .int .i64 0, .slice none 0 0, .slice none 0 0] 67 := Box.below (by first | exact br2 | exact br2.alloc _ | exact (by repeat (first | (with_reducible assumption) | (with_reducible refine Box.at _ _ yL) | (with_reducible refine Box.drew ?_) | (with_reducible refine Box.alloc ?_ _) | (with_reducible refine Box.other ?_ _ _ _ yL) | (refine Box.below ?_ hb2 yL) | (refine Box.below ?_ hb3 yL)))) hb3 yL
    have hw3 : Below w.heap.size w w3 := goBl
    have own13 : w3.ownsRow (w.heap.size + 3) 3 1 (.slice s1 (a.st.length + b.st.length) c1) (a.st.length + b.st.length) ((a.st ++ b.st).map (Value.int .i64)) := own_base (by first | exact own_below own1 hb3 (Nat.le_refl _) | exact own_below (own1.alloc _) hb3 (Nat.le_refl _)) yL
    have own23 : w3.ownsRow (w.heap.size + 3) 3 1 (.slice s2 (a.fo.length + b.fo.length) c2) (a.fo.length + b.fo.length) ((a.fo ++ b.fo).map (Value.int .i64)) := own_base own2 yL
    have hap : ApartV (.slice s1 (a.st.length + b.st.length) c1) (.slice s2 (a.fo.length + b.fo.length) c2) := own_apart own1 own2 yL
    have z13 := ba3.lt
    have g2 := ba3.cell 2; have g3 := ba3.cell 3; have k2 := ba3.frozen 2; have k3 := ba3.frozen 3
    simp at g2 g3
    refine shutN hK (by kernel_rfl) ?_
    refine wpAnyF_one (i := 13) rfl ⟨by kernel_rfl, by kernel_rfl⟩ ?_
    intro K hK
    go_simp
    refine shutN hK (by kernel_rfl) ?_
    (apply wpAnyF_pure (i := 14) rfl (by kernel_rfl) (fun _ _ _ h => h); · first | exact .inr ⟨rfl, rfl⟩ | exact .inl ⟨rfl, fun w' => by go_simp; rfl⟩); simp only [Act.put, List.setIfInBounds_toArray, List.set_cons_succ, List.set_cons_zero, List.getElem_toArray, List.getElem_cons_succ, List.getElem_cons_zero]
    refine wpAnyF_one (i := 15) rfl ⟨by kernel_rfl, by kernel_rfl⟩ ?_
    intro K hK
    go_simp
    refine shutN hK (by kernel_rfl) ?_
    refine wpAnyF_done (by kernel_rfl) ?_ _
    exact ⟨_, _, _, _, _, _, _, _, _, _, _, _, _, _, _, _, _, _, _, _, _, _, _, _, _, _, _, _, _, _, _, _, _, _, s1, c1, s2, c2, rfl, rfl, rfl, goBl, (ba3.set 2 _).set 3 _, (by repeat (first | (with_reducible assumption) | (with_reducible refine Box.at _ _ yL) | (with_reducible refine Box.drew ?_) | (with_reducible refine Box.alloc ?_ _) | (with_reducible refine Box.other ?_ _ _ _ yL) | (refine Box.below ?_ hb2 yL) | (refine Box.below ?_ hb3 yL))), own_other (own_other own13 yL) yL, own_other (own_other own23 yL) yL, hap⟩
  ·rintro a' w' ⟨x0, x1, x2, x3, x4, x5, x6, x7, x8, x9, x10, x11, x12, x13, x14, x15, x16, x17, x18, x19, x20, x21, x22, x23, x24, x25, x26, x27, x28, x29, x30, x31, x32, x33, s1, c1, s2, c2, rfl, rfl, rfl, hb, b1', b2', o1, o2, hap⟩
   obtain ⟨st, hst⟩ : ∃ st, st = a.st ++ b.st := ⟨_, rfl⟩
   obtain ⟨fo, hfo⟩ : ∃ fo, fo = a.fo ++ b.fo := ⟨_, rfl⟩
   have ln : a.st.length + b.st.length = st.length := by rw [hst, List.length_append]
   have ln2 : a.fo.length + b.fo.length = fo.length := by rw [hfo, List.length_append]
   have ls : st.length ≤ 4000 := by omega
   have lf : fo.length ≤ 4000 := by omega
   rw [ln] at b1' o1 hap
   rw [ln2] at b1' o2 hap
   rw [← hst] at o1
   rw [← hfo] at o2
   have J : Hid ((joinF a b) = if okT a.id a.hs st fo = true then (⟨a.id, a.hs, st, fo⟩, 0) else (zeroT, 9)) := by
    show joinF a b = _
    unfold joinF; rw [if_pos HK.out, hst, hfo]; rfl
   clear ba bb br ln ln2 hst hfo
   have e0 : w'.cell? ⟨w.heap.size, 0, none⟩ = some (.int .i64 a.id) := b1'.cell 0
   have e1 : w'.cell? ⟨w.heap.size, 1, none⟩ = some (.int .i64 a.hs) := b1'.cell 1
   have e2 : w'.cell? ⟨w.heap.size, 2, none⟩ = some (.slice s1 st.length c1) := b1'.cell 2
   have e3 : w'.cell? ⟨w.heap.size, 3, none⟩ = some (.slice s2 fo.length c2) := b1'.cell 3
   have O1 := hid o1; have O2 := hid o2; clear o1 o2
   go_wp2_with fail
   refine (check_any _ _ _ _ _ _ _ _ _ (HT.out.below goBl) ls lf (RdI.of_own O1.out) (RdI.of_own O2.out)).mono ?_
   rintro e w2 ⟨rfl, hb2⟩
   have hz2 := hb2.size; (try simp at hz2)
   have c1' : Box w2 w.heap.size #[.int .i64 a.id, .int .i64 a.hs, .slice s1 st.length c1, .slice s2 fo.length c2] 67 := b1'.below hb2 b1'.lt
   have c2' : Box w2 (w.heap.size + 2) #[.int .i64 0, .int .i64 0, .slice none 0 0, .slice none 0 0] 67 := b2'.below hb2 b2'.lt
   have P1 := hid (own_below O1.out hb2 (Nat.le_refl _))
   have P2 := hid (own_below O2.out hb2 (Nat.le_refl _))
   have hw2 : Below w.heap.size w w2 := hb.trans (hb2.mono hb.size)
   clear e0 e1 e2 e3 hb2
   have e0 : w2.cell? ⟨w.heap.size, 0, none⟩ = some (.int .i64 a.id) := c1'.cell 0
   have e1 : w2.cell? ⟨w.heap.size, 1, none⟩ = some (.int .i64 a.hs) := c1'.cell 1
   have e2 : w2.cell? ⟨w.heap.size, 2, none⟩ = some (.slice s1 st.length c1) := c1'.cell 2
   have e3 : w2.cell? ⟨w.heap.size, 3, none⟩ = some (.slice s2 fo.length c2) := c1'.cell 3
   have r0 : w2.cell? ⟨w.heap.size + 2, 0, none⟩ = some (.int .i64 0) := c2'.cell 0
   have r1 : w2.cell? ⟨w.heap.size + 2, 1, none⟩ = some (.int .i64 0) := c2'.cell 1
   have r2 : w2.cell? ⟨w.heap.size + 2, 2, none⟩ = some (.slice none 0 0) := c2'.cell 2
   have r3 : w2.cell? ⟨w.heap.size + 2, 3, none⟩ = some (.slice none 0 0) := c2'.cell 3
   have k0 := c2'.frozen 0; have k1 := c2'.frozen 1; have k2 := c2'.frozen 2; have k3 := c2'.frozen 3
   by_cases hk : okT a.id a.hs st fo = true
   ·have t2 : (errT (okT a.id a.hs st fo) != 0) = false := by rw [hk]; rfl
    have HK2 := hid hk; clear hk
    go_wp2_with fail
    refine bodyPost_ret (v := .tuple #[.agg #[.int .i64 a.id, .int .i64 a.hs, .slice s1 st.length c1, .slice s2 fo.length c2], .int .i64 0]) (by simp [results, Tryz.results55, go_sem, r0, r1, r2, r3]) rfl ?_
    rw [J.out, if_pos HK2.out]
    exact ⟨_, rfl, goBl, s1, c1, s2, c2, rfl, own_base (base := w.heap.size + 3) (own_other (own_other (own_other (own_other P1.out yL) yL) yL) yL) yL, own_base (base := w.heap.size + 3) (own_other (own_other (own_other (own_other P2.out yL) yL) yL) yL) yL, hap⟩
   ·have hk' : okT a.id a.hs st fo = false := by simpa using hk
    have t2 : (errT (okT a.id a.hs st fo) != 0) = true := by rw [hk']; rfl
    have HK2 := hid hk'; clear hk hk'
    go_wp2_with fail
    refine bodyPost_ret (v := .tuple #[.agg #[.int .i64 0, .int .i64 0, .slice none 0 0, .slice none 0 0], .int .i64 9]) (by simp [results, Tryz.results55, go_sem, r0, r1, r2, r3]) rfl ?_
    rw [J.out, HK2.out]
    exact ⟨_, rfl, goBl, NewT.zero _ _⟩
 ·have hok' : (a.ok && b.ok) = false := by simpa using hok
  have t1 : (errT (a.ok && b.ok) != 0) = true := by rw [hok']; rfl
  have J : Hid (joinF a b = (zeroT, 70)) := by show joinF a b = _; unfold joinF; rw [hok']; rfl
  have K := hid hok'; clear hok hok'
  have r0 := br.cell 0; have r1 := br.cell 1; have r2 := br.cell 2; have r3 := br.cell 3
  have k0 := br.frozen 0; have k1 := br.frozen 1; have k2 := br.frozen 2; have k3 := br.frozen 3
  simp at r0 r1 r2 r3
  go_wp2_with fail
  refine bodyPost_ret (v := .tuple #[.agg #[.int .i64 0, .int .i64 0, .slice none 0 0, .slice none 0 0], .int .i64 70]) (by simp [results, Tryz.results55, go_sem, r0, r1, r2, r3, K.out, errT]) rfl ?_
  rw [J.out]
  exact ⟨_, rfl, goBl, NewT.zero _ _⟩
def falseR (a : Tl) : Int × Int := if okT a.id a.hs a.st a.fo = true then (dist a.st a.fo, 0) else (0, 70)
theorem false_any (a : Tl) (sa fa : Option Addr) (sc fc : Nat) (w : World) (ht : Tab w) (hl : a.st.length ≤ 1000) (hl2 : a.fo.length ≤ 1000) (h1 : RdI w sa a.st) (h2 : RdI w fa a.fo) :
  Calls Tryz.prog 56 #[.agg #[.int .i64 a.id, .int .i64 a.hs, .slice sa a.st.length sc, .slice fa a.fo.length fc]] w
   fun e w' => e = .returned (.tuple #[.int .i64 (falseR a).1, .int .i64 (falseR a).2]) ∧ Below w.heap.size w w' := by
 have H1 := hid h1; have H2 := hid h2; clear h1 h2
 have HT := hid ht; clear ht
 go_enter Tryz.func56, Tryz.ntmps56
 go_wp2_with fail
 refine (check_any _ _ _ _ _ _ _ _ _ (HT.out.below goBl) (by omega) (by omega) (H1.out.below goBl) (H2.out.below goBl)).mono ?_
 rintro e w1 ⟨rfl, hb1⟩
 have b1 := (Box.new w #[.int .i64 a.id, .int .i64 a.hs, .slice sa a.st.length sc, .slice fa a.fo.length fc] 67).below hb1 (by simp)
 have c2 : w1.cell? ⟨w.heap.size, 2, none⟩ = some (.slice sa a.st.length sc) := b1.cell 2
 have c3 : w1.cell? ⟨w.heap.size, 3, none⟩ = some (.slice fa a.fo.length fc) := b1.cell 3
 have hbw : Below w.heap.size w w1 := goBl
 clear b1 hb1
 by_cases hok : okT a.id a.hs a.st a.fo = true
 ·have t1 : (errT (okT a.id a.hs a.st a.fo) != 0) = false := by rw [hok]; rfl
  have HK := hid hok; clear hok
  go_wp2_with fail
  refine (between_any a.st a.fo sa fa sc fc w1 (by omega) (by omega) (H1.out.below hbw) (H2.out.below hbw)).mono ?_
  rintro e w2 ⟨rfl, hb2⟩
  have hb := hbw.trans (hb2.mono hbw.size)
  clear t1 c2 c3 hbw hb2
  go_wp2_with fail
  refine bodyPost_ret (results_tmp2 rfl _ _ _) rfl ?_
  unfold falseR; rw [if_pos HK.out]
  exact ⟨rfl, hb⟩
 ·have t1 : (errT (okT a.id a.hs a.st a.fo) != 0) = true := by rw [Bool.not_eq_true] at hok; rw [hok]; rfl
  have t2 : errT (okT a.id a.hs a.st a.fo) = 70 := by rw [Bool.not_eq_true] at hok; rw [hok]; rfl
  have HK := hid hok; clear hok
  rw [t2] at t1 ⊢
  clear t2
  go_wp2_with fail
  refine bodyPost_ret (results_tmp2 rfl _ _ _) rfl ?_
  unfold falseR; rw [if_neg HK.out]
  exact ⟨rfl, hbw⟩
end Go.Proofs.YtihonljdanjfmaaGreatDoor
namespace Go.Proofs.YtihonljdanjfmaaGreatDoor.Sw
open Go.RowKit Go
theorem flat_cut {α : Type} {f : α → List AV} {n : Nat} {xs : List α} (h : ∀ x ∈ xs, (f x).length = n) {k : Nat} (hk : k < xs.length) : ((xs.flatMap f).drop (k * n)).take n = f xs[k] := by
 have hlen := h _ (List.getElem_mem hk)
 have hl := lenL h
 have hle : (k + 1) * n ≤ xs.length * n := Nat.mul_le_mul_right n hk
 rw [Nat.succ_mul] at hle
 apply List.ext_getElem?
 intro j
 by_cases hj : j < n
 ·rw [List.getElem?_take, if_pos hj, List.getElem?_drop]
  exact flat_get h k hk j hj
 ·rw [List.getElem?_eq_none (by rw [List.length_take]; omega), List.getElem?_eq_none (by omega)]
theorem flat_setN {α : Type} {f : α → List AV} {n : Nat} {x' : α} : ∀ {xs : List α}, (∀ x ∈ xs, (f x).length = n) → ∀ (k : Nat), k < xs.length → (f x').length = n → (xs.set k x').flatMap f = (xs.flatMap f).take (k * n) ++ f x' ++ (xs.flatMap f).drop (k * n + n)
 | x :: xs, h, 0, _, hl => by
  rw [List.set_cons_zero, List.flatMap_cons, List.flatMap_cons, Nat.zero_mul, Nat.zero_add, List.take_zero, List.nil_append, List.drop_append_of_le_length (by rw [h x (by simp)]; exact Nat.le_refl _), List.drop_of_length_le (by rw [h x (by simp)]; exact Nat.le_refl _), List.nil_append]
 | x :: xs, h, k + 1, hk, hl => by
  have hx := h x (by simp)
  have e1 : ∀ R : List AV, (f x ++ R).take (k * n + n) = f x ++ R.take (k * n) := fun R => by
   rw [List.take_append, List.take_of_length_le (by omega), hx, Nat.add_sub_cancel]
  have e2 : ∀ R : List AV, (f x ++ R).drop (k * n + n + n) = R.drop (k * n + n) := fun R => by
   rw [List.drop_append, List.drop_of_length_le (by omega), hx, Nat.add_sub_cancel, List.nil_append]
  rw [List.set_cons_succ, List.flatMap_cons, List.flatMap_cons, flat_setN (fun y hy => h y (by simp [hy])) k (by simpa using hk) hl, Nat.succ_mul, e1, e2]
  simp only [List.append_assoc]
 | [], _, _, hk, _ => absurd hk (Nat.not_lt_zero _)
theorem take_mid {α : Type} {l us : List α} {A L : Nat} (h : A + us.length ≤ L) (hL : L ≤ l.length) : (l.take A ++ us ++ l.drop (A + us.length)).take L = (l.take L).take A ++ us ++ (l.take L).drop (A + us.length) := by
 have hx : (l.take A ++ us).length = A + us.length := by rw [List.length_append, List.length_take]; omega
 rw [List.take_append, List.take_of_length_le (by omega), hx, List.take_take, Nat.min_eq_left (by omega), List.drop_take]
section
variable {P : Program} {rs : List (Nat × AV)} {hsR : List HA} {d : Option Nat} {ty : TypeId} {pos : String} {af : Array Edge} {g : Option (Nat × Bool)}
theorem lt_loadRN {α : Type} {x : Operand} {t e : TypeId} {n k : Nat} [hT : TyN P t n] {v : Value} {f : α → List AV} {xs : List α} (hx : opv rs x = some (.rat v n k 0)) (hk : k < xs.length) : LT P ⟨d, .load t x, ty, pos, af, g⟩ rs [.row v e n f xs] (Is (.agg (f xs[k])) [.row v e n f xs]) :=
 LT_read (fun _ e => by cases e) fun a w G F hR hG hrow => by
  obtain ⟨b', len, cap', ev, e1⟩ : (AV.rat v n k 0).P G (a.eval x) := opv_ok hR hx
  rcases row_val hrow with ⟨_, rfl⟩ | ⟨b, cap, cur, vs, ev', hnc, _, hb, hcs, hl, hf, htake, _⟩
  ·exact absurd hk (Nat.not_lt_zero _)
  ·rw [ev] at ev'
   simp only [Value.slice.injEq, Option.some.injEq, Addr.mk.injEq] at ev'
   obtain ⟨⟨rfl, _⟩, rfl, rfl⟩ := ev'
   have hfit := (Fits.cut n (Fits.cut (k * n) hf).1).2
   rw [flat_cut hl hk] at hfit
   refine ⟨.agg ((vs.drop (k * n)).take n).toArray, ⟨_, rfl, hfit⟩, ?_⟩
   have hlt : k * n + n ≤ xs.length * n := by
    calc k * n + n = (k + 1) * n := (Nat.succ_mul k n).symm
     _ ≤ xs.length * n := Nat.mul_le_mul_right n hk
   have hlen := hfit.length
   have hln := hl _ (List.getElem_mem hk)
   simp only [execOp, e1, Sem.run_bind]
   rw [Nat.add_zero, run_loadN (n := n) (vs := (vs.drop (k * n)).take n) (by rw [hlen, hln]) (fun j u ej => by
    rw [cell_of_row w b' _ _ _ _ hb]
    rw [List.getElem?_take] at ej
    split at ej
    ·rw [List.getElem?_drop, ← htake, List.getElem?_take, if_pos (by omega)] at ej
     simpa using ej
    ·cases ej)]
   rfl
theorem lt_storeRN {α : Type} {x y : Operand} {t e : TypeId} {n k : Nat} [hs : TySz P t n] {v : Value} {f : α → List AV} {xs : List α} {x' : α} [hO : OneF f] (hx : opv rs x = some (.rat v n k 0)) (hy : opv rs y = some (.agg (f x'))) (hk : k < xs.length) (hlx : (f x').length = n) :
  LT P ⟨d, .store t x y, ty, pos, af, g⟩ rs [.row v e n f xs] (Is (.val undef) [.row v e n f (xs.set k x')]) :=
 LT_eff (fun _ e => by cases e) fun a w G F hR hI => by
  obtain ⟨F1, F2, ep, hrow, h2⟩ := hI.hs
  have h2' : F2 = [] := h2
  subst h2'
  obtain ⟨b', len, cap', ev, e1⟩ : (AV.rat v n k 0).P G (a.eval x) := opv_ok hR hx
  rcases row_val hrow with ⟨_, rfl⟩ | ⟨b, cap, cur, vs, ev', hnc, hF1, hb, hcs, hl, hf, htake, hone, hcm⟩
  ·exact absurd hk (Nat.not_lt_zero _)
  ·rw [ev] at ev'
   simp only [Value.slice.injEq, Option.some.injEq, Addr.mk.injEq] at ev'
   obtain ⟨⟨rfl, _⟩, rfl, rfl⟩ := ev'
   subst hF1
   have hF : F = [b'] := List.perm_singleton.1 (by simpa using ep)
   subst hF
   obtain ⟨us, hue, huf⟩ : (AV.agg (f x')).P G (a.eval y) := opv_ok hR hy
   have hul : us.length = n := huf.length.trans hlx
   have huo : ∀ q ∈ us, q.oneCell' = true := fits_one (hO.out x') huf
   have hg := (hI.own b' (by simp)).2
   have hlt : k * n + n ≤ xs.length * n := by
    calc k * n + n = (k + 1) * n := (Nat.succ_mul k n).symm
     _ ≤ xs.length * n := Nat.mul_le_mul_right n hk
   have hlc : xs.length * n ≤ cap' * n := Nat.mul_le_mul_right n hnc
   have hcl : cur.toList.length = cap' * n := by simpa using hcs
   let cur' : Array Value := (cur.toList.take (k * n) ++ us ++ cur.toList.drop (k * n + us.length)).toArray
   obtain ⟨f1, f2⟩ := fr_setRow hI.gin hg cur'
   have hvl : vs.length = xs.length * n := by rw [hf.length, lenL hl]
   have hl' : ∀ y ∈ xs.set k x', (f y).length = n := fun y hy => by
    rcases List.mem_or_eq_of_mem_set hy with h | rfl
    ·exact hl y h
    ·exact hlx
   refine ⟨_, w.setRow b' cur', undef, _, _, G, [b'], ?_, .inr ⟨rfl, rfl⟩, ⟨rfl, rfl⟩, f1, ⟨f2, by simp, fun q hq => ?_, [b'], [], by simp, ⟨vs.take (k * n) ++ us ++ vs.drop (k * n + us.length), by rw [ev]; rfl, hl', ?_, ?_, ?_⟩, rfl⟩, rfl⟩
   ·have hst := run_storeCells_at P b' (k * n) e us 0 cur w hb (by rw [Nat.add_zero, hul, hcs]; omega) huo
    simp only [Nat.add_zero] at hst
    have hc : us.toArray.size = n := by simpa using hul
    simp only [execOp, e1, Instr.storeAt, Instr.sureAddr, storeVar, Sem.run_bind, Sem.run_pure, Result.andThen_ok, hue, Value.cells, hs.size w, Nat.add_zero]
    simp [hc, hst, cur']
   ·rw [List.mem_singleton] at hq; subst hq; simp only [setRow_size]; exact hI.own _ (by simp)
   ·rw [flat_setN hl k hk hlx, hul]
    exact ((hf.take (k * n)).append huf).append (hf.drop _)
   ·intro q hq
    rcases List.mem_append.1 hq with hq | hq
    ·rcases List.mem_append.1 hq with hq | hq
     ·exact hone q (List.mem_of_mem_take hq)
     ·exact huo q hq
    ·exact hone q (List.mem_of_mem_drop hq)
   ·rw [ev]
    have hsz : (vs.take (k * n) ++ us ++ vs.drop (k * n + us.length)).length = xs.length * n := by
     simp only [List.length_append, List.length_take, List.length_drop]; omega
    refine ⟨by rw [hsz, List.length_set], .inr ⟨b', cap', cur', by rw [List.length_set], Nat.zero_le _, setRow_heap w b' _ _ e _ hb, by rw [List.length_set]; exact hnc, hcm, ?_, ?_⟩⟩
    ·simp only [cur', List.size_toArray, List.length_append, List.length_take, List.length_drop]; omega
    ·rw [List.length_set]
     simp only [cur']
     rw [← htake]
     exact take_mid (by rw [hul]; omega) (by omega)
theorem lt_fieldRat {x : Operand} {t : TypeId} {fd off : Nat} [h : TyF P t fd off] {v : Value} {n k j j' : Nat} (hx : opv rs x = some (.rat v n k j)) (hj : j + off = j') : LT P ⟨d, .fieldAddr t x fd, ty, pos, af, g⟩ rs [] (Is (.rat v n k j') []) :=
 LT_val (fun _ e => by cases e) fun a w G hR hG => by
  obtain ⟨b, len, cap, ev, e1⟩ : (AV.rat v n k j).P G (a.eval x) := opv_ok hR hx
  refine ⟨.pointer (some ⟨b, k * n + j', none⟩), ⟨b, len, cap, ev, rfl⟩, ?_⟩
  simp only [execOp, e1, Sem.run_bind]
  rw [h.run, add_plain, Nat.add_assoc, hj]
  rfl
theorem ltr_loadRN {α : Type} {x : Operand} {t e : TypeId} {n kk : Nat} [TyN P t n] {v : Value} {f : α → List AV} {xs : List α} {h : HA → List HA} (hx : opv rs x = some (.rat v n kk 0)) (hat : At hsR (.row v e n f xs) h) {y : α} (hk : xs[kk]? = some y) : LTr P ⟨d, .load t x, ty, pos, af, g⟩ rs hsR [] (Is (.agg (f y)) []) := by
 obtain ⟨hl, rfl⟩ := List.getElem?_eq_some_iff.1 hk
 exact ltr_rd (lt_loadRN hx hl) hat
end
section
variable {c : Cx} {rs : List (Nat × AV)} {hs : List HA} {Q : Exit → S → Prop} {ops : Array Oper} {tl : List Oper} {d : Nat} {ty : TypeId} {pos : String} {af : Array Edge}
theorem wl_fieldRat {x : Operand} {t : TypeId} {fd off : Nat} [TyF c.P t fd off] {v : Value} {n kk j j' : Nat} (hx : opv rs x = some (.rat v n kk j)) (hj : j + off = j') (hd : Nat.blt d c.nt = true) (k : WL c ops tl ⟨(d, .rat v n kk j') :: rs, hs⟩ Q) : WL c ops (⟨some d, .fieldAddr t x fd, ty, pos, af, none⟩ :: tl) ⟨rs, hs⟩ Q := wl_ex (lt_fieldRat hx hj) hd k
end
def gall (G : Nat → Option Obj) (F : List Nat) (w : World) : Nat → Option Obj := fun b => if b ∈ F then w.heap[b]? else G b
theorem gall_le {G : Nat → Option Obj} {F : List Nat} {w : World} (h : ∀ b ∈ F, G b = none) : Gle G (gall G F w) := fun b o e => by
 unfold gall
 rw [if_neg (fun hb => by rw [h b hb] at e; cases e)]; exact e
theorem gall_in {G : Nat → Option Obj} {F : List Nat} {w : World} (h : Gin G w) : Gin (gall G F w) w := fun b o e => by
 unfold gall at e
 split at e
 ·exact e
 ·exact h b o e
theorem row_view {α β : Type} {G : Nat → Option Obj} {F F1 : List Nat} {w : World} {v : Value} {e : TypeId} {n : Nat} {f : α → List AV} {f' : β → List AV} {xs : List α} {ys : List β} (h : (HA.row v e n f xs).P G F1 w) (hsub : ∀ b ∈ F1, b ∈ F) (hlen : ys.length = xs.length)
  (hv : ∀ i (h1 : i < xs.length) (h2 : i < ys.length) (j : Nat) (av' : AV), (f' ys[i])[j]? = some av' → ∃ av : AV, (f xs[i])[j]? = some av ∧ ∀ u, av.P G u → av'.P (gall G F w) u) : (AV.sl n f' ys).P (gall G F w) v := by
 rcases row_val h with ⟨rfl, rfl⟩ | ⟨b, cap, cur, vs, rfl, hnc, hF1, hb, hcs, hl, hf, htake, _⟩
 ·exact ⟨none, 0, by rw [hlen]; rfl, by rw [hlen]; exact Nat.le_refl _, fun i hi => by rw [hlen] at hi; exact absurd hi (Nat.not_lt_zero _)⟩
 ·refine ⟨some ⟨b, 0, none⟩, cap, by rw [hlen], by rw [hlen]; exact hnc, fun i hi => ⟨b, 0, rfl, fun j av' ej => ?_⟩⟩
  have hi' : i < xs.length := by omega
  obtain ⟨av, e1, e2⟩ := hv i hi' hi j av' ej
  have hjn : j < n := by
   have := (List.getElem?_eq_some_iff.1 e1).1
   rwa [hl _ (List.getElem_mem hi')] at this
  obtain ⟨u, hu, hp⟩ := hf.get (i := i * n + j) (av := av) (by rw [flat_get hl i hi' j hjn]; exact e1)
  refine ⟨u, ?_, e2 u hp⟩
  have hlt : i * n + j < xs.length * n := by
   calc i * n + j < i * n + n := by omega
    _ = (i + 1) * n := (Nat.succ_mul i n).symm
    _ ≤ xs.length * n := Nat.mul_le_mul_right n hi'
  have hbF : b ∈ F := hsub b (by rw [hF1]; simp)
  unfold cellG gall
  rw [if_pos hbF, hb]
  simp only [Nat.zero_add]
  rw [← htake, List.getElem?_take, if_pos hlt] at hu
  simpa using hu
theorem row_view1 {α : Type} {G : Nat → Option Obj} {F F1 : List Nat} {w : World} {v : Value} {e : TypeId} {n : Nat} {f : α → List AV} {xs : List α} (h : (HA.row v e n f xs).P G F1 w) (hsub : ∀ b ∈ F1, b ∈ F) (hle : Gle G (gall G F w)) : (AV.sl n f xs).P (gall G F w) v :=
 row_view h hsub rfl fun i h1 h2 j av' ej => ⟨av', ej, fun u hu => av'.mono hle hu⟩
structure Thaw (h : HA) (av av' : AV) : Prop where
 out : ∀ (G : Nat → Option Obj) (F : List Nat) (w : World), h.P G F w → Gle G (gall G F w) → ∀ v, av.P G v → av'.P (gall G F w) v
structure Pers (hs : List HA) : Prop where
 out : ∀ G F w, hsP hs G F w → F = []
theorem Pers.nil : Pers [] := ⟨fun _ _ _ h => h⟩
theorem Pers.cons {h : HA} {t : List HA} (h1 : ∀ G F w, h.P G F w → F = []) (k : Pers t) : Pers (h :: t) := ⟨fun G F w ⟨F1, F2, e, a, b⟩ => by
 have := h1 _ _ _ a; have := k.out _ _ _ b; subst_vars; simpa using e⟩
theorem Pers.glob {g : Nat} {cs : List AV} {t : List HA} (k : Pers t) : Pers (.glob g cs :: t) := .cons (fun _ _ _ h => h.1) k
theorem lt_borrow {P : Program} {o : Oper} {rs : List (Nat × AV)} {h : HA} {pers : List HA} {i : Nat} {av av' : AV} {cv : Value} (hl : look rs i = some av) (ht : Thaw h av av') (hp : Pers pers) (k : LT P o ((i, av') :: rs) pers (Is (.val cv) pers)) : LT P o rs (h :: pers) (Is (.val cv) (h :: pers)) := by
 refine ⟨?_⟩
 intro F n hF a w G Fp K Q hR hI hk
 obtain ⟨F1, F2, ep, hh, hps⟩ := hI.hs
 have h2 := hp.out _ _ _ hps
 subst h2
 rw [List.append_nil] at ep
 have hm : ∀ b, b ∈ F1 ↔ b ∈ Fp := fun b => ep.mem_iff.symm
 have hle : Gle G (gall G F1 w) := gall_le fun b hb => (hI.own b ((hm b).1 hb)).2
 have hle3 : ∀ {G2}, Gle (gall G F1 w) G2 → Gle G (fun b => if b ∈ F1 then none else G2 b) := fun {G2} h2 b o e => by
  have hb : b ∉ F1 := fun hb => by rw [(hI.own b ((hm b).1 hb)).2] at e; cases e
  show (if b ∈ F1 then none else G2 b) = some o
  rw [if_neg hb]; exact h2 b o (hle b o e)
 refine k.go F n hF a w (gall G F1 w) [] K Q (fun j u e => ?_) ⟨gall_in hI.gin, List.nodup_nil, fun _ hb => (by cases hb), hps.mono hle⟩ fun v x prod G2 F2' w' ⟨e1, e2⟩ hfr hi hv => ?_
 ·simp only [look] at e
  cases hb : Nat.beq i j with
  | true =>
   rw [hb] at e
   obtain rfl := Nat.eq_of_beq_eq_true hb
   simp only [cond_true, Option.some.injEq] at e
   subst e
   exact ht.out G F1 w hh hle _ (hR _ _ hl)
  | false => rw [hb] at e; exact AV.mono _ hle (hR j u (by simpa using e))
 ·subst e1 e2
  have hF2 := hp.out _ _ _ hi.hs
  subst hF2
  have hsame : ∀ b ∈ F1, w'.heap[b]? = w.heap[b]? := fun b hb => by
   have hlt := (hI.own b ((hm b).1 hb)).1
   have : gall G F1 w b = some w.heap[b] := by unfold gall; rw [if_pos hb, Array.getElem?_eq_getElem hlt]
   rw [hi.gin b _ (hfr.gle b _ this), Array.getElem?_eq_getElem hlt]
  refine hk v _ _ (fun b => if b ∈ F1 then none else G2 b) Fp w' ⟨rfl, rfl⟩ ⟨hfr.os, hfr.tape, hfr.output, hfr.size, fun b hb _ => hfr.same b hb (by simp), fun b hb => .inl hb, hle3 hfr.gle, fun b o e => ?_⟩ ⟨fun b o e => ?_, hI.nd, fun b hb => ⟨Nat.lt_of_lt_of_le (hI.own b hb).1 hfr.size, if_pos ((hm b).2 hb)⟩, F1, [], by rw [List.append_nil]; exact ep, HA.mono _ (hle3 hfr.gle) (HA.loc _ hsame hh), (hps.mono (hle3 hfr.gle)).loc fun b hb => (by cases hb)⟩ hv
  ·split at e
   ·cases e
   ·rename_i hb
    rcases hfr.newG b o e with h | h | h
    ·unfold gall at h; rw [if_neg hb] at h; exact .inl h
    ·cases h
    ·exact .inr (.inr h)
  ·split at e
   ·cases e
   ·exact hi.gin b o e
theorem wl_borrow {c : Cx} {rs : List (Nat × AV)} {hs pers r : List HA} {Q : Exit → S → Prop} {ops : Array Oper} {tl : List Oper} {d : Nat} {ty : TypeId} {pos : String} {af : Array Edge} {k : FuncId} {xs : List Operand} {ts : Array TypeId} {avs : List AV} {h : HA} {av av' : AV} {cv : Value} (i : Nat) (ht : Thaw h av av') (hc : Con c.P k avs pers (Is (.val cv) pers)) (hl : look rs i = some av) (hx : opvs ((i, av') :: rs) xs = some avs) (hcut : Cut hs (h :: pers) r) (hp : Pers pers) (hd : Nat.blt d c.nt = true) (kk : WL c ops tl ⟨(d, .val cv) :: rs, h :: (pers ++ r)⟩ Q) : WL c ops (⟨some d, .call { callee := .value (.func k), args := xs.toArray, argTypes := ts }, ty, pos, af, none⟩ :: tl) ⟨rs, hs⟩ Q :=
 WL_lt (cons := h :: pers) (rest := r) hd rfl (fun _ _ _ hh => hcut.sel hh) (lt_borrow hl ht hp (lt_call hx hc)) fun av pr ⟨e1, e2⟩ => by subst e1; subst e2; exact kk
def HA.fact (p : Prop) : HA := ⟨fun _ F _ => F = [] ∧ p, fun _ h => h, fun _ h => h⟩
theorem hsP.fact {p : Prop} {t : List HA} {G : Nat → Option Obj} {F : List Nat} {w : World} : hsP (.fact p :: t) G F w ↔ p ∧ hsP t G F w :=
 ⟨fun ⟨_, _, e, ⟨e1, h⟩, k⟩ => by subst e1; exact ⟨h, k.perm (by simpa using e)⟩, fun ⟨h, k⟩ => ⟨[], F, .refl _, ⟨rfl, h⟩, k⟩⟩
theorem WL_exs {c : Cx} {rs : List (Nat × AV)} {hs r : List HA} {Q : Exit → S → Prop} {ops : Array Oper} {l : List Oper} {σ : Type} {h : σ → List HA} (hr : Rm hs (.exs h) r) (k : ∀ s, WL c ops l ⟨rs, h s ++ r⟩ Q) : WL c ops l ⟨rs, hs⟩ Q := ⟨fun a w st => by
 obtain ⟨G, F, hI, rr⟩ := st
 obtain ⟨F1, F2, e, ⟨s, h1⟩, h2⟩ := hr.sel hI.hs
 exact (k s).out a w ⟨G, F, ⟨hI.gin, hI.nd, hI.own, (hsP.append h1 h2).perm e⟩, rr⟩⟩
section
variable {P : Program} {rs : List (Nat × AV)} {d : Option Nat} {ty : TypeId} {pos : String} {af : Array Edge} {g : Option (Nat × Bool)}
theorem lt_eqlNil {α : Type} {x : Operand} {t t' e : TypeId} {n m : Nat} (hT : TyS P t e m) {f : α → List AV} {xs : List α} (hx : opv rs x = some (.sl n f xs)) : LT P ⟨d, .binOp .eql t x (.const (.slice none 0 0)) t', ty, pos, af, g⟩ rs [] (fun av y => ∃ b : Bool, av = .val (.bool b) ∧ y = [] ∧ (b = true → xs = [])) :=
 LT_eff (fun _ e => by cases e) fun a w G F hR hI => by
  obtain ⟨p, cap, e1, hc, hs⟩ : (AV.sl n f xs).P G (a.eval x) := opv_ok hR hx
  refine ⟨.value (.bool p.isNone), w, .bool p.isNone, _, [], G, F, ?_, .inl rfl, ⟨p.isNone, rfl, rfl, fun hb => ?_⟩, Fr.refl _ _ _, hI, rfl⟩
  ·simp only [execOp, e1]
   have h1 : (eqGuard .eql t x (.const (.slice none 0 0)) (.slice p xs.length cap) (a.eval (.const (.slice none 0 0)))).run P w = .ok () w := by simp [eqGuard, Act.eval, go_sem]
   have h2 : (binOp .eql t (.slice p xs.length cap) (a.eval (.const (.slice none 0 0)))).run P w = .ok (.bool p.isNone) w := run_eql_slice_nil w t e p _ _ hT.und
   simp only [Sem.run_bind, h1, h2, Result.andThen_ok]
   rfl
  ·cases xs with
   | nil => rfl
   | cons y ys =>
    obtain ⟨b, o, e2, _⟩ := hs 0 (by simp)
    rw [e2] at hb; cases hb
end
section
variable {c : Cx} {rs : List (Nat × AV)} {hs : List HA} {Q : Exit → S → Prop} {ops : Array Oper} {tl : List Oper} {d : Nat} {ty : TypeId} {pos : String} {af : Array Edge}
theorem wl_eqlNil {α : Type} {x : Operand} {t t' e : TypeId} {n m : Nat} {f : α → List AV} {xs : List α} (hx : opv rs x = some (.sl n f xs)) (hT : TyS c.P t e m) (hd : Nat.blt d c.nt = true) (k : ∀ b : Bool, (b = true → xs = []) → WL c ops tl ⟨(d, .val (.bool b)) :: rs, hs⟩ Q) : WL c ops (⟨some d, .binOp .eql t x (.const (.slice none 0 0)) t', ty, pos, af, none⟩ :: tl) ⟨rs, hs⟩ Q :=
 WL_lt (cons := []) (rest := hs) hd rfl (fun _ _ _ h => h) (lt_eqlNil hT hx) fun av pr ⟨b, e1, e2, hb⟩ => by subst e1; subst e2; exact k b hb
end
theorem HA.ext' {a b : HA} (h : a.P = b.P) : a = b := by
 cases a; cases b; cases h; rfl
theorem row_map {α β : Type} {v : Value} {e : TypeId} {n : Nat} {f : β → List AV} {g : α → β} {xs : List α} : HA.row v e n f (xs.map g) = HA.row v e n (fun x => f (g x)) xs := by
 refine HA.ext' ?_
 funext G F w
 simp only [HA.row, List.length_map, List.flatMap_map, List.forall_mem_map]
theorem resKN {P : Program} {fn : Func} {x : Tmp} {t tb : TypeId} {n : Nat} {post : AV → List HA → Prop} {rs : List (Nat × AV)} {hs kept r : List HA} {p : Value} {cs : List AV} {f : HA → List HA} (hr : fn.results = #[.cell x t]) (hx : look rs x = some (.val p)) (hat : At hs (.box p cs tb) f) (hT : TyN P t n) (hn : cs.length = n) (hp : post (.agg cs) kept) (hcut : Cut hs kept r) : Res P fn post ⟨rs, hs⟩ := by
 refine ⟨_, kept, hp, fun a w G F hR hI => ?_⟩
 obtain ⟨rest, hs'⟩ := hat.sel
 obtain ⟨F1, F2, e, ⟨b, vs, hpb, hF1, hf, hb⟩, h2⟩ := (hs' _ _ _ _).1 (by rw [hat.self]; exact hI.hs)
 obtain ⟨F3, h1, h2⟩ := inv_keep (rest := r) ⟨hI.gin, hI.nd, hI.own, hcut.sel hI.hs⟩
 refine ⟨.agg vs.toArray, G, F3, ?_, h2, h1, ⟨vs, rfl, hf⟩⟩
 have hxv : a.tmps.getD x undef = p := hR _ _ hx
 rw [Array.getD_eq_getD_getElem?] at hxv
 have h1 := run_loadN (P := P) (t := t) (n := n) (w := w) (b := b) (j := 0) (vs := vs) (by rw [hf.length, hn]) (fun k u e => by rw [cell_of_row w b _ _ _ _ hb]; simpa using e)
 simp only [Instr.loadAt, Instr.sureAddr, Sem.run_bind, Sem.run_pure, Result.andThen_ok] at h1
 simp [results, hr, hxv, hpb, asAddr, h1]
theorem resKN1 {P : Program} {fn : Func} {x u : Tmp} {t tb : TypeId} {n : Nat} {post : AV → List HA → Prop} {rs : List (Nat × AV)} {hs kept r : List HA} {p : Value} {cs : List AV} {bv : AV} {f : HA → List HA} (hr : fn.results = #[.cell x t, .tmp u]) (hx : look rs x = some (.val p)) (hat : At hs (.box p cs tb) f) (hT : TyN P t n) (hn : cs.length = n) (hl2 : look rs u = some bv) (hp : post (.tup [.agg cs, bv]) kept) (hcut : Cut hs kept r) : Res P fn post ⟨rs, hs⟩ := by
 refine ⟨_, kept, hp, fun a w G F hR hI => ?_⟩
 obtain ⟨rest, hs'⟩ := hat.sel
 obtain ⟨F1, F2, e, ⟨b, vs, hpb, hF1, hf, hb⟩, h2⟩ := (hs' _ _ _ _).1 (by rw [hat.self]; exact hI.hs)
 obtain ⟨F3, h1, h2⟩ := inv_keep (rest := r) ⟨hI.gin, hI.nd, hI.own, hcut.sel hI.hs⟩
 refine ⟨.tuple #[.agg vs.toArray, a.tmps.getD u undef], G, F3, ?_, h2, h1, ⟨[.agg vs.toArray, _], rfl, ⟨vs, rfl, hf⟩, hR _ _ hl2, trivial⟩⟩
 have hxv : a.tmps.getD x undef = p := hR _ _ hx
 rw [Array.getD_eq_getD_getElem?] at hxv
 have h1 := run_loadN (P := P) (t := t) (n := n) (w := w) (b := b) (j := 0) (vs := vs) (by rw [hf.length, hn]) (fun k u e => by rw [cell_of_row w b _ _ _ _ hb]; simpa using e)
 simp only [Instr.loadAt, Instr.sureAddr, Sem.run_bind, Sem.run_pure, Result.andThen_ok] at h1
 simp [results, hr, hxv, hpb, asAddr, h1]
theorem Res_row0 {α : Type} {P : Program} {fn : Func} {post : AV → List HA → Prop} {rs : List (Nat × AV)} {hs : List HA} (e : TypeId) (n : Nat) (f : α → List AV) (k : Res P fn post ⟨rs, .row (.slice none 0 0) e n f [] :: hs⟩) : Res P fn post ⟨rs, hs⟩ := by
 obtain ⟨av, prod, hp, h⟩ := k
 exact ⟨av, prod, hp, fun a w G F hR hI => h a w G F hR ⟨hI.gin, hI.nd, hI.own, [], F, .refl _, ⟨[], rfl, fun _ h => (by cases h), trivial, fun _ h => (by cases h), ⟨by simp, .inl ⟨rfl, rfl⟩⟩⟩, hI.hs⟩⟩
theorem st_pack0 {c : Cx} {rs : List (Nat × AV)} {hs : List HA} {a : Act} {w : World} (st : St c ⟨rs, hs⟩ a w) : St c ⟨rs, .pack [] :: hs⟩ a w := by
 obtain ⟨G, F, hI, r⟩ := st
 exact ⟨G, F, ⟨hI.gin, hI.nd, hI.own, [], F, .refl _, rfl, hI.hs⟩, r⟩
theorem st_snoc {c : Cx} {rs : List (Nat × AV)} {hs r r' l : List HA} {h : HA} {a : Act} {w : World} (hr : Rm hs (.pack l) r) (hr2 : Rm r h r') (st : St c ⟨rs, hs⟩ a w) : St c ⟨rs, .pack (l ++ [h]) :: r'⟩ a w := by
 obtain ⟨G, F, hI, rr⟩ := st
 refine ⟨G, F, ⟨hI.gin, hI.nd, hI.own, ?_⟩, rr⟩
 obtain ⟨A, B, e, hA, hB⟩ := hr.sel hI.hs
 obtain ⟨C, D, e2, hC, hD⟩ := hr2.sel hB
 exact ⟨A ++ C, D, e.trans ((e2.append_left A).trans (by rw [List.append_assoc])), hsP.append hA (show hsP [h] G C w from ⟨C, [], by simp, hC, rfl⟩), hD⟩
theorem WL_snoc {c : Cx} {rs : List (Nat × AV)} {hs r r' l : List HA} {h : HA} {Q : Exit → S → Prop} {ops : Array Oper} {tl : List Oper} (hr : Rm hs (.pack l) r) (hr2 : Rm r h r') (k : WL c ops tl ⟨rs, .pack (l ++ [h]) :: r'⟩ Q) : WL c ops tl ⟨rs, hs⟩ Q := ⟨fun a w st => k.out a w (st_snoc hr hr2 st)⟩
theorem st_exs {c : Cx} {rs : List (Nat × AV)} {hs r : List HA} {σ : Type} {h : σ → List HA} (s : σ) {a : Act} {w : World} (hc : Cut hs (h s) r) (st : St c ⟨rs, hs⟩ a w) : St c ⟨rs, .exs h :: r⟩ a w := by
 obtain ⟨G, F, hI, rr⟩ := st
 refine ⟨G, F, ⟨hI.gin, hI.nd, hI.own, ?_⟩, rr⟩
 obtain ⟨A, B, e, hA, hB⟩ := hsP.split (hc.sel hI.hs)
 exact ⟨A, B, e, ⟨s, hA⟩, hB⟩
theorem W_mkExs {c : Cx} {rs : List (Nat × AV)} {hs r : List HA} {Q : Exit → S → Prop} {x : Code} {σ : Type} {h : σ → List HA} (s : σ) (hc : Cut hs (h s) r) (k : W c x ⟨rs, .exs h :: r⟩ Q) : W c x ⟨rs, hs⟩ Q := ⟨fun a w st => k.out a w (st_exs s hc st)⟩
theorem WL_mkExs {c : Cx} {rs : List (Nat × AV)} {hs r : List HA} {Q : Exit → S → Prop} {ops : Array Oper} {tl : List Oper} {σ : Type} {h : σ → List HA} (s : σ) (hc : Cut hs (h s) r) (k : WL c ops tl ⟨rs, .exs h :: r⟩ Q) : WL c ops tl ⟨rs, hs⟩ Q := ⟨fun a w st => k.out a w (st_exs s hc st)⟩
theorem st_fact {c : Cx} {rs : List (Nat × AV)} {hs : List HA} {p : Prop} (hp : p) {a : Act} {w : World} (st : St c ⟨rs, hs⟩ a w) : St c ⟨rs, .fact p :: hs⟩ a w := by
 obtain ⟨G, F, hI, rr⟩ := st
 exact ⟨G, F, ⟨hI.gin, hI.nd, hI.own, hsP.fact.2 ⟨hp, hI.hs⟩⟩, rr⟩
theorem W_mkFact {c : Cx} {rs : List (Nat × AV)} {hs : List HA} {Q : Exit → S → Prop} {x : Code} {p : Prop} (hp : p) (k : W c x ⟨rs, .fact p :: hs⟩ Q) : W c x ⟨rs, hs⟩ Q := ⟨fun a w st => k.out a w (st_fact hp st)⟩
theorem WL_mkFact {c : Cx} {rs : List (Nat × AV)} {hs : List HA} {Q : Exit → S → Prop} {ops : Array Oper} {tl : List Oper} {p : Prop} (hp : p) (k : WL c ops tl ⟨rs, .fact p :: hs⟩ Q) : WL c ops tl ⟨rs, hs⟩ Q := ⟨fun a w st => k.out a w (st_fact hp st)⟩
theorem wl_storeRx {α : Type} {c : Cx} {rs : List (Nat × AV)} {hs : List HA} {Q : Exit → S → Prop} {ops : Array Oper} {tl : List Oper} {ty : TypeId} {pos : String} {af : Array Edge} {x y : Operand} {t e : TypeId} {n kk j : Nat} {v : Value} {f : α → List AV} {xs : List α} {av : AV} (x' : α) {g : HA → List HA} (hx : opv rs x = some (.rat v n kk j)) (hat : At hs (.row v e n f xs) g) (hy : opv rs y = some av) (hS : TySz c.P t 1) (ho : One av) (hk : kk < xs.length) (hj : j < n) (hf' : f x' = (f xs[kk]).set j av) (k : WL c ops tl ⟨rs, g (.row v e n f (xs.set kk x'))⟩ Q) : WL c ops (⟨none, .store t x y, ty, pos, af, none⟩ :: tl) ⟨rs, hs⟩ Q := wl_at0 (lt_storeR1 hx hy hk hj hf') hat k
theorem wl_storeRNx {α : Type} {c : Cx} {rs : List (Nat × AV)} {hs : List HA} {Q : Exit → S → Prop} {ops : Array Oper} {tl : List Oper} {ty : TypeId} {pos : String} {af : Array Edge} {x y : Operand} {t e : TypeId} {n kk : Nat} {v : Value} {f : α → List AV} {xs : List α} (x' : α) {g : HA → List HA} (hx : opv rs x = some (.rat v n kk 0)) (hat : At hs (.row v e n f xs) g) (hy : opv rs y = some (.agg (f x'))) (hS : TySz c.P t n) (hO : OneF f) (hk : kk < xs.length) (hl : (f x').length = n) (k : WL c ops tl ⟨rs, g (.row v e n f (xs.set kk x'))⟩ Q) : WL c ops (⟨none, .store t x y, ty, pos, af, none⟩ :: tl) ⟨rs, hs⟩ Q := wl_at0 (lt_storeRN hx hy hk hl) hat k
theorem thaw_freeze {G : Nat → Option Obj} {F : List Nat} {w : World} {h : HA} {rest : List HA} {av av' : AV} {v : Value} (ht : Thaw h av av') (hI : Inv G F (h :: rest) w) (hv : av.P G v) : ∃ G' F', Inv G' F' rest w ∧ Fr w w F F' G G' ∧ av'.P G' v := by
 obtain ⟨F1, F2, ep, h1, h2⟩ := hI.hs
 have nd := ep.nodup_iff.1 hI.nd
 have hm1 : ∀ b, b ∈ F1 → b ∈ F := fun b hb => ep.mem_iff.2 (by simp [hb])
 have hm2 : ∀ b, b ∈ F2 → b ∈ F := fun b hb => ep.mem_iff.2 (by simp [hb])
 have hle : Gle G (gall G F1 w) := gall_le fun b hb => (hI.own b (hm1 b hb)).2
 refine ⟨gall G F1 w, F2, ⟨gall_in hI.gin, (List.nodup_append.1 nd).2.1, fun b hb => ⟨(hI.own b (hm2 b hb)).1, ?_⟩, hsP.mono hle h2⟩, ⟨rfl, rfl, rfl, Nat.le_refl _, fun _ _ _ => rfl, fun b hb => .inl (hm2 b hb), hle, fun b o eb => ?_⟩, ht.out G F1 w h1 hle v hv⟩
 ·unfold gall
  rw [if_neg fun hin => (List.nodup_append.1 nd).2.2 b hin b hb rfl]
  exact (hI.own b (hm2 b hb)).2
 ·unfold gall at eb
  split at eb
  ·rename_i hb; exact .inr (.inl (hm1 b hb))
  ·exact .inl eb
theorem thaw_tup {h : HA} {av av' x : AV} (k : Thaw h av av') : Thaw h (.tup [av, x]) (.tup [av', x]) := ⟨fun G F w hh hle v hv => by
 obtain ⟨us, e, hf⟩ := hv
 match us, hf with
 | [a, b], ⟨ha, hb, _⟩ => exact ⟨[a, b], e, k.out G F w hh hle a ha, x.mono hle hb, trivial⟩⟩
theorem Con.frz {α : Type} {P : Program} {k : FuncId} {args : List AV} {pre rest : List HA} {post : AV → List HA → Prop} {a : α → AV} {h : α → HA} {av' : AV} (hc : Con P k args pre post) (hp : ∀ x y, post x y → ∃ i, x = a i ∧ y = h i :: rest) (ht : ∀ i, Thaw (h i) (a i) av') : Con P k args pre (Is av' rest) :=
 ⟨hc.enters, fun G Fp vs w hf hI => (hc.calls G Fp vs w hf hI).mono fun e w' ⟨v, av, prod, G', F', he, hq, hfr, hi, hv⟩ => by
  obtain ⟨i, rfl, rfl⟩ := hp _ _ hq
  obtain ⟨G2, F2, h1, h2, h3⟩ := thaw_freeze (ht i) hi hv
  exact ⟨v, av', rest, G2, F2, he, ⟨rfl, rfl⟩, hfr.trans h2, h1, h3⟩⟩
section
variable {P : Program} {rs : List (Nat × AV)} {d : Option Nat} {ty : TypeId} {pos : String} {af : Array Edge} {g : Option (Nat × Bool)}
theorem lt_rem {x y : Operand} {m n : Int} {t t' : TypeId} (hx : opv rs x = some (.val (.int .i64 m))) (hy : opv rs y = some (.val (.int .i64 n))) (h0 : 0 < n) (h1 : 0 ≤ m) (h2 : m ≤ 9223372036854775807) :
  LT P ⟨d, .binOp .rem t x y t', ty, pos, af, g⟩ rs [] (Is (.val (.int .i64 (m % n))) []) :=
 LT_val (fun _ e => by cases e) fun a w G hR _ => ⟨_, rfl, by
  have e1 : a.eval x = _ := opv_ok hR hx
  have e2 : a.eval y = _ := opv_ok hR hy
  have hq : m.tmod n = m % n := Int.tmod_eq_emod_of_nonneg h1
  have hr1 : 0 ≤ m % n := Int.emod_nonneg m (by omega)
  have hr2 : m % n < n := Int.emod_lt_of_pos m h0
  have hr3 : m % n ≤ m := by
   have e := Int.emod_add_mul_ediv m n
   have p := Int.mul_nonneg (show 0 ≤ n by omega) (Int.ediv_nonneg h1 (show 0 ≤ n by omega))
   generalize n * (m / n) = q at e p
   omega
  have hz : n ≠ 0 := by omega
  simp only [execOp, e1, e2]
  simp [go_sem, hz, hq, IntWalk.i64_in (m % n) (by omega)]⟩
theorem run_conv8 {s t : TypeId} (hs : P.underlying s = some (.int .u8)) (ht : P.underlying t = some (.int .i64)) {n : Int} (h : 0 ≤ n ∧ n ≤ 255) (w : World) : (convert s t (.int .u8 n)).run P w = .ok (.int .i64 n) w := by
 simp [convert, run_underlying hs, run_underlying ht, Conv.intToInt, IntWalk.i64_in n (by omega)]
end
def tlOwn (s1 s2 : Value) (t : Tl) : HA := .pack [.row s1 3 1 iC t.st, .row s2 3 1 iC t.fo]
theorem tl_thaw (s1 s2 : Value) (t : Tl) : Thaw (tlOwn s1 s2 t) (.agg [.val (.int .i64 t.id), .val (.int .i64 t.hs), .val s1, .val s2]) (.agg (tC t)) := ⟨fun G F w h hle v hv => by
 obtain ⟨A1, R1, e1, a1, A2, R2, e2, a2, hn⟩ := h
 have hR2 : R2 = [] := hn
 subst hR2
 have m1 : ∀ b ∈ A1, b ∈ F := fun b hb => e1.mem_iff.2 (by simp [hb])
 have m2 : ∀ b ∈ A2, b ∈ F := fun b hb => e1.mem_iff.2 (List.mem_append.2 (.inr (e2.mem_iff.2 (by simp [hb]))))
 obtain ⟨vs, rfl, hf⟩ := hv
 match vs, hf with
 | [x0, x1, x2, x3], ⟨h0, h1, h2, h3, _⟩ =>
  have h2' : x2 = s1 := h2
  have h3' : x3 = s2 := h3
  subst h2' h3'
  exact ⟨_, rfl, show Fits _ [_, _, _, _] _ from ⟨h0, h1, row_view1 a1 m1 hle, row_view1 a2 m2 hle, trivial⟩⟩⟩
theorem fits_ints {G : Nat → Option Obj} : ∀ xs : List Int, Fits G (xs.flatMap iC) (xs.map (Value.int .i64))
 | [] => trivial
 | x :: t => ⟨rfl, fits_ints t⟩
theorem row_of {G : Nat → Option Obj} {w : World} {B : Nat} {v : Value} {xs : List Int} (h : w.ownsRow B 3 1 v xs.length (xs.map (Value.int .i64))) : (HA.row v 3 1 iC xs).P G v.ownBlock.toList w :=
 ⟨_, rfl, fun _ _ => rfl, fits_ints xs, fun u hu => by obtain ⟨x, _, rfl⟩ := List.mem_map.1 hu; rfl, own_base h (Nat.zero_le _)⟩
theorem con_newT {P : Program} {k : FuncId} {args : List AV} {t : Tl} {e : Int} (he : ∀ args w, (callFunc k args).run P w = .ok (.enter k args) w)
  (h : ∀ (G : Nat → Option Obj) (vs : List Value) (w : World), Fits G args vs → Gin G w → Tab w → Calls P k vs.toArray w fun en w' => ∃ v, en = .returned (.tuple #[v, .int .i64 e]) ∧ Below w.heap.size w w' ∧ NewT w.heap.size w' v t) : Con P k args [HA.tab] (Is (.tup [.agg (tC t), .val (.int .i64 e)]) [HA.tab]) := by
 have hc : Con P k args [HA.tab] (fun x y => ∃ i : Value × Value, x = .tup [.agg [.val (.int .i64 t.id), .val (.int .i64 t.hs), .val i.1, .val i.2], .val (.int .i64 e)] ∧ y = tlOwn i.1 i.2 t :: [HA.tab]) := ⟨he, fun G Fp vs w hf hi => by
  obtain ⟨F1, F2, ep, ⟨hF1, hT⟩, hF2⟩ := hi.hs
  have hF2' : F2 = [] := hF2
  subst hF1 hF2'
  obtain rfl : Fp = [] := List.Perm.eq_nil (by simpa using ep)
  refine (h G vs w hf hi.gin ⟨cellG.cell hi.gin hT.1, cellG.cell hi.gin hT.2.1, cellG.cell hi.gin hT.2.2⟩).mono fun en w' ⟨v, h1, hb, sa, sc, fa, fc, hv, r1, r2, hap⟩ => ?_
  subst hv
  generalize Value.slice sa t.st.length sc = s1 at h1 r1 hap
  generalize Value.slice fa t.fo.length fc = s2 at h1 r2 hap
  have hmem : ∀ b ∈ s1.ownBlock.toList ++ s2.ownBlock.toList, w.heap.size ≤ b ∧ b < w'.heap.size := fun b hb' => by
   rcases List.mem_append.1 hb' with q | q
   ·exact r1.lt b (by simpa using q)
   ·exact r2.lt b (by simpa using q)
  refine ⟨_, _, _, G, s1.ownBlock.toList ++ s2.ownBlock.toList, h1, ⟨(s1, s2), rfl, rfl⟩, ⟨hb.os, hb.tape, hb.output, hb.size, fun b hb' _ => hb.block b hb', fun b hb' => .inr (hmem b hb').1, Gle.refl _, fun _ _ h => .inl h⟩,
   ⟨fun b o e => (hb.block b (hi.gin.lt e)).trans (hi.gin b o e), ?_, fun b hb' => ⟨(hmem b hb').2, ?_⟩, s1.ownBlock.toList ++ s2.ownBlock.toList, [], by simp, ⟨_, _, .refl _, row_of r1, _, [], by simp, row_of r2, rfl⟩, [], [], .refl _, ⟨rfl, hT⟩, rfl⟩, ⟨[_, _], rfl, ⟨[_, _, _, _], rfl, rfl, rfl, rfl, rfl, trivial⟩, rfl, trivial⟩⟩
  ·refine List.nodup_append.2 ⟨by cases s1.ownBlock <;> simp, by cases s2.ownBlock <;> simp, fun a ha b hb' e => ?_⟩
   have ha' : s1.ownBlock = some a := by simpa using ha
   have hb2 : s2.ownBlock = some b := by simpa using hb'
   exact hap a ha' (by rw [hb2, e])
  ·cases hg : G b with
   | none => rfl
   | some o => have := hi.gin.lt hg; have := (hmem b hb').1; omega⟩
 exact hc.frz (a := fun i : Value × Value => .tup [.agg [.val (.int .i64 t.id), .val (.int .i64 t.hs), .val i.1, .val i.2], .val (.int .i64 e)]) (h := fun i => tlOwn i.1 i.2 t) (fun x y h => h) fun i => thaw_tup (tl_thaw _ _ _)
theorem join_con (a b : Tl) (ha : a.small) (hb : b.small) : Con Tryz.prog 55 [.agg (tC a), .agg (tC b)] [HA.tab] (Is (.tup [.agg (tC (joinF a b).1), .val (.int .i64 (joinF a b).2)]) [HA.tab]) := by
 refine con_newT (enters_of Tryz.func55 (by kernel_rfl) rfl) fun G vs w hf hG hT => ?_
 match vs, hf with
 | [v, v'], ⟨h, h', _⟩ =>
  obtain ⟨sa, sc, fa, fc, rfl, g1, g2⟩ := fits_tl hG h
  obtain ⟨sb, sd, fb, fd, rfl, g3, g4⟩ := fits_tl hG h'
  exact join_any a b sa fa sb fb sc fc sd fd w hT ha hb g1 g2 g3 g4
theorem false_con (a : Tl) (h1 : a.st.length ≤ 1000) (h2 : a.fo.length ≤ 1000) : Con Tryz.prog 56 [.agg (tC a)] [HA.tab] (Is (.tup [.val (.int .i64 (falseR a).1), .val (.int .i64 (falseR a).2)]) [HA.tab]) := by
 refine con_tab (enters_of Tryz.func56 (by kernel_rfl) rfl) fun G vs w hf hG hT => ?_
 match vs, hf with
 | [v], ⟨h, _⟩ =>
  obtain ⟨sa, sc, fa, fc, rfl, g1, g2⟩ := fits_tl hG h
  exact (false_any a sa fa sc fc w hT h1 h2 g1 g2).mono fun e w' ⟨h, hb⟩ => ⟨_, h, ⟨[_, _], rfl, rfl, rfl, trivial⟩, hb⟩
theorem true_same {s l : List Int} : TrueL s s l ↔ l = s := by
 unfold TrueL
 rw [dist_self]
 constructor
 ·intro h; exact (dist_zero _ _ (by omega)).symm
 ·intro h; subst h; rw [dist_self]
theorem span_same (W : Int → Int) (s : List Int) : spanF W s s = (sumW W s, sumW W s) :=
 spanF_eq ⟨⟨s, true_same.2 rfl, rfl⟩, ⟨s, true_same.2 rfl, rfl⟩, fun l h => by rw [true_same.1 h]; exact ⟨Int.le_refl _, Int.le_refl _⟩⟩
theorem sumW_app (W : Int → Int) (a b : List Int) : sumW W (a ++ b) = sumW W a + sumW W b := by unfold sumW; rw [List.map_append, List.sum_append]
end Go.Proofs.YtihonljdanjfmaaGreatDoor.Sw
namespace Go.Proofs.YtihonljdanjfmaaGreatDoor.Sw
open Go.RowKit Go Go.Shelf Go.Proofs
def sumPt : List Stk → Int
 | [] => 0
 | s :: t => s.pt + sumPt t
def addAt (l : List Int) (i : Nat) (d : Int) : List Int := l.set i (l[i]?.getD 0 + d)
def putAll (ids : List Int) (pe all : Int) : List Stk → List Int → List Int
 | [], l => l
 | s :: t, l => putAll ids pe all t (l.set (ids.idxOf s.fl) (pe * s.pt / all))
def incAll (ids : List Int) : List Stk → List Int → List Int
 | [], l => l
 | s :: t, l => incAll ids t (addAt l (ids.idxOf s.fl) 1)
def leftQ (pe all : Int) : List Stk → Int → Int
 | [], n => n
 | s :: t, n => leftQ pe all t (n - pe * s.pt / all)
def sharesR (ids : List Int) (x : Bil) : List Int := incAll ids (x.st.take (leftQ x.pe (sumPt x.st) x.st x.pe).toNat) (putAll ids x.pe (sumPt x.st) x.st (List.replicate ids.length 0))
def subL (l m : List Int) : List Int := List.zipWith (· - ·) l m
def bilFold (ids : List Int) : List Bil → List Int → List Int
 | [], l => l
 | x :: t, l => bilFold ids t (subL (addAt l (ids.idxOf x.py) x.pe) (sharesR ids x))
def payStep (ids : List Int) (x : Pay) (l : List Int) : List Int := addAt (addAt l (ids.idxOf x.a) x.p) (ids.idxOf x.b) (-x.p)
def payFold (ids : List Int) : List Pay → List Int → List Int
 | [], l => l
 | x :: t, l => payFold ids t (payStep ids x l)
def owed8 (f : Flo) : List Int := payFold f.ids f.ps (bilFold f.ids f.bs (List.replicate f.ids.length 0))
theorem stks_all {ids : List Int} : ∀ {t : List Stk} {last : Int}, stksOk ids last t = true → ∀ s ∈ t, s.fl ∈ ids ∧ 1 ≤ s.pt ∧ s.pt ≤ 9
 | [], _, _, s, hs => by cases hs
 | x :: t, last, h, s, hs => by
  simp only [stksOk, Bool.and_eq_true, decide_eq_true_eq] at h
  rcases List.mem_cons.1 hs with rfl | hs
  ·exact ⟨h.1.1.2, h.1.2.1, h.1.2.2⟩
  ·exact stks_all h.2 s hs
structure BilF (ids : List Int) (x : Bil) : Prop where
 py : x.py ∈ ids
 pe0 : 1 ≤ x.pe
 pe1 : x.pe ≤ 1000000
 ne : x.st ≠ []
 st : ∀ s ∈ x.st, s.fl ∈ ids ∧ 1 ≤ s.pt ∧ s.pt ≤ 9
theorem bil_f {ids : List Int} {x : Bil} (h : bilOk ids x = true) : BilF ids x := by
 simp only [bilOk, Bool.and_eq_true, decide_eq_true_eq] at h
 exact ⟨h.1.1.1, h.1.1.2.1, h.1.1.2.2, h.1.2, stks_all h.2⟩
theorem bils_all {ids : List Int} : ∀ {t : List Bil} {last : Int}, bilsOk ids last t = true → ∀ x ∈ t, BilF ids x
 | [], _, _, s, hs => by cases hs
 | x :: t, last, h, s, hs => by
  simp only [bilsOk, Bool.and_eq_true, decide_eq_true_eq] at h
  rcases List.mem_cons.1 hs with rfl | hs
  ·exact bil_f h.1.2
  ·exact bils_all h.2 s hs
theorem pay_f {ids : List Int} {x : Pay} (h : payOk ids x = true) : x.a ∈ ids ∧ x.b ∈ ids ∧ x.a ≠ x.b ∧ 1 ≤ x.p ∧ x.p ≤ 1000000 := by
 simp only [payOk, Bool.and_eq_true, decide_eq_true_eq] at h
 exact ⟨h.1.1.1, h.1.1.2, h.1.2, h.2.1, h.2.2⟩
theorem pays_all {ids : List Int} : ∀ {t : List Pay}, paysOk ids t = true → ∀ x ∈ t, x.a ∈ ids ∧ x.b ∈ ids ∧ x.a ≠ x.b ∧ 1 ≤ x.p ∧ x.p ≤ 1000000
 | [], _, s, hs => by cases hs
 | x :: t, h, s, hs => by
  simp only [paysOk, Bool.and_eq_true] at h
  rcases List.mem_cons.1 hs with rfl | hs
  ·exact pay_f h.1
  ·exact pays_all h.2 s hs
structure FloF (f : Flo) : Prop where
 ids : f.ids.length ≤ 6
 bs : f.bs.length ≤ 10
 ps : f.ps.length ≤ 12
 bil : ∀ x ∈ f.bs, BilF f.ids x
 pay : ∀ x ∈ f.ps, x.a ∈ f.ids ∧ x.b ∈ f.ids ∧ x.a ≠ x.b ∧ 1 ≤ x.p ∧ x.p ≤ 1000000
theorem flo_f {f : Flo} (h : floOk f = true) : FloF f := by
 simp only [floOk, Bool.and_eq_true, decide_eq_true_eq] at h
 exact ⟨h.1.1.1.1.1.1, h.1.1.1.1.1.2, h.1.1.1.1.2, bils_all h.1.2, pays_all h.2⟩
theorem sumPt_bounds {t : List Stk} (h : ∀ s ∈ t, 1 ≤ s.pt ∧ s.pt ≤ 9) : (t.length : Int) ≤ sumPt t ∧ sumPt t ≤ 9 * t.length := by
 induction t with
 | nil => simp [sumPt]
 | cons s t ih =>
  have h1 := h s (by simp)
  have h2 := ih fun u hu => h u (by simp [hu])
  simp only [sumPt, List.length_cons]
  omega
def quots (pe all : Int) : List Stk → Int
 | [] => 0
 | s :: t => pe * s.pt / all + quots pe all t
theorem leftQ_eq (pe all : Int) : ∀ (t : List Stk) (n : Int), leftQ pe all t n = n - quots pe all t
 | [], n => by simp [leftQ, quots]
 | s :: t, n => by rw [leftQ, leftQ_eq pe all t, quots]; omega
theorem quots_bounds {pe all : Int} (ha : 0 < all) : ∀ (t : List Stk), quots pe all t * all ≤ pe * sumPt t ∧ pe * sumPt t ≤ quots pe all t * all + t.length * (all - 1)
 | [] => by simp [quots, sumPt]
 | s :: t => by
  have ⟨h1, h2⟩ := quots_bounds (pe := pe) ha t
  have e := Int.mul_ediv_add_emod (pe * s.pt) all
  have r0 := Int.emod_nonneg (pe * s.pt) (show all ≠ 0 by omega)
  have r1 := Int.emod_lt_of_pos (pe * s.pt) ha
  simp only [quots, sumPt, List.length_cons]
  have e1 : (pe * s.pt / all + quots pe all t) * all = all * (pe * s.pt / all) + quots pe all t * all := by rw [Int.add_mul, Int.mul_comm (pe * s.pt / all)]
  have e2 : pe * (s.pt + sumPt t) = pe * s.pt + pe * sumPt t := Int.mul_add _ _ _
  have e3 : ((t.length + 1 : Nat) : Int) * (all - 1) = t.length * (all - 1) + (all - 1) := by rw [Int.natCast_add, Int.add_mul]; simp
  rw [e1, e2, e3]
  omega
theorem left_bounds {ids : List Int} {x : Bil} (h : BilF ids x) : 0 ≤ leftQ x.pe (sumPt x.st) x.st x.pe ∧ leftQ x.pe (sumPt x.st) x.st x.pe ≤ x.st.length := by
 have hb := sumPt_bounds fun s hs => (h.st s hs).2
 have hl : 0 < x.st.length := List.length_pos_iff.2 h.ne
 have ha : 0 < sumPt x.st := by omega
 obtain ⟨h1, h2⟩ := quots_bounds (pe := x.pe) ha x.st
 rw [leftQ_eq]
 have k1 : quots x.pe (sumPt x.st) x.st ≤ x.pe := Int.le_of_mul_le_mul_right h1 ha
 have k2 : x.pe ≤ quots x.pe (sumPt x.st) x.st + x.st.length := by
  refine Int.le_of_mul_le_mul_right (a := sumPt x.st) ?_ ha
  rw [Int.add_mul]
  have : (x.st.length : Int) * (sumPt x.st - 1) ≤ x.st.length * sumPt x.st := Int.mul_le_mul_of_nonneg_left (by omega) (by omega)
  omega
 omega
theorem quot_bounds {ids : List Int} {x : Bil} (h : BilF ids x) {s : Stk} (hs : s ∈ x.st) : 0 ≤ x.pe * s.pt ∧ x.pe * s.pt ≤ 9000000 ∧ 0 < sumPt x.st ∧ sumPt x.st ≤ 9 * x.st.length ∧ 0 ≤ x.pe * s.pt / sumPt x.st ∧ x.pe * s.pt / sumPt x.st ≤ 9000000 := by
 have hb := sumPt_bounds fun s hs => (h.st s hs).2
 have hl : 0 < x.st.length := List.length_pos_iff.2 h.ne
 have h1 := h.st s hs
 have h2 := h.pe0
 have h3 := h.pe1
 have a1 : 0 ≤ x.pe * s.pt := Int.mul_nonneg (by omega) (by omega)
 have a2 : x.pe * s.pt ≤ 1000000 * 9 := Int.mul_le_mul h3 h1.2.2 (by omega) (by omega)
 refine ⟨a1, by omega, by omega, hb.2, Int.ediv_nonneg a1 (by omega), ?_⟩
 have := Int.ediv_le_self (sumPt x.st) a1
 omega
def Btw (lo hi : Int) (l : List Int) : Prop := ∀ e ∈ l, lo ≤ e ∧ e ≤ hi
theorem Btw.set {lo hi : Int} {l : List Int} (h : Btw lo hi l) (i : Nat) {v : Int} (h1 : lo ≤ v) (h2 : v ≤ hi) : Btw lo hi (l.set i v) := fun e he => by
 rcases List.mem_or_eq_of_mem_set he with he | rfl
 ·exact h e he
 ·exact ⟨h1, h2⟩
theorem Btw.mono {lo hi lo' hi' : Int} {l : List Int} (h : Btw lo hi l) (h1 : lo' ≤ lo) (h2 : hi ≤ hi') : Btw lo' hi' l := fun e he => by have := h e he; omega
theorem Btw.getD {lo hi : Int} {l : List Int} (h : Btw lo hi l) (h1 : lo ≤ 0) (h2 : 0 ≤ hi) (i : Nat) : lo ≤ l[i]?.getD 0 ∧ l[i]?.getD 0 ≤ hi := by
 cases e : l[i]? with
 | none => exact ⟨h1, h2⟩
 | some v => exact h v (List.mem_of_getElem? e)
theorem Btw.addAt {lo hi : Int} {l : List Int} (h : Btw lo hi l) (i : Nat) {d a b : Int} (h1 : lo ≤ 0) (h2 : 0 ≤ hi) (ha : a ≤ d) (hb : d ≤ b) (ha0 : a ≤ 0) (hb0 : 0 ≤ b) : Btw (lo + a) (hi + b) (addAt l i d) := by
 have := h.getD h1 h2 i
 exact (h.mono (lo' := lo + a) (hi' := hi + b) (by omega) (by omega)).set i (by omega) (by omega)
theorem Btw.rep (n : Nat) {lo hi : Int} (h1 : lo ≤ 0) (h2 : 0 ≤ hi) : Btw lo hi (List.replicate n 0) := fun e he => by rw [List.eq_of_mem_replicate he]; exact ⟨h1, h2⟩
theorem Btw.at {lo hi : Int} {l : List Int} (h : Btw lo hi l) {i : Nat} (hi' : i < l.length) : lo ≤ l[i] ∧ l[i] ≤ hi := h _ (List.getElem_mem hi')
theorem addAt_len (l : List Int) (i : Nat) (d : Int) : (addAt l i d).length = l.length := by unfold addAt; simp
theorem addAt_at {l : List Int} {i : Nat} (h : i < l.length) (d : Int) : addAt l i d = l.set i (l[i] + d) := by unfold addAt; rw [List.getElem?_eq_getElem h]; rfl
theorem putAll_len {ids : List Int} {pe all : Int} : ∀ (t : List Stk) (l : List Int), (putAll ids pe all t l).length = l.length
 | [], l => rfl
 | s :: t, l => by rw [putAll, putAll_len t]; simp
theorem incAll_len {ids : List Int} : ∀ (t : List Stk) (l : List Int), (incAll ids t l).length = l.length
 | [], l => rfl
 | s :: t, l => by rw [incAll, incAll_len t, addAt_len]
theorem shares_len (ids : List Int) (x : Bil) : (sharesR ids x).length = ids.length := by unfold sharesR; rw [incAll_len, putAll_len]; simp
theorem putAll_btw {ids : List Int} {pe all hi : Int} : ∀ (t : List Stk) (l : List Int), (∀ s ∈ t, 0 ≤ pe * s.pt / all ∧ pe * s.pt / all ≤ hi) → Btw 0 hi l → Btw 0 hi (putAll ids pe all t l)
 | [], l, _, h => h
 | s :: t, l, hq, h => putAll_btw t _ (fun u hu => hq u (by simp [hu])) (h.set _ (hq s (by simp)).1 (hq s (by simp)).2)
theorem incAll_btw {ids : List Int} : ∀ (t : List Stk) (l : List Int) {hi : Int}, 0 ≤ hi → Btw 0 hi l → Btw 0 (hi + t.length) (incAll ids t l)
 | [], l, hi, _, h => by simpa [incAll] using h
 | s :: t, l, hi, h0, h => by
  have := incAll_btw (ids := ids) t (addAt l (ids.idxOf s.fl) 1) (hi := hi + 1) (by omega) (by simpa using h.addAt (ids.idxOf s.fl) (d := 1) (a := 0) (b := 1) (by omega) h0 (by omega) (by omega) (by omega) (by omega))
  rw [incAll]
  exact this.mono (by omega) (by simp only [List.length_cons]; omega)
theorem shares_btw {ids : List Int} {x : Bil} (h : BilF ids x) (hl : x.st.length ≤ 1000) : Btw 0 9001000 (sharesR ids x) := by
 have h1 := putAll_btw (ids := ids) (pe := x.pe) (all := sumPt x.st) (hi := 9000000) x.st (List.replicate ids.length 0) (fun s hs => (quot_bounds h hs).2.2.2.2) (Btw.rep _ (by omega) (by omega))
 have h2 := incAll_btw (ids := ids) (x.st.take (leftQ x.pe (sumPt x.st) x.st x.pe).toNat) _ (by omega) h1
 have h3 := List.length_take_le (leftQ x.pe (sumPt x.st) x.st x.pe).toNat x.st
 have h4 : (x.st.take (leftQ x.pe (sumPt x.st) x.st x.pe).toNat).length ≤ x.st.length := by rw [List.length_take]; omega
 exact h2.mono (by omega) (by omega)
theorem zeroF {α : Type} {P : Program} {e : TypeId} {f : α → List AV} {x0 : α} {n b : Nat} {z : Value} (h2 : (P.info? e).map (fun i => (i.zero, i.size, i.bytes)) = some (some z, n, b)) {zs : List Value} (h3 : z.cells = zs.toArray) (h4 : ∀ G, Fits G (f x0) zs) : ZeroF P e f x0 := by
 obtain ⟨i, hi, e1, _, _⟩ := info_parts h2
 exact ⟨z, ⟨i, hi, e1⟩, zs, h3, h4⟩
instance zeroI : ZeroF Tryz.prog 3 iC 0 := zeroF (z := .int .i64 0) (n := 1) (b := 8) (zs := [.int .i64 0]) (by kernel_rfl) rfl (fun _ => ⟨rfl, trivial⟩)
theorem subL_len {l m : List Int} (h : l.length = m.length) : (subL l m).length = l.length := by unfold subL; simp; omega
def subTo (l m : List Int) (k : Nat) : List Int := (subL l m).take k ++ l.drop k
theorem subTo_len {l m : List Int} (h : l.length = m.length) (k : Nat) : (subTo l m k).length = l.length := by
 unfold subTo; rw [List.length_append, List.length_take, List.length_drop, subL_len h]; omega
theorem subTo_get {l m : List Int} {k : Nat} (h : l.length = m.length) (hk : k < l.length) : (subTo l m k)[k]? = some l[k] := by
 unfold subTo
 rw [List.getElem?_append_right (by rw [List.length_take, subL_len h]; omega), List.length_take, subL_len h, List.getElem?_drop]
 rw [show k + (k - min k l.length) = k by omega]; exact List.getElem?_eq_getElem hk
theorem subTo_set {l m : List Int} {k : Nat} (h : l.length = m.length) (hk : k < l.length) : (subTo l m k).set k (l[k] - m[k]) = subTo l m (k + 1) := by
 have hs := subL_len h
 have hk2 : k < (subL l m).length := by omega
 unfold subTo
 rw [List.set_append_right _ _ (by rw [List.length_take]; omega), List.length_take, hs, show k - min k l.length = 0 by omega, List.drop_eq_getElem_cons hk, List.set_cons_zero, List.take_succ_eq_append_getElem hk2, List.append_assoc]
 congr 1
 simp [subL]
theorem subTo_all {l m : List Int} (h : l.length = m.length) : subTo l m l.length = subL l m := by
 unfold subTo
 rw [List.drop_length, List.append_nil, List.take_of_length_le (by rw [subL_len h]; omega)]
theorem Btw.subL {lo hi a b : Int} {l m : List Int} (h : Btw lo hi l) (k : Btw a b m) : Btw (lo - b) (hi - a) (subL l m) := fun e he => by
 unfold Sw.subL at he
 rw [List.zipWith_eq_zipWith_take_min] at he
 obtain ⟨i, hi', rfl⟩ := List.getElem_of_mem he
 rw [List.getElem_zipWith]
 have h1 := h.at (i := i) (by simp at hi'; omega)
 have h2 := k.at (i := i) (by simp at hi'; omega)
 simp only [List.getElem_take] at *
 omega
def hits (a b : Int) (q : Qu) : Bool := decide (q.a = min a b) && decide (q.b = max a b)
def speakR (qs : List Qu) (a b : Int) : Bool := !(qs.any (hits a b)) && decide (a ≠ b)
theorem bilFold_len {ids : List Int} : ∀ (t : List Bil) (l : List Int), l.length = ids.length → (bilFold ids t l).length = ids.length
 | [], l, h => h
 | x :: t, l, h => by
  rw [bilFold]
  refine bilFold_len t _ ?_
  rw [subL_len (by rw [addAt_len, shares_len, h]), addAt_len, h]
theorem payFold_len {ids : List Int} : ∀ (t : List Pay) (l : List Int), (payFold ids t l).length = l.length
 | [], l => rfl
 | x :: t, l => by rw [payFold, payFold_len t]; unfold payStep; rw [addAt_len, addAt_len]
theorem owed8_len (f : Flo) : (owed8 f).length = f.ids.length := by unfold owed8; rw [payFold_len, bilFold_len _ _ (by simp)]
theorem bilFold_btw {ids : List Int} : ∀ (t : List Bil) (l : List Int) {c : Int}, 0 ≤ c → (∀ x ∈ t, BilF ids x ∧ x.st.length ≤ 1000) → Btw (-c) c l → Btw (-(c + 10000000 * t.length)) (c + 10000000 * t.length) (bilFold ids t l)
 | [], l, c, _, _, h => by simpa [bilFold] using h
 | x :: t, l, c, hc, hB, h => by
  have hx := hB x (by simp)
  have h1 := h.addAt (ids.idxOf x.py) (d := x.pe) (a := 0) (b := 1000000) (by omega) (by omega) (by have := hx.1.pe0; omega) hx.1.pe1 (by omega) (by omega)
  have h2 := (h1.subL (shares_btw hx.1 hx.2)).mono (lo' := -(c + 10000000)) (hi' := c + 10000000) (by omega) (by omega)
  have h3 := bilFold_btw (ids := ids) t _ (c := c + 10000000) (by omega) (fun y hy => hB y (by simp [hy])) h2
  rw [bilFold]
  exact h3.mono (by simp only [List.length_cons]; omega) (by simp only [List.length_cons]; omega)
theorem payStep_btw {ids : List Int} {x : Pay} {l : List Int} {c : Int} (hc : 0 ≤ c) (h1 : 1 ≤ x.p) (h2 : x.p ≤ 1000000) (h : Btw (-c) c l) : Btw (-(c + 1000000)) (c + 1000000) (payStep ids x l) := by
 have k1 := h.addAt (ids.idxOf x.a) (d := x.p) (a := 0) (b := 1000000) (by omega) (by omega) (by omega) h2 (by omega) (by omega)
 have k2 := k1.addAt (ids.idxOf x.b) (d := -x.p) (a := -1000000) (b := 0) (by omega) (by omega) (by omega) (by omega) (by omega) (by omega)
 exact k2.mono (by omega) (by omega)
theorem payFold_btw {ids : List Int} : ∀ (t : List Pay) (l : List Int) {c : Int}, 0 ≤ c → (∀ x ∈ t, 1 ≤ x.p ∧ x.p ≤ 1000000) → Btw (-c) c l → Btw (-(c + 1000000 * t.length)) (c + 1000000 * t.length) (payFold ids t l)
 | [], l, c, _, _, h => by simpa [payFold] using h
 | x :: t, l, c, hc, hB, h => by
  have hx := hB x (by simp)
  have h3 := payFold_btw (ids := ids) t _ (c := c + 1000000) (by omega) (fun y hy => hB y (by simp [hy])) (payStep_btw (ids := ids) hc hx.1 hx.2 h)
  rw [payFold]
  exact h3.mono (by simp only [List.length_cons]; omega) (by simp only [List.length_cons]; omega)
theorem owed8_btw {f : Flo} (hF : FloF f) (hS : Sml f) : Btw (-200000000) 200000000 (owed8 f) := by
 have h1 := bilFold_btw (ids := f.ids) f.bs (List.replicate f.ids.length 0) (c := 0) (by omega) (fun x hx => ⟨hF.bil x hx, hS.st x hx⟩) (Btw.rep _ (by omega) (by omega))
 have h2 := payFold_btw (ids := f.ids) f.ps _ (c := 0 + 10000000 * f.bs.length) (by omega) (fun x hx => (hF.pay x hx).2.2.2) h1
 have := hF.bs
 have := hF.ps
 exact h2.mono (by omega) (by omega)
abbrev hsB (ph : Value) (f : Flo) (v : Value) : HA := .box ph (flC f ++ [.val v]) 104
theorem index_con (ph v : Value) (f : Flo) (id : Int) (hl : f.ids.length ≤ 1000000) : Con Tryz.prog 69 [.val ph, .val (.int .i64 id)] [hsB ph f v] (Is (.val (.int .i64 (ixOf f.ids id))) [hsB ph f v]) := by
 refine con_of Tryz.func69 rfl (enters_of Tryz.func69 (by kernel_rfl) rfl) rfl ?_; intro n w0 F0 G0
 refine zS ?_
 (first | (apply wl_call (indexI_con f.ids id hl); exact rfl; exact rfl) | (apply wl_callR (indexI_con f.ids id hl); exact rfl; exact zM; exact rfl))
 refine zS ?_
 (apply resK; exact rfl; exact rfl; (apply Cut.cons (h := hsB ph f v); exact zN; exact Cut.nil); exact ⟨rfl, rfl⟩)
theorem indexAt_con (ph v : Value) (f : Flo) (id : Int) (hl : f.ids.length ≤ 1000000) (hm : id ∈ f.ids) : Con Tryz.prog 69 [.val ph, .val (.int .i64 id)] [hsB ph f v] (Is (.val (.int .i64 ((f.ids.idxOf id : Nat) : Int))) [hsB ph f v]) := by
 have := index_con ph v f id hl
 rwa [show ixOf f.ids id = ((f.ids.idxOf id : Nat) : Int) from if_pos hm] at this
def TokW {α : Type} (e : TypeId) (n : Nat) (f : α → List AV) (xs : List α) (r : List HA) : AV → List HA → Prop := fun x y => ∃ u, x = .val u ∧ y = .row u e n f xs :: r
theorem shares_con (ph ow : Value) (f : Flo) (x : Bil) (hl : f.ids.length ≤ 6) (hs : x.st.length ≤ 1000) (hB : BilF f.ids x) : Con Tryz.prog 67 [.val ph, .agg (biC x)] [hsB ph f ow] (TokW 3 1 iC (sharesR f.ids x) [hsB ph f ow]) := by
 have hsum := sumPt_bounds fun s hs => (hB.st s hs).2
 have hlb := left_bounds hB
 have hpe0 := hB.pe0
 have hpe1 := hB.pe1
 refine con_of Tryz.func67 rfl (enters_of Tryz.func67 (by kernel_rfl) rfl) rfl ?_; intro n w0 F0 G0
 refine zS ?_;repeat(refine yA ?_;intro p hp;refine zS ?_)
 refine W_run 3 [15, 16, 5] [0, 1, 2] Cut.nil rfl goFlt mixedS (by kernel_rfl) rfl ?_
 refine rpv [] [] ?_
 refine rpv [0] [] ?_
 refine rpv [] [] ?_
 refine ⟨⟨by kernel_rfl, by kernel_rfl⟩, fun vs => ?_⟩
 apply WL_auto [1, 2]
 ·exact goPk
 ·exact goNrm
 ·kernel_rfl
 ·kernel_rfl
 refine zS ?_;repeat(refine yA ?_;intro p hp;refine zS ?_)
 refine zS ?_;repeat(refine yA ?_;intro p hp;refine zS ?_)
 refine W_loopJ (fun (b : Nat × Int) => ⟨[(0, .val ph), (3, .val p), (5, .val (.int .i64 b.2)), (6, .val (.int .i64 x.pe)), (18, .sl 2 stC x.st), (19, .val (.int .i64 x.st.length)), (20, .val (.int .i64 b.1))], [hsB ph f ow, .box p (biC x) 49]⟩) (fun b => b.1 ≤ x.st.length ∧ b.2 + sumPt (x.st.drop b.1) = sumPt x.st ∧ 0 ≤ b.2 ∧ b.2 ≤ 9 * b.1) (fun b => x.st.length - b.1) (0, 0) (fun _ _ st => st_sub2 st zR zP) ?hj0 ?round
 case hj0 => simp
 case round =>
  rintro ⟨k, acc⟩ ⟨hk, hno, ha0, ha1⟩
  dsimp only at hk hno ha0 ha1 ⊢
  refine zS ?_;repeat(refine yA ?_;intro p hp;refine zS ?_)
  refine w_cond rfl (fun hlt => ?_) (fun hlt => ?_)
  ·have hlt' : k < x.st.length := by simpa using hlt
   have hp := (hB.st _ (List.getElem_mem hlt')).2
   rw [drop_step hlt', sumPt] at hno
   refine zS ?_;repeat(refine yA ?_;intro p hp;refine zS ?_)
   (refine ⟨(k + 1, acc + x.st[k].pt), fun _ _ st => st_sub2 st ?_ ?_, ?_, ?_⟩; exact zR; exact zP)
   ·exact ⟨hlt', by dsimp only; omega, by dsimp only; omega, by dsimp only; omega⟩
   ·dsimp only; omega
  ·have hkk : k = x.st.length := by simp at hlt; omega
   subst hkk
   rw [List.drop_length, sumPt, Int.add_zero] at hno
   subst hno
   clear hlt hk ha0 ha1
   refine zS ?_;repeat(refine yA ?_;intro p hp;refine zS ?_)
   (apply wl_make iC; exact inferInstance; exact inferInstance; exact inferInstance; exact inferInstance; exact rfl; exact rfl; exact rfl; (first | omega | (simp; omega)); exact rfl)
   intro v
   refine zS ?_;repeat(refine yA ?_;intro p hp;refine zS ?_)
   refine W_loopJ (fun (b : Nat × Int × List Int) => ⟨[(0, .val ph), (3, .val p), (5, .val (.int .i64 (sumPt x.st))), (9, .val v), (6, .val (.int .i64 b.2.1)), (37, .sl 2 stC x.st), (38, .val (.int .i64 x.st.length)), (39, .val (.int .i64 b.1))], [.row v 3 1 iC b.2.2, hsB ph f ow, .box p (biC x) 49]⟩)
    (fun b => b.1 ≤ x.st.length ∧ b.2.2.length = f.ids.length ∧ putAll f.ids x.pe (sumPt x.st) (x.st.drop b.1) b.2.2 = putAll f.ids x.pe (sumPt x.st) x.st (List.replicate f.ids.length 0) ∧ leftQ x.pe (sumPt x.st) (x.st.drop b.1) b.2.1 = leftQ x.pe (sumPt x.st) x.st x.pe ∧ -9000000 * (b.1 : Int) ≤ b.2.1 ∧ b.2.1 ≤ 1000000) (fun b => x.st.length - b.1) (0, x.pe, List.replicate f.ids.length 0) (fun _ _ st => st_sub2 st (by exact zR) (by exact zP)) ⟨Nat.zero_le _, by simp, rfl, rfl, by dsimp only; omega, by dsimp only; omega⟩ ?_
   rintro ⟨k, left, cur⟩ ⟨hk, hcl, hno, hlf, hl0, hl1⟩
   dsimp only at hk hcl hno hlf hl0 hl1 ⊢
   refine zS ?_;repeat(refine yA ?_;intro p hp;refine zS ?_)
   refine w_cond rfl (fun hlt => ?_) (fun hlt => ?_)
   ·have hlt' : k < x.st.length := by simpa using hlt
    have hsk := hB.st _ (List.getElem_mem hlt')
    have hq := quot_bounds hB (List.getElem_mem hlt')
    have hix : f.ids.idxOf x.st[k].fl < cur.length := by rw [hcl]; exact List.idxOf_lt_length_of_mem hsk.1
    rw [drop_step hlt', putAll] at hno
    rw [drop_step hlt', leftQ] at hlf
    refine zS ?_;repeat(refine yA ?_;intro p hp;refine zS ?_)
    (first | (apply wl_call (indexAt_con ph ow f _ (by omega) hsk.1); exact rfl; exact rfl) | (apply wl_callR (indexAt_con ph ow f _ (by omega) hsk.1); exact rfl; exact zM; exact rfl))
    refine zS ?_;repeat(refine yA ?_;intro p hp;refine zS ?_)
    (refine ⟨(k + 1, left - x.pe * x.st[k].pt / sumPt x.st, cur.set (f.ids.idxOf x.st[k].fl) (x.pe * x.st[k].pt / sumPt x.st)), fun _ _ st => st_sub2 st ?_ ?_, ?_, ?_⟩; exact zR; exact zP)
    ·exact ⟨hlt', by dsimp only; rw [List.length_set]; exact hcl, hno, hlf, by dsimp only; omega, by dsimp only; omega⟩
    ·dsimp only; omega
   ·have hkk : k = x.st.length := by simp at hlt; omega
    subst hkk
    rw [List.drop_length, putAll] at hno
    rw [List.drop_length, leftQ] at hlf
    obtain ⟨m, hm⟩ : ∃ m : Nat, left = (m : Int) := ⟨left.toNat, by omega⟩
    have hml : m ≤ x.st.length := by omega
    have hW : sharesR f.ids x = incAll f.ids (x.st.take m) cur := by unfold sharesR; rw [← hlf, ← hno, hm]; rfl
    have hbt : Btw 0 9000000 cur := by
     rw [hno]
     exact putAll_btw _ _ (fun s hs => (quot_bounds hB hs).2.2.2.2) (Btw.rep _ (by omega) (by omega))
    subst hm
    rw [hW]
    clear hW hno hlf hlt hk hl0 hl1 hlb
    refine zS ?_;repeat(refine yA ?_;intro p hp;refine zS ?_)
    (apply wl_slTo (h := m); exact inferInstance; exact rfl; exact rfl; (first | exact rfl | omega | (simp; omega)); exact hml; exact rfl)
    have htl : (x.st.take m).length = m := by rw [List.length_take]; omega
    refine zS ?_;repeat(refine yA ?_;intro p hp;refine zS ?_)
    refine W_loopJ (fun (b : Nat × List Int) => ⟨[(0, .val ph), (3, .val p), (9, .val v), (64, .sl 2 stC (x.st.take m)), (65, .val (.int .i64 (x.st.take m).length)), (66, .val (.int .i64 b.1))], [.row v 3 1 iC b.2, hsB ph f ow, .box p (biC x) 49]⟩)
     (fun b => b.1 ≤ m ∧ b.2.length = f.ids.length ∧ incAll f.ids ((x.st.take m).drop b.1) b.2 = incAll f.ids (x.st.take m) cur ∧ Btw 0 (9000000 + b.1) b.2) (fun b => m - b.1) (0, cur) (fun _ _ st => st_sub2 st (by exact zR) (by exact zP)) ⟨Nat.zero_le _, hcl, rfl, hbt.mono (by omega) (by dsimp only; omega)⟩ ?_
    rintro ⟨i, cu⟩ ⟨hi, hcl2, hno, hbt2⟩
    dsimp only at hi hcl2 hno hbt2 ⊢
    refine zS ?_;repeat(refine yA ?_;intro p hp;refine zS ?_)
    refine w_cond rfl (fun hlt => ?_) (fun hlt => ?_)
    ·have hlt' : i < m := by simp at hlt; omega
     have hil : i < x.st.length := by omega
     have hitl : i < (x.st.take m).length := by omega
     have hsk := hB.st _ (List.getElem_mem hil)
     have hge : (x.st.take m)[i] = x.st[i] := List.getElem_take
     have hix : f.ids.idxOf x.st[i].fl < cu.length := by rw [hcl2]; exact List.idxOf_lt_length_of_mem hsk.1
     have hce := hbt2.at hix
     rw [drop_step (by rw [List.length_take]; omega), incAll, hge, addAt_at hix] at hno
     refine zS ?_;repeat(refine yA ?_;intro p hp;refine zS ?_)
     rw [hge]
     (first | (apply wl_call (indexAt_con ph ow f _ (by omega) hsk.1); exact rfl; exact rfl) | (apply wl_callR (indexAt_con ph ow f _ (by omega) hsk.1); exact rfl; exact zM; exact rfl))
     refine zS ?_;repeat(refine yA ?_;intro p hp;refine zS ?_)
     (refine ⟨(i + 1, cu.set (f.ids.idxOf x.st[i].fl) (cu[f.ids.idxOf x.st[i].fl] + 1)), fun _ _ st => st_sub2 st ?_ ?_, ?_, ?_⟩; exact zR; exact zP)
     ·exact ⟨hlt', by dsimp only; rw [List.length_set]; exact hcl2, hno, (hbt2.mono (by omega) (by dsimp only; omega)).set _ (by omega) (by dsimp only; omega)⟩
     ·dsimp only; omega
    ·have hkk : i = m := by simp at hlt; omega
     subst hkk
     rw [List.drop_of_length_le (by rw [List.length_take]; omega), incAll] at hno
     rw [← hno]
     refine zS ?_;repeat(refine yA ?_;intro p hp;refine zS ?_)
     (apply resK; exact rfl; exact rfl; (apply Cut.cons; exact zN; apply Cut.cons (h := hsB ph f ow); exact zN; exact Cut.nil); exact ⟨_, rfl, rfl⟩)
theorem paid_con (ph ow : Value) (f : Flo) (x : Pay) (cu : List Int) {c : Int} (hl : f.ids.length ≤ 6) (hP : x.a ∈ f.ids ∧ x.b ∈ f.ids ∧ x.a ≠ x.b ∧ 1 ≤ x.p ∧ x.p ≤ 1000000) (hcl : cu.length = f.ids.length) (hbt : Btw (-c) c cu) (hc0 : 0 ≤ c) (hc : c ≤ 1000000000000) : Con Tryz.prog 90 [.val ph, .agg (payC x)] [hsB ph f ow, .row ow 3 1 iC cu] (Is (.tup []) [hsB ph f ow, .row ow 3 1 iC (payStep f.ids x cu)]) := by
 have hix : f.ids.idxOf x.a < cu.length := by rw [hcl]; exact List.idxOf_lt_length_of_mem hP.1
 have hq2 : cu[f.ids.idxOf x.a]? = some cu[f.ids.idxOf x.a] := List.getElem?_eq_getElem hix
 have hce := hbt.at hix
 have hb1 := hbt.addAt (f.ids.idxOf x.a) (d := x.p) (a := 0) (b := 1000000) (by omega) (by omega) (by omega) (by omega) (by omega) (by omega)
 rw [payStep]
 rw [addAt_at hix] at hb1 ⊢
 refine con_of Tryz.func90 rfl (enters_of Tryz.func90 (by kernel_rfl) rfl) rfl ?_; intro n w0 F0 G0
 refine zS ?_;repeat(refine yA ?_;intro p hp;refine zS ?_)
 refine W_run 12 [4, 5, 6, 7, 8, 9, 10, 11, 12, 13, 14, 15] [0, 1, 2, 3, 4, 5, 6, 7, 8, 9, 10, 11] Cut.nil rfl goFlt mixedS (by kernel_rfl) rfl ?_
 refine rpv [] [] ?_
 refine rpv [0] [] ?_
 refine rpv [1] [] ?_
 refine rpv [2] [] ?_
 refine rpv [] [] ?_
 refine rpv [] [] ?_
 refine rpv [5] [] ?_
 refine Run.pv [4, 6] [] rfl (fun vs => by apply ltr_pk; exact goPk; (apply ltr_callR ((indexAt_con ph ow f _ (by omega) hP.1)); exact rfl; exact zM)) goApp ?_
 refine rpv [3, 7] [] ?_
 refine rpv [8] [] ?_
 refine rpv [] [] ?_
 refine rpv [10] [] ?_
 refine ⟨⟨by kernel_rfl, by kernel_rfl⟩, fun vs => ?_⟩
 apply WL_auto [3, 7, 9, 11]
 ·exact goPk
 ·exact goNrm
 ·kernel_rfl
 ·kernel_rfl
 refine zS ?_
 generalize hc1 : cu.set (f.ids.idxOf x.a) (cu[f.ids.idxOf x.a] + x.p) = c1 at *
 have hc1l : c1.length = f.ids.length := by rw [← hc1, List.length_set, hcl]
 have hix2 : f.ids.idxOf x.b < c1.length := by rw [hc1l]; exact List.idxOf_lt_length_of_mem hP.2.1
 have hq3 : c1[f.ids.idxOf x.b]? = some c1[f.ids.idxOf x.b] := List.getElem?_eq_getElem hix2
 have hce2 := hb1.at hix2
 rw [addAt_at hix2, ← Int.sub_eq_add_neg]
 refine zS ?_
 refine W_run 12 [18, 19, 20, 21, 22, 23, 24, 25, 26, 27, 28, 29] [0, 1, 2, 3, 4, 5, 6, 7, 8, 9, 10, 11] Cut.nil rfl goFlt mixedS (by kernel_rfl) rfl ?_
 refine rpv [] [] ?_
 refine rpv [0] [] ?_
 refine rpv [1] [] ?_
 refine rpv [2] [] ?_
 refine rpv [] [] ?_
 refine rpv [] [] ?_
 refine rpv [5] [] ?_
 refine Run.pv [4, 6] [] rfl (fun vs => by apply ltr_pk; exact goPk; (apply ltr_callR ((indexAt_con ph ow f _ (by omega) hP.2.1)); exact rfl; exact zM)) goApp ?_
 refine rpv [3, 7] [] ?_
 refine rpv [8] [] ?_
 refine rpv [] [] ?_
 refine rpv [10] [] ?_
 refine ⟨⟨by kernel_rfl, by kernel_rfl⟩, fun vs => ?_⟩
 apply WL_auto [3, 7, 9, 11]
 ·exact goPk
 ·exact goNrm
 ·kernel_rfl
 ·kernel_rfl
 refine zS ?_
 (apply resK0; exact rfl; exact ⟨rfl, rfl⟩; exact yC)
theorem addAt_subL {l m : List Int} (h : l.length = m.length) (i : Nat) (d : Int) : addAt (subL l m) i d = subL (addAt l i d) m := by
 unfold addAt
 by_cases hi : i < l.length
 ·have hm : i < m.length := by omega
  have e1 : (subL l m)[i]? = some (l[i] - m[i]) := by unfold subL; rw [List.getElem?_eq_getElem (by simp; omega), List.getElem_zipWith]
  rw [e1, List.getElem?_eq_getElem hi]
  simp only [Option.getD_some]
  unfold subL
  apply List.ext_getElem (by simp)
  intro k h1 h2
  simp only [List.getElem_set, List.getElem_zipWith]
  split
  ·rename_i e
   subst e
   omega
  ·rfl
 ·rw [List.set_eq_of_length_le (by rw [subL_len h]; omega), List.set_eq_of_length_le (by omega)]
theorem bilFold_step {ids : List Int} {x : Bil} {t : List Bil} {l : List Int} (h : l.length = ids.length) : bilFold ids (x :: t) l = bilFold ids t (addAt (subL l (sharesR ids x)) (ids.idxOf x.py) x.pe) := by
 rw [bilFold, addAt_subL (by rw [h, shares_len])]
def OpenP (f : Flo) : AV → List HA → Prop := fun x y => ∃ ph v, x = .tup [.val ph, .val (.int .i64 0)] ∧ y = [hsB ph f v, .row v 3 1 iC (owed8 f), tab8]
theorem openedNo_con (f : Flo) (hS : Sml f) (hno : floOk f = false) : Con Tryz.prog 58 [.agg (flC f)] [tab8] (Is (.tup [.val (.pointer none), .val (.int .i64 80)]) [tab8]) := by
 have C := check_con f hS
 rw [show errF f = 80 by unfold errF; rw [hno]; rfl] at C
 refine con_of Tryz.func58 rfl (enters_of Tryz.func58 (by kernel_rfl) rfl) rfl ?_; intro n w0 F0 G0
 refine zS ?_;repeat(refine yA ?_;intro p hp;refine zS ?_)
 (first | (apply wl_call (C); exact rfl; exact rfl) | (apply wl_callR (C); exact rfl; exact zM; exact rfl))
 refine zS ?_;repeat(refine yA ?_;intro p hp;refine zS ?_)
 (apply resK2; exact rfl; exact rfl; exact rfl; exact ⟨rfl, rfl⟩; exact yC)
theorem opened_con (f : Flo) (hS : Sml f) (hok : floOk f = true) : Con Tryz.prog 58 [.agg (flC f)] [tab8] (OpenP f) := by
 have C := check_con f hS
 rw [show errF f = 0 by unfold errF; rw [hok]; rfl] at C
 have hF := flo_f hok
 have hidsl := hF.ids
 have hbsl := hF.bs
 have hpsl := hF.ps
 refine con_of Tryz.func58 rfl (enters_of Tryz.func58 (by kernel_rfl) rfl) rfl ?_; intro n w0 F0 G0
 refine zS ?_;repeat(refine yA ?_;intro p hp;refine zS ?_)
 (first | (apply wl_call (C); exact rfl; exact rfl) | (apply wl_callR (C); exact rfl; exact zM; exact rfl))
 refine zS ?_;repeat(refine yA ?_;intro p hp;refine zS ?_)
 refine W_run 5 [17, 18, 19, 20, 21] [0, 1, 2, 3, 4] Cut.nil rfl goFlt mixedS (by kernel_rfl) rfl ?_
 refine rpv [] [] ?_
 refine rpv [] [] ?_
 refine rpv [1] [] ?_
 refine rpv [2] [] ?_
 refine Run.tok [3] [] rfl (fun vs => by apply ltr_pk; exact goPk; (refine ltr ?_; apply lt_make (f := iC); exact rfl; exact rfl; exact rfl; (first | omega | (simp; omega)))) goApp ?_
 refine ⟨⟨by kernel_rfl, by kernel_rfl⟩, fun vs => ?_⟩
 apply WL_auto [0, 4]
 ·exact goPk
 ·exact goNrm
 ·kernel_rfl
 ·kernel_rfl
 generalize vs 4 = ow
 refine zS ?_;repeat(refine yA ?_;intro p hp;refine zS ?_)
 refine WL_one At.here (fun hone => ?_)
 refine zS ?_;repeat(refine yA ?_;intro p hp;refine zS ?_)
 rename_i pf hpf
 refine W_loopJ (fun (b : Nat × List Int) => ⟨[(1, .val pf), (5, .val p), (25, .sl 4 biC f.bs), (26, .val (.int .i64 f.bs.length)), (27, .val (.int .i64 b.1))], [.row ow 3 1 iC b.2, hsB p f ow, .box pf (flC f) 27, tab8]⟩)
  (fun b => b.1 ≤ f.bs.length ∧ b.2.length = f.ids.length ∧ bilFold f.ids (f.bs.drop b.1) b.2 = bilFold f.ids f.bs (List.replicate f.ids.length 0) ∧ Btw (-(10000000 * b.1)) (10000000 * b.1) b.2) (fun b => f.bs.length - b.1) (0, List.replicate f.ids.length 0) (fun _ _ st => st_sub2 st (by exact zR) (by exact zP)) ⟨Nat.zero_le _, by simp, rfl, Btw.rep _ (by dsimp only; omega) (by dsimp only; omega)⟩ ?_
 rintro ⟨k, cur⟩ ⟨hk, hcl, hnf, hbt⟩
 dsimp only at hk hcl hnf hbt ⊢
 refine zS ?_;repeat(refine yA ?_;intro p hp;refine zS ?_)
 refine w_cond rfl (fun hlt => ?_) (fun hlt => ?_)
 ·have hlt' : k < f.bs.length := by simpa using hlt
  have hB := hF.bil _ (List.getElem_mem hlt')
  have hsl := hS.st _ (List.getElem_mem hlt')
  have hpe0 := hB.pe0
  have hpe1 := hB.pe1
  rw [drop_step hlt', bilFold_step hcl] at hnf
  refine zS ?_;repeat(refine yA ?_;intro p hp;refine zS ?_)
  rename_i ph hph
  have hsc := shares_con ph ow f f.bs[k] (by omega) (by omega) hB
  have hshl := shares_len f.ids f.bs[k]
  have hsb := shares_btw hB hsl
  generalize hsh : sharesR f.ids f.bs[k] = sh at *
  (apply wl_callP (hsc); exact rfl; exact yC; exact rfl)
  rintro _ _ ⟨u, rfl, rfl⟩
  have hc1l : cur.length = sh.length := by rw [hshl, hcl]
  refine zS ?_;repeat(refine yA ?_;intro p hp;refine zS ?_)
  refine W_loopJ (fun (m : Nat) => ⟨[(1, .val pf), (5, .val ph), (7, .val p), (25, .sl 4 biC f.bs), (26, .val (.int .i64 f.bs.length)), (27, .val (.int .i64 k)), (33, .val u), (34, .val (.int .i64 sh.length)), (35, .val (.int .i64 m))], [.row u 3 1 iC sh, .row ow 3 1 iC (subTo cur sh m), hsB ph f ow, .box p (biC f.bs[k]) 49, .box pf (flC f) 27, tab8]⟩)
   (fun m => m ≤ sh.length) (fun m => sh.length - m) 0 (fun _ _ st => st_sub2 st (by exact zR) (by exact zP)) (Nat.zero_le _) ?_
  rintro m hm
  refine zS ?_;repeat(refine yA ?_;intro p hp;refine zS ?_)
  refine w_cond rfl (fun hlm => ?_) (fun hlm => ?_)
  ·have hlm' : m < sh.length := by simpa using hlm
   have hmc : m < cur.length := by omega
   have hmk : m < (subTo cur sh m).length := by rw [subTo_len hc1l]; exact hmc
   have hv : (subTo cur sh m)[m] = cur[m] := by
    have := subTo_get hc1l hmc
    rw [List.getElem?_eq_getElem hmk] at this
    exact Option.some.inj this
   have hb2 := hbt.at hmc
   have hb3 := hsb.at hlm'
   refine zS ?_;repeat(refine yA ?_;intro p hp;refine zS ?_)
   rw [show (subTo cur sh m).set m ((subTo cur sh m)[m] - sh[m]) = subTo cur sh (m + 1) from by rw [hv]; exact subTo_set hc1l hmc]
   (refine ⟨m + 1, fun _ _ st => st_sub2 st ?_ ?_, ?_, ?_⟩; exact zR; exact zP)
   ·omega
   ·omega
  ·have hmm : m = sh.length := by simp at hlm; omega
   subst hmm
   rw [show subTo cur sh sh.length = subL cur sh from by rw [← hc1l]; exact subTo_all hc1l]
   have hb1 := hbt.subL hsb
   generalize hc1 : subL cur sh = c1 at *
   have hc1n : c1.length = f.ids.length := by rw [← hc1, subL_len hc1l, hcl]
   have hix : f.ids.idxOf f.bs[k].py < c1.length := by rw [hc1n]; exact List.idxOf_lt_length_of_mem hB.py
   have hq2 : c1[f.ids.idxOf f.bs[k].py]? = some c1[f.ids.idxOf f.bs[k].py] := List.getElem?_eq_getElem hix
   have hce := hb1.at hix
   have hb2 := hb1.addAt (f.ids.idxOf f.bs[k].py) (d := f.bs[k].pe) (a := 0) (b := 1000000) (by omega) (by omega) (by omega) (by omega) (by omega) (by omega)
   rw [addAt_at hix] at hb2 hnf
   refine zS ?_;repeat(refine yA ?_;intro p hp;refine zS ?_)
   refine W_run 12 [51, 52, 53, 54, 55, 56, 57, 58, 59, 60, 61, 62] [0, 1, 2, 3, 4, 5, 6, 7, 8, 9, 10, 11] Cut.nil rfl goFlt mixedS (by kernel_rfl) rfl ?_
   refine rpv [] [] ?_
   refine rpv [0] [] ?_
   refine rpv [1] [] ?_
   refine rpv [2] [] ?_
   refine rpv [] [] ?_
   refine rpv [] [] ?_
   refine rpv [5] [] ?_
   refine Run.pv [4, 6] [] rfl (fun vs => by apply ltr_pk; exact goPk; (apply ltr_callR ((indexAt_con ph ow f _ (by omega) hB.py)); exact rfl; exact zM)) goApp ?_
   refine rpv [3, 7] [] ?_
   refine rpv [8] [] ?_
   refine rpv [] [] ?_
   refine rpv [10] [] ?_
   refine ⟨⟨by kernel_rfl, by kernel_rfl⟩, fun vs => ?_⟩
   apply WL_auto [3, 7, 9, 11]
   ·exact goPk
   ·exact goNrm
   ·kernel_rfl
   ·kernel_rfl
   refine zS ?_;repeat(refine yA ?_;intro p hp;refine zS ?_)
   (refine ⟨(k + 1, c1.set (f.ids.idxOf f.bs[k].py) (c1[f.ids.idxOf f.bs[k].py] + f.bs[k].pe)), fun _ _ st => st_sub2 st ?_ ?_, ?_, ?_⟩; exact zR; exact zP)
   ·exact ⟨hlt', by dsimp only; rw [List.length_set]; exact hc1n, hnf, hb2.mono (by dsimp only; omega) (by dsimp only; omega)⟩
   ·dsimp only; omega
 ·have hkk : k = f.bs.length := by simp at hlt; omega
  subst hkk
  rw [List.drop_length, bilFold] at hnf
  have hO : owed8 f = payFold f.ids f.ps cur := by unfold owed8; rw [← hnf]
  unfold OpenP
  rw [hO]
  clear hnf hlt hk hO
  refine zS ?_;repeat(refine yA ?_;intro p hp;refine zS ?_)
  refine W_loopJ (fun (b : Nat × List Int) => ⟨[(1, .val pf), (5, .val p), (67, .sl 3 payC f.ps), (68, .val (.int .i64 f.ps.length)), (69, .val (.int .i64 b.1))], [.row ow 3 1 iC b.2, hsB p f ow, .box pf (flC f) 27, tab8]⟩)
   (fun b => b.1 ≤ f.ps.length ∧ b.2.length = f.ids.length ∧ payFold f.ids (f.ps.drop b.1) b.2 = payFold f.ids f.ps cur ∧ Btw (-(200000000 + 2000000 * b.1)) (200000000 + 2000000 * b.1) b.2) (fun b => f.ps.length - b.1) (0, cur) (fun _ _ st => st_sub2 st (by exact zR) (by exact zP)) ⟨Nat.zero_le _, hcl, rfl, hbt.mono (by dsimp only; omega) (by dsimp only; omega)⟩ ?_
  clear hbt hcl
  rintro ⟨k, cu⟩ ⟨hk, hcl, hnf, hbt⟩
  dsimp only at hk hcl hnf hbt ⊢
  refine zS ?_;repeat(refine yA ?_;intro p hp;refine zS ?_)
  refine w_cond rfl (fun hlt => ?_) (fun hlt => ?_)
  ·have hlt' : k < f.ps.length := by simpa using hlt
   have hP := hF.pay _ (List.getElem_mem hlt')
   rw [drop_step hlt', payFold] at hnf
   refine zS ?_;repeat(refine yA ?_;intro p hp;refine zS ?_)
   rename_i ph hph
   (apply wl_callP (paid_con ph ow f f.ps[k] cu (by omega) hP hcl hbt (by omega) (by omega)); exact rfl; exact yC; exact rfl)
   rintro _ _ ⟨rfl, rfl⟩
   refine zS ?_;repeat(refine yA ?_;intro p hp;refine zS ?_)
   (refine ⟨(k + 1, payStep f.ids f.ps[k] cu), fun _ _ st => st_sub2 st ?_ ?_, ?_, ?_⟩; exact zR; exact zP)
   ·exact ⟨hlt', by dsimp only; unfold payStep; rw [addAt_len, addAt_len]; exact hcl, hnf, (payStep_btw (by omega) hP.2.2.2.1 hP.2.2.2.2 hbt).mono (by dsimp only; omega) (by dsimp only; omega)⟩
   ·dsimp only; omega
  ·have hkk : k = f.ps.length := by simp at hlt; omega
   subst hkk
   rw [List.drop_length, payFold] at hnf
   rw [← hnf]
   refine zS ?_;repeat(refine yA ?_;intro p hp;refine zS ?_)
   (apply resK2; exact rfl; exact rfl; exact rfl; exact ⟨p, ow, rfl, rfl⟩; exact yC)
end Go.Proofs.YtihonljdanjfmaaGreatDoor.Sw
