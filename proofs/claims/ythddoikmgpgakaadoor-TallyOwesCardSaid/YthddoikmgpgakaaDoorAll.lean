/- Lists of tallies: 'all', 'checked'. -/
import Derived.Test.YthddoikmgpgakaaDoorProg
import Derived.Test.YthddoikmgpgakaaDoorBase
import Derived.Outline
import Derived.RangeFuncNested
import Derived.Shelf.Abstract
import Derived.Deep.QuietTactic
import Derived.BigQuiet
import Derived.Deep.RegionHeld3
import Derived.WalkSmall
import Derived.Laws.EntriesVeiled
import Derived.Test.YthddoikmgpgakaaDoorTl
namespace Go.Proofs.YthddoikmgpgakaaDoor
open Go.RowKit Go.Proofs Go.Shelf

/-- The error of a list of tallies. -/
def errAll (ts : List Tl) : Int := if 6 < ts.length then 2 else if ts.all Tl.ok then 0 else 70

set_option maxRecDepth 20000 in
theorem all_any (a : Option Addr) (c : Nat) (ts : List Tl) (w : World) (hl : ts.length ≤ 4000) (ht : Tab w) (hs : ∀ t ∈ ts, t.small) (h : RdT w a ts) :
    Calls Tryd.prog 79 #[.slice a ts.length c] w fun e w' => e = .returned (.int .i64 (errAll ts)) ∧ Below w.heap.size w w' := by
  have H := hid h; clear h
  have HT := hid ht; clear ht
  have HS := hid hs; clear hs
  by_cases h6 : (6 : Int) < (ts.length : Int)
  · go_enter Tryd.func79, Tryd.ntmps79
    go_wp2_with fail
    go_ret
    exact ⟨(congrArg (fun b => Ending.returned (Value.int .i64 b)) (by unfold errAll; rw [if_pos (by omega)])), Below.refl _ _⟩
  · have E : Hid (¬ 6 < ts.length) := by show ¬ 6 < ts.length; omega
    go_enter Tryd.func79, Tryd.ntmps79
    go_wp2_with fail
    go_loopw [11] (fun i wr => ∃ k : Nat, k ≤ ts.length ∧ i = .int .i64 k ∧ (ts.take k).all Tl.ok = true ∧ Below w.heap.size w wr) (fun i _ => (ts.length - (intOf i).toNat))
    case atStart => exact ⟨0, by omega, rfl, by simp, Below.refl _ _⟩
    case round =>
      obtain ⟨k, hk, rfl, hno, hb⟩ := hrel
      have Hno := hid hno; clear hno
      by_cases hlt : k < ts.length
      · obtain ⟨b, o, sa, sc, fa, fc, rfl, g0, g1, g2, g3, g4, g5⟩ := H.out.below hb k hlt
        have hbl := cell_lt g0
        have hsz := hb.size
        have HG4 := hid g4; have HG5 := hid g5; clear g4 g5
        go_wp2_with fail
        refine (check_any _ _ _ _ _ _ _ _ _ (HT.out.below (by repeat (first | (with_reducible exact Below.refl _ _) | (with_reducible assumption) | (with_reducible refine Below.drew ?_) | (with_reducible refine below_drewN ?_ _) | (with_reducible refine Below.alloc ?_ (by first | omega | (simp; done) | (simp; omega)) _) | (with_reducible refine Below.setCell ?_ (by first | omega | (simp; done) | (simp; omega)) _) | (with_reducible refine Below.trans ?_ (Below.mono (by assumption) (by first | omega | (simp; done) | (simp; omega))))))) (HS.out _ (List.getElem_mem hlt)).1 (HS.out _ (List.getElem_mem hlt)).2 (HG4.out.below (by repeat (first | (with_reducible exact Below.refl _ _) | (with_reducible assumption) | (with_reducible refine Below.drew ?_) | (with_reducible refine below_drewN ?_ _) | (with_reducible refine Below.alloc ?_ (by first | omega | (simp; done) | (simp; omega)) _) | (with_reducible refine Below.setCell ?_ (by first | omega | (simp; done) | (simp; omega)) _) | (with_reducible refine Below.trans ?_ (Below.mono (by assumption) (by first | omega | (simp; done) | (simp; omega))))))) (HG5.out.below (by repeat (first | (with_reducible exact Below.refl _ _) | (with_reducible assumption) | (with_reducible refine Below.drew ?_) | (with_reducible refine below_drewN ?_ _) | (with_reducible refine Below.alloc ?_ (by first | omega | (simp; done) | (simp; omega)) _) | (with_reducible refine Below.setCell ?_ (by first | omega | (simp; done) | (simp; omega)) _) | (with_reducible refine Below.trans ?_ (Below.mono (by assumption) (by first | omega | (simp; done) | (simp; omega)))))))).mono ?_
        rintro e w1 ⟨rfl, hb1⟩
        have hz1 := hb1.size; (try simp only [World.size_alloc] at hz1)
        by_cases hok : okT ts[k].id ts[k].hs ts[k].st ts[k].fo = true
        · have t1 : (errT (okT ts[k].id ts[k].hs ts[k].st ts[k].fo) != 0) = false := by rw [hok]; rfl
          have HK := hid hok; clear hok
          go_wp2_with fail
          go_roundw
          case rel =>
            refine ⟨k + 1, by omega, by go_num, ?_, (by repeat (first | (with_reducible exact Below.refl _ _) | (with_reducible assumption) | (with_reducible refine Below.drew ?_) | (with_reducible refine below_drewN ?_ _) | (with_reducible refine Below.alloc ?_ (by first | omega | (simp; done) | (simp; omega)) _) | (with_reducible refine Below.setCell ?_ (by first | omega | (simp; done) | (simp; omega)) _) | (with_reducible refine Below.trans ?_ (Below.mono (by assumption) (by first | omega | (simp; done) | (simp; omega))))))⟩
            rw [List.take_succ_eq_append_getElem hlt, List.all_append, Hno.out]
            simpa [Tl.ok] using HK.out
          case measure => simp [intOf]; omega
        · have hok' : okT ts[k].id ts[k].hs ts[k].st ts[k].fo = false := by simpa using hok
          have t1 : (errT (okT ts[k].id ts[k].hs ts[k].st ts[k].fo) != 0) = true := by rw [hok']; rfl
          have HK := hid hok'; clear hok hok'
          go_wp2_with fail
          go_ret
          refine ⟨(congrArg (fun b => Ending.returned (Value.int .i64 b)) ?_), (by repeat (first | (with_reducible exact Below.refl _ _) | (with_reducible assumption) | (with_reducible refine Below.drew ?_) | (with_reducible refine below_drewN ?_ _) | (with_reducible refine Below.alloc ?_ (by first | omega | (simp; done) | (simp; omega)) _) | (with_reducible refine Below.setCell ?_ (by first | omega | (simp; done) | (simp; omega)) _) | (with_reducible refine Below.trans ?_ (Below.mono (by assumption) (by first | omega | (simp; done) | (simp; omega))))))⟩
          have h2 : ts.all Tl.ok = false := List.all_eq_false.2 ⟨_, List.getElem_mem hlt, by simp [Tl.ok, HK.out]⟩
          rw [HK.out]; unfold errAll; rw [if_neg E.out, h2]; rfl
      · go_wp2_with fail
        go_ret
        refine ⟨(congrArg (fun b => Ending.returned (Value.int .i64 b)) ?_), hb⟩
        have : k = ts.length := by omega
        subst this
        have h2 := Hno.out
        rw [List.take_of_length_le (Nat.le_refl _)] at h2
        unfold errAll; rw [if_neg E.out, h2]; rfl

set_option maxRecDepth 20000 in
theorem checked_any (a : Option Addr) (c : Nat) (ts : List Tl) (w : World) (hl : ts.length ≤ 4000) (hs : ∀ t ∈ ts, t.small) (h : RdT w a ts) :
    Calls Tryd.prog 97 #[.slice a ts.length c] w fun e w' => e = .returned (.int .i64 (errAll ts)) ∧ Below w.heap.size w w' := by
  have H := hid h; clear h
  have HS := hid hs; clear hs
  by_cases h6 : (6 : Int) < (ts.length : Int)
  · go_enter Tryd.func97, Tryd.ntmps97
    go_wp2_with fail
    go_ret
    exact ⟨(congrArg (fun b => Ending.returned (Value.int .i64 b)) (by unfold errAll; rw [if_pos (by omega)])), Below.refl _ _⟩
  · have E : Hid (¬ 6 < ts.length) := by show ¬ 6 < ts.length; omega
    go_enter Tryd.func97, Tryd.ntmps97
    go_wp2_with fail
    go_loopw [10] (fun i wr => ∃ k : Nat, k ≤ ts.length ∧ i = .int .i64 k ∧ (ts.take k).all Tl.ok = true ∧ Below w.heap.size w wr) (fun i _ => (ts.length - (intOf i).toNat))
    case atStart => exact ⟨0, by omega, rfl, by simp, Below.refl _ _⟩
    case round =>
      obtain ⟨k, hk, rfl, hno, hb⟩ := hrel
      have Hno := hid hno; clear hno
      by_cases hlt : k < ts.length
      · obtain ⟨b, o, sa, sc, fa, fc, rfl, g0, g1, g2, g3, g4, g5⟩ := H.out.below hb k hlt
        have hbl := cell_lt g0
        have hsz := hb.size
        have HG4 := hid g4; have HG5 := hid g5; clear g4 g5
        go_wp2_with fail
        refine (tally_any _ _ _ _ _ _ _ _ _ (HS.out _ (List.getElem_mem hlt)).1 (HS.out _ (List.getElem_mem hlt)).2 (HG4.out.below (by repeat (first | (with_reducible exact Below.refl _ _) | (with_reducible assumption) | (with_reducible refine Below.drew ?_) | (with_reducible refine below_drewN ?_ _) | (with_reducible refine Below.alloc ?_ (by first | omega | (simp; done) | (simp; omega)) _) | (with_reducible refine Below.setCell ?_ (by first | omega | (simp; done) | (simp; omega)) _) | (with_reducible refine Below.trans ?_ (Below.mono (by assumption) (by first | omega | (simp; done) | (simp; omega))))))) (HG5.out.below (by repeat (first | (with_reducible exact Below.refl _ _) | (with_reducible assumption) | (with_reducible refine Below.drew ?_) | (with_reducible refine below_drewN ?_ _) | (with_reducible refine Below.alloc ?_ (by first | omega | (simp; done) | (simp; omega)) _) | (with_reducible refine Below.setCell ?_ (by first | omega | (simp; done) | (simp; omega)) _) | (with_reducible refine Below.trans ?_ (Below.mono (by assumption) (by first | omega | (simp; done) | (simp; omega)))))))).mono ?_
        rintro e w1 ⟨rfl, hb1⟩
        have hz1 := hb1.size; (try simp only [World.size_alloc] at hz1)
        by_cases hok : okT ts[k].id ts[k].hs ts[k].st ts[k].fo = true
        · have HK := hid hok
          go_wp2_with fail
          go_roundw
          case rel =>
            refine ⟨k + 1, by omega, by go_num, ?_, (by repeat (first | (with_reducible exact Below.refl _ _) | (with_reducible assumption) | (with_reducible refine Below.drew ?_) | (with_reducible refine below_drewN ?_ _) | (with_reducible refine Below.alloc ?_ (by first | omega | (simp; done) | (simp; omega)) _) | (with_reducible refine Below.setCell ?_ (by first | omega | (simp; done) | (simp; omega)) _) | (with_reducible refine Below.trans ?_ (Below.mono (by assumption) (by first | omega | (simp; done) | (simp; omega))))))⟩
            rw [List.take_succ_eq_append_getElem hlt, List.all_append, Hno.out]
            simpa [Tl.ok] using HK.out
          case measure => simp [intOf]; omega
        · have hok' : okT ts[k].id ts[k].hs ts[k].st ts[k].fo = false := by simpa using hok
          have HK := hid hok'; clear hok
          go_wp2_with fail
          go_ret
          refine ⟨(congrArg (fun b => Ending.returned (Value.int .i64 b)) ?_), (by repeat (first | (with_reducible exact Below.refl _ _) | (with_reducible assumption) | (with_reducible refine Below.drew ?_) | (with_reducible refine below_drewN ?_ _) | (with_reducible refine Below.alloc ?_ (by first | omega | (simp; done) | (simp; omega)) _) | (with_reducible refine Below.setCell ?_ (by first | omega | (simp; done) | (simp; omega)) _) | (with_reducible refine Below.trans ?_ (Below.mono (by assumption) (by first | omega | (simp; done) | (simp; omega))))))⟩
          have h2 : ts.all Tl.ok = false := List.all_eq_false.2 ⟨_, List.getElem_mem hlt, by simp [Tl.ok, HK.out]⟩
          unfold errAll; rw [if_neg E.out, h2]; rfl
      · go_wp2_with fail
        go_ret
        refine ⟨(congrArg (fun b => Ending.returned (Value.int .i64 b)) ?_), hb⟩
        have : k = ts.length := by omega
        subst this
        have h2 := Hno.out
        rw [List.take_of_length_le (Nat.le_refl _)] at h2
        unfold errAll; rw [if_neg E.out, h2]; rfl
end Go.Proofs.YthddoikmgpgakaaDoor
