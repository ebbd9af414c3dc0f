/- Comparing lists and tallies. -/
import Derived.Test.YthddoikmgpgakaaDoorProg
import Derived.Test.YthddoikmgpgakaaDoorBase
import Derived.Outline
import Derived.RangeFuncNested
import Derived.Shelf.Abstract
import Derived.Deep.QuietTactic
import Derived.BigQuiet
import Derived.Deep.RegionHeld3
import Derived.WalkSmall
import Derived.Laws.EntriesVeiled
import Derived.Test.YthddoikmgpgakaaDoorLeaf
namespace Go.Proofs.YthddoikmgpgakaaDoor
open Go.RowKit Go.Proofs Go.Shelf

theorem take_succ_eq {α : Type} [DecidableEq α] {xs ys : List α} {k : Nat} (h : xs.take k = ys.take k) (hx : k < xs.length) (hy : k < ys.length) (e : xs[k] = ys[k]) : xs.take (k + 1) = ys.take (k + 1) := by
  rw [List.take_succ_eq_append_getElem hx, List.take_succ_eq_append_getElem hy, h, e]

theorem sameInts_any (a b : Option Addr) (c d : Nat) (xs ys : List Int) (w : World) (hl : xs.length ≤ 4000) (hx : RdI w a xs) (hy : RdI w b ys) :
    Calls Tryd.prog 81 #[.slice a xs.length c, .slice b ys.length d] w fun e w' => e = .returned (.bool (decide (xs = ys))) ∧ Below w.heap.size w w' := by
  by_cases hlen : xs.length = ys.length
  · have hlb : ((xs.length : Int) != (ys.length : Int)) = false := by simp [hlen]
    have HX := hid hx; clear hx
    have HY := hid hy; clear hy
    have HL := hid hlen; clear hlen
    go_enter Tryd.func81, Tryd.ntmps81
    go_wp2_with fail
    clear hlb
    go_loopw [5] (fun i wr => ∃ k : Nat, k ≤ xs.length ∧ i = .int .i64 k ∧ xs.take k = ys.take k ∧ Below w.heap.size w wr) (fun i _ => (xs.length - (intOf i).toNat))
    case atStart => exact ⟨0, by omega, rfl, by simp, Below.refl _ _⟩
    case round =>
      obtain ⟨k, hk, rfl, hno, hb⟩ := hrel
      have Hno := hid hno; clear hno
      by_cases hlt : k < xs.length
      · have hlt2 : k < ys.length := by have := HL.out; omega
        obtain ⟨b1, o1, rfl, hc1⟩ := HX.out.below hb k hlt
        obtain ⟨b2, o2, rfl, hc2⟩ := HY.out.below hb k hlt2
        have hi : (k : Int) < (xs.length : Int) := by omega
        have hi2 : (k : Int) < (ys.length : Int) := by omega
        go_wp2_with fail
        go_quiet (fail)
        go_wp2_with fail
        · rename_i hne
          go_ret
          refine ⟨(congrArg (fun b => Ending.returned (Value.bool b)) ?_), (by repeat (first | (with_reducible exact Below.refl _ _) | (with_reducible assumption) | (with_reducible refine Below.drew ?_) | (with_reducible refine below_drewN ?_ _) | (with_reducible refine Below.alloc ?_ (by first | omega | (simp; done) | (simp; omega)) _) | (with_reducible refine Below.setCell ?_ (by first | omega | (simp; done) | (simp; omega)) _) | (with_reducible refine Below.trans ?_ (Below.mono (by assumption) (by first | omega | (simp; done) | (simp; omega))))))⟩
          have hxy : xs ≠ ys := by
            rintro rfl
            simp at hne
          simp [hxy]
        · rename_i heq
          go_roundw
          case rel => exact ⟨k + 1, by omega, by go_num, take_succ_eq Hno.out hlt hlt2 (by simpa using heq), (by repeat (first | (with_reducible exact Below.refl _ _) | (with_reducible assumption) | (with_reducible refine Below.drew ?_) | (with_reducible refine below_drewN ?_ _) | (with_reducible refine Below.alloc ?_ (by first | omega | (simp; done) | (simp; omega)) _) | (with_reducible refine Below.setCell ?_ (by first | omega | (simp; done) | (simp; omega)) _) | (with_reducible refine Below.trans ?_ (Below.mono (by assumption) (by first | omega | (simp; done) | (simp; omega))))))⟩
          case measure => simp [intOf]; omega
      · go_wp2_with fail
        go_ret
        refine ⟨(congrArg (fun b => Ending.returned (Value.bool b)) ?_), hb⟩
        have h1 : k = xs.length := by omega
        subst h1
        have h2 := Hno.out
        rw [List.take_of_length_le (Nat.le_refl _), List.take_of_length_le (by rw [HL.out]; exact Nat.le_refl _)] at h2
        simp [h2]
  · have hlb : ((xs.length : Int) != (ys.length : Int)) = true := by simp; omega
    go_enter Tryd.func81, Tryd.ntmps81
    go_wp2_with fail
    go_ret
    refine ⟨(congrArg (fun b => Ending.returned (Value.bool b)) ?_), Below.refl _ _⟩
    have hxy : xs ≠ ys := by rintro rfl; exact hlen rfl
    simp [hxy]

theorem sameInts7_any (a b : Option Addr) (c d : Nat) (xs ys : List Int) (w : World) (hl : xs.length ≤ 4000) (hx : RdI w a xs) (hy : RdI w b ys) :
    Calls Tryd.prog 39 #[.slice a xs.length c, .slice b ys.length d] w fun e w' => e = .returned (.bool (decide (xs = ys))) ∧ Below w.heap.size w w' := by
  have HX := hid hx; clear hx
  have HY := hid hy; clear hy
  go_enter Tryd.func39, Tryd.ntmps39
  go_wp2_with fail
  refine (sameInts_any a b c d xs ys _ hl HX.out HY.out).mono ?_
  rintro e w' ⟨rfl, hb⟩
  go_wp2_with fail
  go_ret
  exact ⟨rfl, hb⟩

/-- What 'Same' answers of two tallies. -/
def sameT (id hs id' hs' : Int) (st fo st' fo' : List Int) : Bool := id == id' && hs == hs' && decide (st = st') && decide (fo = fo')

theorem same_any (id hs id' hs' : Int) (st fo st' fo' : List Int) (sa fa sa' fa' : Option Addr) (sc fc sc' fc' : Nat) (w : World)
    (hl : st.length ≤ 4000) (hl2 : fo.length ≤ 4000) (h1 : RdI w sa st) (h2 : RdI w fa fo) (h3 : RdI w sa' st') (h4 : RdI w fa' fo') :
    Calls Tryd.prog 24 #[.agg #[.int .i64 id, .int .i64 hs, .slice sa st.length sc, .slice fa fo.length fc], .agg #[.int .i64 id', .int .i64 hs', .slice sa' st'.length sc', .slice fa' fo'.length fc']] w fun e w' => e = .returned (.bool (sameT id hs id' hs' st fo st' fo')) ∧ Below w.heap.size w w' := by
  have HX := hid h1; clear h1
  have HY := hid h2; clear h2
  have HZ := hid h3; clear h3
  have HU := hid h4; clear h4
  have H1 := hid hl; have H2 := hid hl2; clear hl hl2
  by_cases e1 : id = id'
  · by_cases e2 : hs = hs'
    · have E : Hid (id = id' ∧ hs = hs') := ⟨e1, e2⟩
      have t1 : (id == id') = true := by simp [e1]
      have t2 : (hs == hs') = true := by simp [e2]
      clear e1 e2
      go_enter Tryd.func24, Tryd.ntmps24
      go_wp2_with fail
      clear t1 t2
      refine (sameInts_any _ _ _ _ _ _ _ H1.out (HX.out.below (by repeat (first | (with_reducible exact Below.refl _ _) | (with_reducible assumption) | (with_reducible refine Below.drew ?_) | (with_reducible refine below_drewN ?_ _) | (with_reducible refine Below.alloc ?_ (by first | omega | (simp; done) | (simp; omega)) _) | (with_reducible refine Below.setCell ?_ (by first | omega | (simp; done) | (simp; omega)) _) | (with_reducible refine Below.trans ?_ (Below.mono (by assumption) (by first | omega | (simp; done) | (simp; omega))))))) (HZ.out.below (by repeat (first | (with_reducible exact Below.refl _ _) | (with_reducible assumption) | (with_reducible refine Below.drew ?_) | (with_reducible refine below_drewN ?_ _) | (with_reducible refine Below.alloc ?_ (by first | omega | (simp; done) | (simp; omega)) _) | (with_reducible refine Below.setCell ?_ (by first | omega | (simp; done) | (simp; omega)) _) | (with_reducible refine Below.trans ?_ (Below.mono (by assumption) (by first | omega | (simp; done) | (simp; omega)))))))).mono ?_
      rintro e w1 ⟨rfl, hb1⟩
      have hz1 := (hb1).size; (try simp only [World.size_alloc, World.size_setCell, World.size_drew, World.heap_drewN] at hz1); obtain ⟨hc1, hf1⟩ := bcell hb1
      by_cases e3 : st = st'
      · have E3 := hid e3
        have t3 : decide (st = st') = true := by simp [e3]
        clear e3
        go_wp2_with fail
        refine (sameInts_any _ _ _ _ _ _ _ H2.out (HY.out.below (by repeat (first | (with_reducible exact Below.refl _ _) | (with_reducible assumption) | (with_reducible refine Below.drew ?_) | (with_reducible refine below_drewN ?_ _) | (with_reducible refine Below.alloc ?_ (by first | omega | (simp; done) | (simp; omega)) _) | (with_reducible refine Below.setCell ?_ (by first | omega | (simp; done) | (simp; omega)) _) | (with_reducible refine Below.trans ?_ (Below.mono (by assumption) (by first | omega | (simp; done) | (simp; omega))))))) (HU.out.below (by repeat (first | (with_reducible exact Below.refl _ _) | (with_reducible assumption) | (with_reducible refine Below.drew ?_) | (with_reducible refine below_drewN ?_ _) | (with_reducible refine Below.alloc ?_ (by first | omega | (simp; done) | (simp; omega)) _) | (with_reducible refine Below.setCell ?_ (by first | omega | (simp; done) | (simp; omega)) _) | (with_reducible refine Below.trans ?_ (Below.mono (by assumption) (by first | omega | (simp; done) | (simp; omega)))))))).mono ?_
        rintro e w2 ⟨rfl, hb2⟩
        have hz2 := (hb2).size; (try simp only [World.size_alloc, World.size_setCell, World.size_drew, World.heap_drewN] at hz2); obtain ⟨hc2, hf2⟩ := bcell hb2
        go_wp2_with fail
        go_ret
        exact ⟨(congrArg (fun b => Ending.returned (Value.bool b)) (by simp [sameT, E.out.1, E.out.2, E3.out])), (by repeat (first | (with_reducible exact Below.refl _ _) | (with_reducible assumption) | (with_reducible refine Below.drew ?_) | (with_reducible refine below_drewN ?_ _) | (with_reducible refine Below.alloc ?_ (by first | omega | (simp; done) | (simp; omega)) _) | (with_reducible refine Below.setCell ?_ (by first | omega | (simp; done) | (simp; omega)) _) | (with_reducible refine Below.trans ?_ (Below.mono (by assumption) (by first | omega | (simp; done) | (simp; omega))))))⟩
      · have t3 : decide (st = st') = false := by simp [e3]
        have E3 := hid e3
        clear e3
        go_wp2_with fail
        go_ret
        exact ⟨(congrArg (fun b => Ending.returned (Value.bool b)) (by simp [sameT, E3.out])), (by repeat (first | (with_reducible exact Below.refl _ _) | (with_reducible assumption) | (with_reducible refine Below.drew ?_) | (with_reducible refine below_drewN ?_ _) | (with_reducible refine Below.alloc ?_ (by first | omega | (simp; done) | (simp; omega)) _) | (with_reducible refine Below.setCell ?_ (by first | omega | (simp; done) | (simp; omega)) _) | (with_reducible refine Below.trans ?_ (Below.mono (by assumption) (by first | omega | (simp; done) | (simp; omega))))))⟩
    · have t1 : (id == id') = true := by simp [e1]
      have t2 : (hs == hs') = false := by simp [e2]
      clear e1
      go_enter Tryd.func24, Tryd.ntmps24
      go_wp2_with fail
      go_ret
      exact ⟨(congrArg (fun b => Ending.returned (Value.bool b)) (by simp [sameT, e2])), (by repeat (first | (with_reducible exact Below.refl _ _) | (with_reducible assumption) | (with_reducible refine Below.drew ?_) | (with_reducible refine below_drewN ?_ _) | (with_reducible refine Below.alloc ?_ (by first | omega | (simp; done) | (simp; omega)) _) | (with_reducible refine Below.setCell ?_ (by first | omega | (simp; done) | (simp; omega)) _) | (with_reducible refine Below.trans ?_ (Below.mono (by assumption) (by first | omega | (simp; done) | (simp; omega))))))⟩
  · have t1 : (id == id') = false := by simp [e1]
    go_enter Tryd.func24, Tryd.ntmps24
    go_wp2_with fail
    go_ret
    exact ⟨(congrArg (fun b => Ending.returned (Value.bool b)) (by simp [sameT, e1])), (by repeat (first | (with_reducible exact Below.refl _ _) | (with_reducible assumption) | (with_reducible refine Below.drew ?_) | (with_reducible refine below_drewN ?_ _) | (with_reducible refine Below.alloc ?_ (by first | omega | (simp; done) | (simp; omega)) _) | (with_reducible refine Below.setCell ?_ (by first | omega | (simp; done) | (simp; omega)) _) | (with_reducible refine Below.trans ?_ (Below.mono (by assumption) (by first | omega | (simp; done) | (simp; omega))))))⟩
end Go.Proofs.YthddoikmgpgakaaDoor
