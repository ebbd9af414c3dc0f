/- What a tally is asked: the program's table of checks, and the reference's 'Tally'. -/
import Derived.Test.YthddoikmgpgakaaDoorProg
import Derived.Test.YthddoikmgpgakaaDoorBase
import Derived.Outline
import Derived.RangeFuncNested
import Derived.Shelf.Abstract
import Derived.Deep.QuietTactic
import Derived.BigQuiet
import Derived.Deep.RegionHeld3
import Derived.WalkSmall
import Derived.Laws.EntriesVeiled
import Derived.Test.YthddoikmgpgakaaDoorLeaf
namespace Go.Proofs.YthddoikmgpgakaaDoor
open Go.RowKit Go.Proofs Go.Shelf

/-- Notches are kinds. -/
def okN (l : List Int) : Bool := l.all fun n => decide (1 ≤ n) && decide (n ≤ 4)
/-- A tally is valid. -/
def okT (id hs : Int) (st fo : List Int) : Bool := (decide (1 ≤ id) && decide (id ≤ 9999)) && (decide (1 ≤ hs) && decide (hs ≤ 9999)) && decide (st.length ≤ 12) && decide (fo.length ≤ 12) && okN st && okN fo

/-- The error of a tally that is valid, or not. -/
def errT (b : Bool) : Int := if b then 0 else 70
theorem errT_true : errT true = 0 := rfl
theorem errT_false : errT false = 70 := rfl

theorem notches_any (a : Option Addr) (c : Nat) (xs : List Int) (w : World) (hl : xs.length ≤ 4000) (h : RdI w a xs) :
    Calls Tryd.prog 75 #[.slice a xs.length c] w fun e w' => e = .returned (.bool (okN xs)) ∧ w = w' := by
  go_enter Tryd.func75, Tryd.ntmps75
  have H := hid h; clear h
  go_wp2_with fail
  go_loop [7] (fun i => ∃ k : Nat, k ≤ xs.length ∧ i = .int .i64 k ∧ okN (xs.take k) = true) (fun i => (xs.length - (intOf i).toNat))
  case atStart => exact ⟨0, by omega, rfl, by simp [okN]⟩
  case round =>
    obtain ⟨k, hk, rfl, hno⟩ := hrel
    have Hno := hid hno; clear hno
    by_cases hlt : k < xs.length
    · obtain ⟨b, o, rfl, hcell⟩ := H.out k hlt
      have hs : okN (xs.take (k + 1)) = (decide (1 ≤ xs[k]) && decide (xs[k] ≤ 4)) := by
        unfold okN
        rw [List.take_succ_eq_append_getElem hlt, List.all_append]
        have := Hno.out
        unfold okN at this
        simp [this]
      have HS := hid hs; clear hs
      by_cases ht : (decide (1 ≤ xs[k]) && decide (xs[k] ≤ 4)) = true
      · have HT := hid ht
        go_wp2_with (refine (within_any _ _ _ _).mono ?_; rintro e w' ⟨rfl, rfl⟩)
        go_round
        case rel => exact ⟨k + 1, by omega, by go_num, HS.out.trans HT.out⟩
        case measure => simp [intOf]; omega
      · have ht2 : (decide (1 ≤ xs[k]) && decide (xs[k] ≤ 4)) = false := by simpa using ht
        have HT := hid ht2
        clear ht
        go_wp2_with (refine (within_any _ _ _ _).mono ?_; rintro e w' ⟨rfl, rfl⟩)
        go_ret
        refine ⟨(congrArg (fun b => Ending.returned (Value.bool b)) ?_), rfl⟩
        have h1 := HS.out.trans HT.out
        unfold okN at h1 ⊢
        symm
        rw [List.all_eq_false] at h1 ⊢
        obtain ⟨x, hx, hx2⟩ := h1
        exact ⟨x, List.mem_of_mem_take hx, hx2⟩
    · go_wp2_with fail
      go_ret
      refine ⟨(congrArg (fun b => Ending.returned (Value.bool b)) ?_), rfl⟩
      have : k = xs.length := by omega
      subst this
      simpa using Hno.out.symm

theorem tally_any (id hs : Int) (st fo : List Int) (sa fa : Option Addr) (sc fc : Nat) (w : World)
    (hl : st.length ≤ 4000) (hl2 : fo.length ≤ 4000) (h1 : RdI w sa st) (h2 : RdI w fa fo) :
    Calls Tryd.prog 76 #[.agg #[.int .i64 id, .int .i64 hs, .slice sa st.length sc, .slice fa fo.length fc]] w fun e w' => e = .returned (.bool (okT id hs st fo)) ∧ Below w.heap.size w w' := by
  have HX := hid h1; clear h1
  have HY := hid h2; clear h2
  have H1 := hid hl; have H2 := hid hl2; clear hl hl2
  by_cases e1 : (decide (1 ≤ id) && decide (id ≤ 9999)) = true
  · by_cases e2 : (decide (1 ≤ hs) && decide (hs ≤ 9999)) = true
    · by_cases e3 : (st.length : Int) ≤ 12
      · have e3' : st.length ≤ 12 := by omega
        by_cases e4 : (fo.length : Int) ≤ 12
        · have e4' : fo.length ≤ 12 := by omega
          by_cases e5 : okN st = true
          · have E : Hid (okT id hs st fo = okN fo) := by
              show okT id hs st fo = okN fo
              unfold okT; rw [e1, e2, e5]; simp [e3', e4']
            go_enter Tryd.func76, Tryd.ntmps76; go_wp2_with (first | (refine (within_any _ _ _ _).mono ?_; rintro e w' ⟨rfl, rfl⟩) | (refine (notches_any _ _ _ _ (by first | exact H1.out | exact H2.out) (by first | exact HX.out.below (by repeat (first | (with_reducible exact Below.refl _ _) | (with_reducible assumption) | (with_reducible refine Below.drew ?_) | (with_reducible refine below_drewN ?_ _) | (with_reducible refine Below.alloc ?_ (by first | omega | (simp; done) | (simp; omega)) _) | (with_reducible refine Below.setCell ?_ (by first | omega | (simp; done) | (simp; omega)) _) | (with_reducible refine Below.trans ?_ (Below.mono (by assumption) (by first | omega | (simp; done) | (simp; omega)))))) | exact HY.out.below (by repeat (first | (with_reducible exact Below.refl _ _) | (with_reducible assumption) | (with_reducible refine Below.drew ?_) | (with_reducible refine below_drewN ?_ _) | (with_reducible refine Below.alloc ?_ (by first | omega | (simp; done) | (simp; omega)) _) | (with_reducible refine Below.setCell ?_ (by first | omega | (simp; done) | (simp; omega)) _) | (with_reducible refine Below.trans ?_ (Below.mono (by assumption) (by first | omega | (simp; done) | (simp; omega)))))))).mono ?_; rintro e w' ⟨rfl, rfl⟩)); go_ret
            exact ⟨(congrArg (fun b => Ending.returned (Value.bool b)) E.out.symm), (by repeat (first | (with_reducible exact Below.refl _ _) | (with_reducible assumption) | (with_reducible refine Below.drew ?_) | (with_reducible refine below_drewN ?_ _) | (with_reducible refine Below.alloc ?_ (by first | omega | (simp; done) | (simp; omega)) _) | (with_reducible refine Below.setCell ?_ (by first | omega | (simp; done) | (simp; omega)) _) | (with_reducible refine Below.trans ?_ (Below.mono (by assumption) (by first | omega | (simp; done) | (simp; omega))))))⟩
          · have e5' : okN st = false := by simpa using e5
            have E : Hid (okT id hs st fo = false) := by
              show okT id hs st fo = false
              unfold okT; rw [e5']; simp
            go_enter Tryd.func76, Tryd.ntmps76; go_wp2_with (first | (refine (within_any _ _ _ _).mono ?_; rintro e w' ⟨rfl, rfl⟩) | (refine (notches_any _ _ _ _ (by first | exact H1.out | exact H2.out) (by first | exact HX.out.below (by repeat (first | (with_reducible exact Below.refl _ _) | (with_reducible assumption) | (with_reducible refine Below.drew ?_) | (with_reducible refine below_drewN ?_ _) | (with_reducible refine Below.alloc ?_ (by first | omega | (simp; done) | (simp; omega)) _) | (with_reducible refine Below.setCell ?_ (by first | omega | (simp; done) | (simp; omega)) _) | (with_reducible refine Below.trans ?_ (Below.mono (by assumption) (by first | omega | (simp; done) | (simp; omega)))))) | exact HY.out.below (by repeat (first | (with_reducible exact Below.refl _ _) | (with_reducible assumption) | (with_reducible refine Below.drew ?_) | (with_reducible refine below_drewN ?_ _) | (with_reducible refine Below.alloc ?_ (by first | omega | (simp; done) | (simp; omega)) _) | (with_reducible refine Below.setCell ?_ (by first | omega | (simp; done) | (simp; omega)) _) | (with_reducible refine Below.trans ?_ (Below.mono (by assumption) (by first | omega | (simp; done) | (simp; omega)))))))).mono ?_; rintro e w' ⟨rfl, rfl⟩)); go_ret
            exact ⟨(congrArg (fun b => Ending.returned (Value.bool b)) E.out.symm), (by repeat (first | (with_reducible exact Below.refl _ _) | (with_reducible assumption) | (with_reducible refine Below.drew ?_) | (with_reducible refine below_drewN ?_ _) | (with_reducible refine Below.alloc ?_ (by first | omega | (simp; done) | (simp; omega)) _) | (with_reducible refine Below.setCell ?_ (by first | omega | (simp; done) | (simp; omega)) _) | (with_reducible refine Below.trans ?_ (Below.mono (by assumption) (by first | omega | (simp; done) | (simp; omega))))))⟩
        · have E : Hid (okT id hs st fo = false) := by
            show okT id hs st fo = false
            have e4' : ¬ fo.length ≤ 12 := by omega
            unfold okT; simp [e4']
          go_enter Tryd.func76, Tryd.ntmps76; go_wp2_with (first | (refine (within_any _ _ _ _).mono ?_; rintro e w' ⟨rfl, rfl⟩) | (refine (notches_any _ _ _ _ (by first | exact H1.out | exact H2.out) (by first | exact HX.out.below (by repeat (first | (with_reducible exact Below.refl _ _) | (with_reducible assumption) | (with_reducible refine Below.drew ?_) | (with_reducible refine below_drewN ?_ _) | (with_reducible refine Below.alloc ?_ (by first | omega | (simp; done) | (simp; omega)) _) | (with_reducible refine Below.setCell ?_ (by first | omega | (simp; done) | (simp; omega)) _) | (with_reducible refine Below.trans ?_ (Below.mono (by assumption) (by first | omega | (simp; done) | (simp; omega)))))) | exact HY.out.below (by repeat (first | (with_reducible exact Below.refl _ _) | (with_reducible assumption) | (with_reducible refine Below.drew ?_) | (with_reducible refine below_drewN ?_ _) | (with_reducible refine Below.alloc ?_ (by first | omega | (simp; done) | (simp; omega)) _) | (with_reducible refine Below.setCell ?_ (by first | omega | (simp; done) | (simp; omega)) _) | (with_reducible refine Below.trans ?_ (Below.mono (by assumption) (by first | omega | (simp; done) | (simp; omega)))))))).mono ?_; rintro e w' ⟨rfl, rfl⟩)); go_ret
          exact ⟨(congrArg (fun b => Ending.returned (Value.bool b)) E.out.symm), (by repeat (first | (with_reducible exact Below.refl _ _) | (with_reducible assumption) | (with_reducible refine Below.drew ?_) | (with_reducible refine below_drewN ?_ _) | (with_reducible refine Below.alloc ?_ (by first | omega | (simp; done) | (simp; omega)) _) | (with_reducible refine Below.setCell ?_ (by first | omega | (simp; done) | (simp; omega)) _) | (with_reducible refine Below.trans ?_ (Below.mono (by assumption) (by first | omega | (simp; done) | (simp; omega))))))⟩
      · have E : Hid (okT id hs st fo = false) := by
          show okT id hs st fo = false
          have e3' : ¬ st.length ≤ 12 := by omega
          unfold okT; simp [e3']
        go_enter Tryd.func76, Tryd.ntmps76; go_wp2_with (first | (refine (within_any _ _ _ _).mono ?_; rintro e w' ⟨rfl, rfl⟩) | (refine (notches_any _ _ _ _ (by first | exact H1.out | exact H2.out) (by first | exact HX.out.below (by repeat (first | (with_reducible exact Below.refl _ _) | (with_reducible assumption) | (with_reducible refine Below.drew ?_) | (with_reducible refine below_drewN ?_ _) | (with_reducible refine Below.alloc ?_ (by first | omega | (simp; done) | (simp; omega)) _) | (with_reducible refine Below.setCell ?_ (by first | omega | (simp; done) | (simp; omega)) _) | (with_reducible refine Below.trans ?_ (Below.mono (by assumption) (by first | omega | (simp; done) | (simp; omega)))))) | exact HY.out.below (by repeat (first | (with_reducible exact Below.refl _ _) | (with_reducible assumption) | (with_reducible refine Below.drew ?_) | (with_reducible refine below_drewN ?_ _) | (with_reducible refine Below.alloc ?_ (by first | omega | (simp; done) | (simp; omega)) _) | (with_reducible refine Below.setCell ?_ (by first | omega | (simp; done) | (simp; omega)) _) | (with_reducible refine Below.trans ?_ (Below.mono (by assumption) (by first | omega | (simp; done) | (simp; omega)))))))).mono ?_; rintro e w' ⟨rfl, rfl⟩)); go_ret
        exact ⟨(congrArg (fun b => Ending.returned (Value.bool b)) E.out.symm), (by repeat (first | (with_reducible exact Below.refl _ _) | (with_reducible assumption) | (with_reducible refine Below.drew ?_) | (with_reducible refine below_drewN ?_ _) | (with_reducible refine Below.alloc ?_ (by first | omega | (simp; done) | (simp; omega)) _) | (with_reducible refine Below.setCell ?_ (by first | omega | (simp; done) | (simp; omega)) _) | (with_reducible refine Below.trans ?_ (Below.mono (by assumption) (by first | omega | (simp; done) | (simp; omega))))))⟩
    · have e2' : (decide (1 ≤ hs) && decide (hs ≤ 9999)) = false := by simpa using e2
      have E : Hid (okT id hs st fo = false) := by
        show okT id hs st fo = false
        unfold okT; rw [e2']; simp
      clear e2
      go_enter Tryd.func76, Tryd.ntmps76; go_wp2_with (first | (refine (within_any _ _ _ _).mono ?_; rintro e w' ⟨rfl, rfl⟩) | (refine (notches_any _ _ _ _ (by first | exact H1.out | exact H2.out) (by first | exact HX.out.below (by repeat (first | (with_reducible exact Below.refl _ _) | (with_reducible assumption) | (with_reducible refine Below.drew ?_) | (with_reducible refine below_drewN ?_ _) | (with_reducible refine Below.alloc ?_ (by first | omega | (simp; done) | (simp; omega)) _) | (with_reducible refine Below.setCell ?_ (by first | omega | (simp; done) | (simp; omega)) _) | (with_reducible refine Below.trans ?_ (Below.mono (by assumption) (by first | omega | (simp; done) | (simp; omega)))))) | exact HY.out.below (by repeat (first | (with_reducible exact Below.refl _ _) | (with_reducible assumption) | (with_reducible refine Below.drew ?_) | (with_reducible refine below_drewN ?_ _) | (with_reducible refine Below.alloc ?_ (by first | omega | (simp; done) | (simp; omega)) _) | (with_reducible refine Below.setCell ?_ (by first | omega | (simp; done) | (simp; omega)) _) | (with_reducible refine Below.trans ?_ (Below.mono (by assumption) (by first | omega | (simp; done) | (simp; omega)))))))).mono ?_; rintro e w' ⟨rfl, rfl⟩)); go_ret
      exact ⟨(congrArg (fun b => Ending.returned (Value.bool b)) E.out.symm), (by repeat (first | (with_reducible exact Below.refl _ _) | (with_reducible assumption) | (with_reducible refine Below.drew ?_) | (with_reducible refine below_drewN ?_ _) | (with_reducible refine Below.alloc ?_ (by first | omega | (simp; done) | (simp; omega)) _) | (with_reducible refine Below.setCell ?_ (by first | omega | (simp; done) | (simp; omega)) _) | (with_reducible refine Below.trans ?_ (Below.mono (by assumption) (by first | omega | (simp; done) | (simp; omega))))))⟩
  · have e1' : (decide (1 ≤ id) && decide (id ≤ 9999)) = false := by simpa using e1
    have E : Hid (okT id hs st fo = false) := by
      show okT id hs st fo = false
      unfold okT; rw [e1']; simp
    clear e1
    go_enter Tryd.func76, Tryd.ntmps76; go_wp2_with (first | (refine (within_any _ _ _ _).mono ?_; rintro e w' ⟨rfl, rfl⟩) | (refine (notches_any _ _ _ _ (by first | exact H1.out | exact H2.out) (by first | exact HX.out.below (by repeat (first | (with_reducible exact Below.refl _ _) | (with_reducible assumption) | (with_reducible refine Below.drew ?_) | (with_reducible refine below_drewN ?_ _) | (with_reducible refine Below.alloc ?_ (by first | omega | (simp; done) | (simp; omega)) _) | (with_reducible refine Below.setCell ?_ (by first | omega | (simp; done) | (simp; omega)) _) | (with_reducible refine Below.trans ?_ (Below.mono (by assumption) (by first | omega | (simp; done) | (simp; omega)))))) | exact HY.out.below (by repeat (first | (with_reducible exact Below.refl _ _) | (with_reducible assumption) | (with_reducible refine Below.drew ?_) | (with_reducible refine below_drewN ?_ _) | (with_reducible refine Below.alloc ?_ (by first | omega | (simp; done) | (simp; omega)) _) | (with_reducible refine Below.setCell ?_ (by first | omega | (simp; done) | (simp; omega)) _) | (with_reducible refine Below.trans ?_ (Below.mono (by assumption) (by first | omega | (simp; done) | (simp; omega)))))))).mono ?_; rintro e w' ⟨rfl, rfl⟩)); go_ret
    exact ⟨(congrArg (fun b => Ending.returned (Value.bool b)) E.out.symm), (by repeat (first | (with_reducible exact Below.refl _ _) | (with_reducible assumption) | (with_reducible refine Below.drew ?_) | (with_reducible refine below_drewN ?_ _) | (with_reducible refine Below.alloc ?_ (by first | omega | (simp; done) | (simp; omega)) _) | (with_reducible refine Below.setCell ?_ (by first | omega | (simp; done) | (simp; omega)) _) | (with_reducible refine Below.trans ?_ (Below.mono (by assumption) (by first | omega | (simp; done) | (simp; omega))))))⟩

theorem refCheck_any (id hs : Int) (st fo : List Int) (sa fa : Option Addr) (sc fc : Nat) (w : World)
    (hl : st.length ≤ 4000) (hl2 : fo.length ≤ 4000) (h1 : RdI w sa st) (h2 : RdI w fa fo) :
    Calls Tryd.prog 37 #[.agg #[.int .i64 id, .int .i64 hs, .slice sa st.length sc, .slice fa fo.length fc]] w fun e w' => e = .returned (.int .i64 (errT (okT id hs st fo))) ∧ Below w.heap.size w w' := by
  have HX := hid h1; clear h1
  have HY := hid h2; clear h2
  go_enter Tryd.func37, Tryd.ntmps37
  go_wp2_with fail
  refine (tally_any _ _ _ _ _ _ _ _ _ hl hl2 (HX.out.below (by repeat (first | (with_reducible exact Below.refl _ _) | (with_reducible assumption) | (with_reducible refine Below.drew ?_) | (with_reducible refine below_drewN ?_ _) | (with_reducible refine Below.alloc ?_ (by first | omega | (simp; done) | (simp; omega)) _) | (with_reducible refine Below.setCell ?_ (by first | omega | (simp; done) | (simp; omega)) _) | (with_reducible refine Below.trans ?_ (Below.mono (by assumption) (by first | omega | (simp; done) | (simp; omega))))))) (HY.out.below (by repeat (first | (with_reducible exact Below.refl _ _) | (with_reducible assumption) | (with_reducible refine Below.drew ?_) | (with_reducible refine below_drewN ?_ _) | (with_reducible refine Below.alloc ?_ (by first | omega | (simp; done) | (simp; omega)) _) | (with_reducible refine Below.setCell ?_ (by first | omega | (simp; done) | (simp; omega)) _) | (with_reducible refine Below.trans ?_ (Below.mono (by assumption) (by first | omega | (simp; done) | (simp; omega)))))))).mono ?_
  rintro e w1 ⟨rfl, hb1⟩
  by_cases e1 : okT id hs st fo = true
  · go_wp2_with fail
    go_ret
    exact ⟨(congrArg (fun b => Ending.returned (Value.int .i64 b)) (by rw [e1]; rfl)), (by repeat (first | (with_reducible exact Below.refl _ _) | (with_reducible assumption) | (with_reducible refine Below.drew ?_) | (with_reducible refine below_drewN ?_ _) | (with_reducible refine Below.alloc ?_ (by first | omega | (simp; done) | (simp; omega)) _) | (with_reducible refine Below.setCell ?_ (by first | omega | (simp; done) | (simp; omega)) _) | (with_reducible refine Below.trans ?_ (Below.mono (by assumption) (by first | omega | (simp; done) | (simp; omega))))))⟩
  · have e1' : okT id hs st fo = false := by simpa using e1
    clear e1
    go_wp2_with fail
    go_ret
    exact ⟨(congrArg (fun b => Ending.returned (Value.int .i64 b)) (by rw [e1']; rfl)), (by repeat (first | (with_reducible exact Below.refl _ _) | (with_reducible assumption) | (with_reducible refine Below.drew ?_) | (with_reducible refine below_drewN ?_ _) | (with_reducible refine Below.alloc ?_ (by first | omega | (simp; done) | (simp; omega)) _) | (with_reducible refine Below.setCell ?_ (by first | omega | (simp; done) | (simp; omega)) _) | (with_reducible refine Below.trans ?_ (Below.mono (by assumption) (by first | omega | (simp; done) | (simp; omega))))))⟩

theorem kinds_any (a : Option Addr) (c : Nat) (xs : List Int) (w : World) (hl : xs.length ≤ 4000) (h : RdI w a xs) :
    Calls Tryd.prog 77 #[.slice a xs.length c] w fun e w' => e = .returned (.bool (okN xs)) ∧ Below w.heap.size w w' := by
  have H := hid h; clear h
  go_enter Tryd.func77, Tryd.ntmps77
  go_wp2_with fail
  refine (in_any 1 4 a c xs _ hl H.out).mono ?_
  rintro e w1 ⟨rfl, hb1⟩
  go_wp2_with fail
  go_ret
  exact ⟨rfl, (by repeat (first | (with_reducible exact Below.refl _ _) | (with_reducible assumption) | (with_reducible refine Below.drew ?_) | (with_reducible refine below_drewN ?_ _) | (with_reducible refine Below.alloc ?_ (by first | omega | (simp; done) | (simp; omega)) _) | (with_reducible refine Below.setCell ?_ (by first | omega | (simp; done) | (simp; omega)) _) | (with_reducible refine Below.trans ?_ (Below.mono (by assumption) (by first | omega | (simp; done) | (simp; omega))))))⟩

theorem checks1_any (id hs : Int) (sa fa : Option Addr) (n m sc fc : Nat) (w : World) :
    Calls Tryd.prog 164 #[.agg #[.int .i64 id, .int .i64 hs, .slice sa n sc, .slice fa m fc]] w fun e w' => e = .returned (.bool ((decide (1 ≤ id) && decide (id ≤ 9999)) && (decide (1 ≤ hs) && decide (hs ≤ 9999)))) ∧ Below w.heap.size w w' := by
  go_enter Tryd.func164, Tryd.ntmps164
  go_wp2_with fail
  refine (in_any 1 9999 _ _ [id, hs] _ (by simp) ?_).mono ?_
  · intro i hi
    match i, hi with
    | 0, _ => exact ⟨_, _, rfl, by simp [go_sem]⟩
    | 1, _ => exact ⟨_, _, rfl, by simp [go_sem]⟩
  rintro e w1 ⟨rfl, hb1⟩
  go_wp2_with fail
  go_ret
  exact ⟨(congrArg (fun b => Ending.returned (Value.bool b)) (by simp)), (by repeat (first | (with_reducible exact Below.refl _ _) | (with_reducible assumption) | (with_reducible refine Below.drew ?_) | (with_reducible refine below_drewN ?_ _) | (with_reducible refine Below.alloc ?_ (by first | omega | (simp; done) | (simp; omega)) _) | (with_reducible refine Below.setCell ?_ (by first | omega | (simp; done) | (simp; omega)) _) | (with_reducible refine Below.trans ?_ (Below.mono (by assumption) (by first | omega | (simp; done) | (simp; omega))))))⟩

theorem checks2_any (id hs : Int) (sa fa : Option Addr) (n m sc fc : Nat) (w : World) :
    Calls Tryd.prog 165 #[.agg #[.int .i64 id, .int .i64 hs, .slice sa n sc, .slice fa m fc]] w fun e w' => e = .returned (.bool (decide (n ≤ 12) && decide (m ≤ 12))) ∧ Below w.heap.size w w' := by
  by_cases e1 : (n : Int) ≤ 12
  · have e1' : n ≤ 12 := by omega
    go_enter Tryd.func165, Tryd.ntmps165
    go_wp2
    go_ret
    exact ⟨(congrArg (fun b => Ending.returned (Value.bool b)) (by simp [e1']; omega)), (by repeat (first | (with_reducible exact Below.refl _ _) | (with_reducible assumption) | (with_reducible refine Below.drew ?_) | (with_reducible refine below_drewN ?_ _) | (with_reducible refine Below.alloc ?_ (by first | omega | (simp; done) | (simp; omega)) _) | (with_reducible refine Below.setCell ?_ (by first | omega | (simp; done) | (simp; omega)) _) | (with_reducible refine Below.trans ?_ (Below.mono (by assumption) (by first | omega | (simp; done) | (simp; omega))))))⟩
  · have e1' : ¬ n ≤ 12 := by omega
    go_enter Tryd.func165, Tryd.ntmps165
    go_wp2
    go_ret
    exact ⟨(congrArg (fun b => Ending.returned (Value.bool b)) (by simp [e1'])), (by repeat (first | (with_reducible exact Below.refl _ _) | (with_reducible assumption) | (with_reducible refine Below.drew ?_) | (with_reducible refine below_drewN ?_ _) | (with_reducible refine Below.alloc ?_ (by first | omega | (simp; done) | (simp; omega)) _) | (with_reducible refine Below.setCell ?_ (by first | omega | (simp; done) | (simp; omega)) _) | (with_reducible refine Below.trans ?_ (Below.mono (by assumption) (by first | omega | (simp; done) | (simp; omega))))))⟩

theorem checks3_any (id hs : Int) (st fo : List Int) (sa fa : Option Addr) (sc fc : Nat) (w : World)
    (hl : st.length ≤ 4000) (hl2 : fo.length ≤ 4000) (h1 : RdI w sa st) (h2 : RdI w fa fo) :
    Calls Tryd.prog 166 #[.agg #[.int .i64 id, .int .i64 hs, .slice sa st.length sc, .slice fa fo.length fc]] w fun e w' => e = .returned (.bool (okN st && okN fo)) ∧ Below w.heap.size w w' := by
  have HX := hid h1; clear h1
  have HY := hid h2; clear h2
  go_enter Tryd.func166, Tryd.ntmps166
  go_wp2_with fail
  refine (kinds_any _ _ _ _ hl (HX.out.below (by repeat (first | (with_reducible exact Below.refl _ _) | (with_reducible assumption) | (with_reducible refine Below.drew ?_) | (with_reducible refine below_drewN ?_ _) | (with_reducible refine Below.alloc ?_ (by first | omega | (simp; done) | (simp; omega)) _) | (with_reducible refine Below.setCell ?_ (by first | omega | (simp; done) | (simp; omega)) _) | (with_reducible refine Below.trans ?_ (Below.mono (by assumption) (by first | omega | (simp; done) | (simp; omega)))))))).mono ?_
  rintro e w1 ⟨rfl, hb1⟩
  have hz1 := (hb1).size; (try simp only [World.size_alloc, World.size_setCell, World.size_drew, World.heap_drewN] at hz1); obtain ⟨hc1, hf1⟩ := bcell hb1
  by_cases e1 : okN st = true
  · go_wp2_with fail
    refine (kinds_any _ _ _ _ hl2 (HY.out.below (by repeat (first | (with_reducible exact Below.refl _ _) | (with_reducible assumption) | (with_reducible refine Below.drew ?_) | (with_reducible refine below_drewN ?_ _) | (with_reducible refine Below.alloc ?_ (by first | omega | (simp; done) | (simp; omega)) _) | (with_reducible refine Below.setCell ?_ (by first | omega | (simp; done) | (simp; omega)) _) | (with_reducible refine Below.trans ?_ (Below.mono (by assumption) (by first | omega | (simp; done) | (simp; omega)))))))).mono ?_
    rintro e w2 ⟨rfl, hb2⟩
    go_wp2_with fail
    go_ret
    exact ⟨(congrArg (fun b => Ending.returned (Value.bool b)) (by simp [e1])), (by repeat (first | (with_reducible exact Below.refl _ _) | (with_reducible assumption) | (with_reducible refine Below.drew ?_) | (with_reducible refine below_drewN ?_ _) | (with_reducible refine Below.alloc ?_ (by first | omega | (simp; done) | (simp; omega)) _) | (with_reducible refine Below.setCell ?_ (by first | omega | (simp; done) | (simp; omega)) _) | (with_reducible refine Below.trans ?_ (Below.mono (by assumption) (by first | omega | (simp; done) | (simp; omega))))))⟩
  · have e1' : okN st = false := by simpa using e1
    clear e1
    go_wp2_with fail
    go_ret
    exact ⟨(congrArg (fun b => Ending.returned (Value.bool b)) (by simp [e1'])), (by repeat (first | (with_reducible exact Below.refl _ _) | (with_reducible assumption) | (with_reducible refine Below.drew ?_) | (with_reducible refine below_drewN ?_ _) | (with_reducible refine Below.alloc ?_ (by first | omega | (simp; done) | (simp; omega)) _) | (with_reducible refine Below.setCell ?_ (by first | omega | (simp; done) | (simp; omega)) _) | (with_reducible refine Below.trans ?_ (Below.mono (by assumption) (by first | omega | (simp; done) | (simp; omega))))))⟩
end Go.Proofs.YthddoikmgpgakaaDoor
