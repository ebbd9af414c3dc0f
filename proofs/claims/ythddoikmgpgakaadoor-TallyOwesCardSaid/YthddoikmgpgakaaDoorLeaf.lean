/- The small functions of the tallies: what each returns. -/
import Derived.Test.YthddoikmgpgakaaDoorProg
import Derived.Test.YthddoikmgpgakaaDoorBase
import Derived.Outline
import Derived.RangeFuncNested
import Derived.Shelf.Abstract
import Derived.Deep.QuietTactic
import Derived.BigQuiet
import Derived.Deep.RegionHeld3
import Derived.WalkSmall
import Derived.Laws.EntriesVeiled
namespace Go.Proofs.YthddoikmgpgakaaDoor
open Go.RowKit Go.Proofs Go.Shelf

theorem within_any (n lo hi : Int) (w : World) :
    Calls Tryd.prog 78 #[.int .i64 n, .int .i64 lo, .int .i64 hi] w fun e w' => e = .returned (.bool (decide (lo ≤ n) && decide (n ≤ hi))) ∧ w = w' := by
  go_enter Tryd.func78, Tryd.ntmps78
  go_wp2
  all_goals
    go_ret
    exact ⟨(congrArg (fun b => Ending.returned (Value.bool b)) (by first | rfl | (simp [*]; done) | (simp [*]; omega) | (simp_all; done) | (simp_all; omega))), rfl⟩

theorem great_any (id hs : Int) (sa : Option Addr) (n sc : Nat) (fa : Option Addr) (m fc : Nat) (w : World) :
    Calls Tryd.prog 18 #[.agg #[.int .i64 id, .int .i64 hs, .slice sa n sc, .slice fa m fc]] w fun e w' => e = .returned (.bool (decide ((30 : Int) < (n : Int)) || decide ((30 : Int) < (m : Int)))) ∧ Below w.heap.size w w' := by
  go_enter Tryd.func18, Tryd.ntmps18
  go_wp2
  all_goals
    go_ret
    exact ⟨(congrArg (fun b => Ending.returned (Value.bool b)) (by first | rfl | (simp [*]; done) | (simp [*]; omega) | (simp_all; done) | (simp_all; omega))), (by repeat (first | (with_reducible exact Below.refl _ _) | (with_reducible assumption) | (with_reducible refine Below.drew ?_) | (with_reducible refine below_drewN ?_ _) | (with_reducible refine Below.alloc ?_ (by first | omega | (simp; done) | (simp; omega)) _) | (with_reducible refine Below.setCell ?_ (by first | omega | (simp; done) | (simp; omega)) _) | (with_reducible refine Below.trans ?_ (Below.mono (by assumption) (by first | omega | (simp; done) | (simp; omega))))))⟩

theorem in1_any (n lo hi : Int) (p q : Addr) (w : World) (hp : w.cell? p = some (.int .i64 lo)) (hq : w.cell? q = some (.int .i64 hi)) :
    Calls Tryd.prog 105 #[.int .i64 n, .pointer (some p), .pointer (some q)] w fun e w' => e = .returned (.bool (decide (n < lo) || decide (hi < n))) ∧ w = w' := by
  go_enter Tryd.func105, Tryd.ntmps105
  go_wp2
  all_goals
    go_ret
    exact ⟨(congrArg (fun b => Ending.returned (Value.bool b)) (by first | rfl | (simp [*]; done) | (simp [*]; omega) | (simp_all; done) | (simp_all; omega))), rfl⟩

/-- 'slices.IndexFunc' at numbers: not below 0 if and only if the predicate holds of one. -/
def FindIs (f : Int → Bool) (xs : List Int) (e : Ending) : Prop := ∃ n : Int, e = .returned (.int .i64 n) ∧ ((0 ≤ n ∧ xs.any f = true) ∨ (n = -1 ∧ xs.any f = false))

theorem index_any (a : Option Addr) (c : Nat) (xs : List Int) (k : FuncId) (caps : Array Value) (f : Int → Bool) (w : World) (hl : xs.length ≤ 4000) (h : RdI w a xs)
    (eg : ∀ args w, (callFunc k args).run Tryd.prog w = .ok (.enter k args) w)
    (hc : ∀ x, Calls Tryd.prog k (#[.int .i64 x] ++ caps) w fun e w' => e = .returned (.bool (f x)) ∧ w = w') :
    Calls Tryd.prog 124 #[.slice a xs.length c, .func (.func k) #[] caps] w fun e w' => FindIs f xs e ∧ w = w' := by
  go_enter Tryd.func124, Tryd.ntmps124
  have H := hid h; clear h
  have HC := hid hc; clear hc
  go_wp2_with fail
  go_loop [8] (fun i => ∃ k : Nat, k ≤ xs.length ∧ i = .int .i64 k ∧ ∀ x, x ∈ xs.take k → f x = false) (fun i => (xs.length - (intOf i).toNat))
  case atStart => exact ⟨0, by omega, rfl, by simp⟩
  case round =>
    obtain ⟨k, hk, rfl, hno⟩ := hrel
    have Hno := hid hno; clear hno
    by_cases hlt : k < xs.length
    · obtain ⟨b, o, rfl, hcell⟩ := H.out k hlt
      go_wp2_with (refine (HC.out _).mono ?_; rintro e w' ⟨rfl, rfl⟩)
      · rename_i hf
        go_ret
        exact ⟨⟨k, rfl, .inl ⟨by omega, List.any_eq_true.2 ⟨_, List.getElem_mem hlt, hf⟩⟩⟩, rfl⟩
      · rename_i hf
        go_round
        case rel =>
          refine ⟨k + 1, by omega, by go_num, fun x hx => ?_⟩
          rw [List.take_succ_eq_append_getElem hlt] at hx
          rcases List.mem_append.1 hx with h1 | h1
          · exact Hno.out x h1
          · rw [List.mem_singleton.1 h1]; exact hf
        case measure => simp [intOf]; omega
    · go_wp2_with fail
      go_ret
      refine ⟨⟨_, rfl, .inr ⟨rfl, ?_⟩⟩, rfl⟩
      rw [List.any_eq_false]
      intro x hx
      have : k = xs.length := by omega
      subst this
      simpa using Hno.out x (by simpa using hx)

theorem contains_any (a : Option Addr) (c : Nat) (xs : List Int) (k : FuncId) (caps : Array Value) (f : Int → Bool) (w : World) (hl : xs.length ≤ 4000) (h : RdI w a xs)
    (eg : ∀ args w, (callFunc k args).run Tryd.prog w = .ok (.enter k args) w)
    (hc : ∀ x, Calls Tryd.prog k (#[.int .i64 x] ++ caps) w fun e w' => e = .returned (.bool (f x)) ∧ w = w') :
    Calls Tryd.prog 104 #[.slice a xs.length c, .func (.func k) #[] caps] w fun e w' => e = .returned (.bool (xs.any f)) ∧ w = w' := by
  go_enter Tryd.func104, Tryd.ntmps104
  have H := hid h; clear h
  have HC := hid hc; clear hc
  have HE := hid eg; clear eg
  go_wp2_with fail
  refine (index_any a c xs k caps f w hl H.out HE.out HC.out).mono ?_
  rintro e w' ⟨⟨n, rfl, hn⟩, rfl⟩
  rcases hn with ⟨h1, h2⟩ | ⟨h1, h2⟩
  · go_wp2_with fail
    go_ret
    exact ⟨(congrArg (fun b => Ending.returned (Value.bool b)) (by simp [h2])), rfl⟩
  · subst h1
    go_wp2_with fail
    go_ret
    exact ⟨(congrArg (fun b => Ending.returned (Value.bool b)) (by simp [h2])), rfl⟩

theorem in_any (lo hi : Int) (a : Option Addr) (c : Nat) (xs : List Int) (w : World) (hl : xs.length ≤ 4000) (h : RdI w a xs) :
    Calls Tryd.prog 82 #[.int .i64 lo, .int .i64 hi, .slice a xs.length c] w fun e w' => e = .returned (.bool (xs.all fun n => decide (lo ≤ n) && decide (n ≤ hi))) ∧ Below w.heap.size w w' := by
  have hall : (!xs.any fun n => (decide (n < lo) || decide (hi < n))) = xs.all fun n => decide (lo ≤ n) && decide (n ≤ hi) := by
    rw [List.not_any_eq_all_not]
    congr 1; funext n
    by_cases h1 : n < lo <;> by_cases h2 : hi < n <;> simp [h1, h2] <;> omega
  have HA := hid hall; clear hall
  go_enter Tryd.func82, Tryd.ntmps82
  have H := hid h; clear h
  go_wp2_with fail
  refine (contains_any a c xs _ _ (fun n => (decide (n < lo) || decide (hi < n))) _ hl ((H.out.alloc _).alloc _) ?_ ?_).mono ?_
  · exact enters_of Tryd.func105 (by kernel_rfl) rfl
  · intro x
    exact in1_any x lo hi _ _ _ (by simp) (by simp)
  · rintro e w' ⟨rfl, rfl⟩
    go_wp2_with fail
    go_ret
    exact ⟨(congrArg (fun b => Ending.returned (Value.bool b)) HA.out), (by repeat (first | (with_reducible exact Below.refl _ _) | (with_reducible assumption) | (with_reducible refine Below.drew ?_) | (with_reducible refine below_drewN ?_ _) | (with_reducible refine Below.alloc ?_ (by first | omega | (simp; done) | (simp; omega)) _) | (with_reducible refine Below.setCell ?_ (by first | omega | (simp; done) | (simp; omega)) _) | (with_reducible refine Below.trans ?_ (Below.mono (by assumption) (by first | omega | (simp; done) | (simp; omega))))))⟩
end Go.Proofs.YthddoikmgpgakaaDoor
