/- Floors as they read; the reference's 'Floor', 'within', 'bill', 'payment', 'earlier', 'Floors'. -/
import Derived.Test.YtbkellknlcageaaDoorSwF
import Derived.Test.YtbkellknlcageaaDoorTy8
import Derived.WalkSmall
import Derived.Shelf.Abstract
import Derived.Laws.EntriesVeiled
namespace Go.Proofs.YtbkellknlcageaaDoor.Sw
open Go.RowKit Go Go.Shelf Go.Proofs

theorem mixedS : Tryd.prog.follows .mixedOrders = true := by kernel_rfl
structure Pay where
  a : Int
  b : Int
  p : Int
deriving DecidableEq
structure Qu where
  a : Int
  b : Int
deriving DecidableEq
structure Stk where
  fl : Int
  pt : Int
deriving DecidableEq
structure Bil where
  no : Int
  py : Int
  pe : Int
  st : List Stk
deriving DecidableEq
structure Flo where
  ids : List Int
  qs : List Qu
  bs : List Bil
  ps : List Pay
deriving DecidableEq
def payC (x : Pay) : List AV := [.val (.int .i64 x.a), .val (.int .i64 x.b), .val (.int .i64 x.p)]
def quC (x : Qu) : List AV := [.val (.int .i64 x.a), .val (.int .i64 x.b)]
def stC (x : Stk) : List AV := [.val (.int .i64 x.fl), .val (.int .i64 x.pt)]
def biC (x : Bil) : List AV := [.val (.int .i64 x.no), .val (.int .i64 x.py), .val (.int .i64 x.pe), .sl 2 stC x.st]
def flC (x : Flo) : List AV := [.sl 1 iC x.ids, .sl 2 quC x.qs, .sl 4 biC x.bs, .sl 3 payC x.ps]
instance {x : Pay} : OneL (payC x) := inferInstanceAs (OneL [_, _, _])
instance {x : Qu} : OneL (quC x) := inferInstanceAs (OneL [_, _])
instance {x : Stk} : OneL (stC x) := inferInstanceAs (OneL [_, _])
instance {x : Bil} : OneL (biC x) := inferInstanceAs (OneL [_, _, _, _])
instance {x : Flo} : OneL (flC x) := inferInstanceAs (OneL [_, _, _, _])
instance : OneF payC := ⟨fun _ => inferInstance⟩
instance : OneF quC := ⟨fun _ => inferInstance⟩
instance : OneF stC := ⟨fun _ => inferInstance⟩
instance : OneF biC := ⟨fun _ => inferInstance⟩
instance : LenF payC 3 := ⟨fun _ => rfl⟩
instance : LenF quC 2 := ⟨fun _ => rfl⟩
instance : LenF stC 2 := ⟨fun _ => rfl⟩
instance : LenF biC 4 := ⟨fun _ => rfl⟩

/-- The index of a number; -1 if there is none. -/
def ixOf (l : List Int) (x : Int) : Int := if x ∈ l then (l.idxOf x : Int) else -1
theorem ixOf_none {l : List Int} {x : Int} (h : x ∉ l) : ixOf l x = -1 := if_neg h
theorem ixOf_at {l : List Int} {x : Int} {k : Nat} (hk : k < l.length) (h1 : x ∉ l.take k) (h2 : l[k] = x) : ixOf l x = k := by
  have e : l = l.take k ++ l[k] :: l.drop (k + 1) := by rw [← List.drop_eq_getElem_cons hk, List.take_append_drop]
  unfold ixOf
  rw [if_pos (h2 ▸ List.getElem_mem hk)]
  congr 1
  conv => lhs; rw [e]
  rw [List.idxOf_append, if_neg h1, h2, List.idxOf_cons_self, List.length_take]
  omega
set_option maxRecDepth 20000 in
theorem floor_con (f : Flo) (id : Int) (hl : f.ids.length ≤ 1000000) : Con Tryd.prog 64 [.agg (flC f), .val (.int .i64 id)] [] (Is (.val (.int .i64 (ixOf f.ids id))) []) := by
  refine con_of Tryd.func64 rfl (enters_of Tryd.func64 (by kernel_rfl) rfl) rfl ?_; intro n w0 F0 G0
  (refine W_seq ?_; refine W_region ?_; (apply wl_boxv; exact rfl; exact inferInstance; exact rfl; intro p hp); (apply wl_assign; exact rfl; exact rfl); refine WL_nil ?_; refine th_norm ?_; refine W_seq ?_; refine W_seq ?_; refine W_region ?_; (apply wl_assign; exact rfl; exact rfl); refine WL_nil ?_; refine th_norm ?_; refine W_block ?_)
  refine W_loopJ (fun (k : Nat) => ⟨[(1, .val (.int .i64 id)), (2, .val p), (5, .val (.int .i64 k))], [.box p (flC f) 27]⟩) (fun k => k ≤ f.ids.length ∧ id ∉ f.ids.take k) (fun k => f.ids.length - k) 0 (fun _ _ st => st_sub2 st (by (repeat (first | exact trivial | refine ⟨rfl, ?_⟩))) (by (repeat (first | exact SubP.nil | (apply SubP.cons; (repeat (first | exact Rm.here | apply Rm.there))))))) ?hj0 ?round
  case hj0 => simp
  case round =>
    rintro k ⟨hk, hno⟩
    (refine W_seq ?_; refine W_seq ?_; refine W_region ?_; (apply wl_move; exact rfl; exact rfl); (apply wl_field; exact rfl; (repeat (first | exact At.here | apply At.there)); exact rfl); (apply wl_load1; (first | exact .inl rfl | exact .inr ⟨rfl, rfl⟩); (repeat (first | exact At.here | apply At.there)); exact rfl; exact rfl); (apply wl_lenSl; exact rfl; exact rfl); (apply wl_lss; exact rfl; exact rfl; exact rfl); refine WL_nil ?_; refine th_norm ?_)
    refine w_cond rfl (fun hlt => ?_) (fun hlt => ?_)
    · have hlt' : k < f.ids.length := by simpa using hlt
      (refine W_skip ?_; refine th_norm ?_; refine W_seq ?_; refine W_block ?_; refine W_seq ?_; refine W_region ?_; (apply wl_field; exact rfl; (repeat (first | exact At.here | apply At.there)); exact rfl); (apply wl_load1; (first | exact .inl rfl | exact .inr ⟨rfl, rfl⟩); (repeat (first | exact At.here | apply At.there)); exact rfl; exact rfl); (apply wl_move; exact rfl; exact rfl); (apply wl_indexSl; exact rfl; exact rfl; exact rfl; (first | assumption | omega | (simp; omega)); exact rfl); (apply wl_loadE1; exact rfl; (case hk => first | assumption | omega | exact Nat.one_pos | (simp; omega)); exact rfl; exact rfl); (apply wl_move; exact rfl; exact rfl); (apply wl_eql; exact rfl; exact rfl; exact rfl); refine WL_nil ?_; refine th_norm ?_)
      refine w_cond rfl (fun he => ?_) (fun he => ?_)
      · (refine W_seq ?_; refine W_region ?_; (apply wl_move; exact rfl; exact rfl); (apply wl_assign; exact rfl; exact rfl); refine WL_nil ?_; refine th_norm ?_; refine W_ret ?_; refine bl_ret ?_; refine th_ret ?_; refine th_ret ?_; refine bl_ret ?_; refine th_ret ?_; refine rt_norm ?_)
        (apply res1; exact rfl; exact rfl; exact ⟨(congrArg (fun b => AV.val (Value.int .i64 b)) (ixOf_at hlt' hno (by simpa using he)).symm), rfl⟩)
      · (refine W_skip ?_; refine bl_norm ?_; refine th_norm ?_; refine W_region ?_; (apply wl_move; exact rfl; exact rfl); (apply wl_add; exact rfl; exact rfl; omega; omega; exact rfl); (apply wl_assign; exact rfl; exact rfl); refine WL_nil ?_; refine th_norm ?_)
        (refine ⟨k + 1, fun _ _ st => st_sub2 st ?_ ?_, ?_, ?_⟩; (repeat (first | exact trivial | refine ⟨rfl, ?_⟩)); (repeat (first | exact SubP.nil | (apply SubP.cons; (repeat (first | exact Rm.here | apply Rm.there))))))
        · refine ⟨by omega, ?_⟩
          rw [List.take_succ_eq_append_getElem hlt', List.mem_append, not_or]
          exact ⟨hno, by simp at he; simpa using Ne.symm he⟩
        · omega
    · (refine W_exit ?_; refine th_exit ?_; refine th_exit ?_; refine bl_eq ?_; refine th_norm ?_; refine W_seq ?_; refine W_region ?_; (apply wl_assign; exact rfl; exact rfl); refine WL_nil ?_; refine th_norm ?_; refine W_ret ?_; refine rt_norm ?_)
      have hkk : k = f.ids.length := by simp at hlt; omega
      subst hkk
      rw [List.take_length] at hno
      (apply res1; exact rfl; exact rfl; exact ⟨(congrArg (fun b => AV.val (Value.int .i64 b)) (ixOf_none hno).symm), rfl⟩)
set_option maxRecDepth 20000 in
theorem within8_con (n lo hi : Int) : Con Tryd.prog 85 [.val (.int .i64 n), .val (.int .i64 lo), .val (.int .i64 hi)] [] (Is (.val (.bool (decide (lo ≤ n) && decide (n ≤ hi)))) []) := by
  refine con_of Tryd.func85 rfl (enters_of Tryd.func85 (by kernel_rfl) rfl) rfl ?_; intro n w0 F0 G0
  (refine W_seq ?_; refine W_region ?_; (apply wl_assign; exact rfl; exact rfl); refine WL_nil ?_; refine th_norm ?_; refine W_seq ?_; refine W_region ?_; (apply wl_move; exact rfl; exact rfl); (apply wl_move; exact rfl; exact rfl); (apply wl_geq; exact rfl; exact rfl; exact rfl); (apply wl_move; exact rfl; exact rfl))
  refine wl_part rfl rfl (fun h => ?_) (fun h => ?_)
  · ((apply wl_yes; exact rfl; exact rfl; exact rfl); (apply wl_move; exact rfl; exact rfl); (apply wl_yes; exact rfl; exact rfl; exact rfl); (apply wl_move; exact rfl; exact rfl); (apply wl_yes; exact rfl; exact rfl; exact rfl); (apply wl_leq; exact rfl; exact rfl; exact rfl); (apply wl_pick_t; exact rfl; exact rfl; exact rfl); (apply wl_assign; exact rfl; exact rfl); refine WL_nil ?_; refine th_norm ?_; refine W_ret ?_; refine rt_norm ?_)
    (apply res1; exact rfl; exact rfl; exact ⟨(congrArg (fun b => AV.val (Value.bool b)) (by simp [h])), rfl⟩)
  · ((apply wl_no; exact rfl; exact rfl; exact rfl; exact rfl; exact rfl); (apply wl_no; exact rfl; exact rfl; exact rfl; exact rfl; exact rfl); (apply wl_no; exact rfl; exact rfl; exact rfl; exact rfl; exact rfl); (apply wl_pick_f; exact rfl; exact rfl; exact rfl); (apply wl_assign; exact rfl; exact rfl); refine WL_nil ?_; refine th_norm ?_; refine W_ret ?_; refine rt_norm ?_)
    (apply res1; exact rfl; exact rfl; exact ⟨(congrArg (fun b => AV.val (Value.bool b)) (by simp [h])), rfl⟩)
theorem ixOf_neg {l : List Int} {x : Int} : ixOf l x < 0 ↔ x ∉ l := by
  unfold ixOf; split <;> simp_all
theorem ixOf_lt {l : List Int} {x : Int} : decide (ixOf l x < 0) = !decide (x ∈ l) := by
  rw [← decide_not]; exact decide_eq_decide.2 ixOf_neg
theorem ixOf_ge {l : List Int} {x : Int} : decide (0 ≤ ixOf l x) = decide (x ∈ l) := decide_eq_decide.2 (by have := @ixOf_neg l x; by_cases h : x ∈ l <;> simp_all)
theorem drop_step {α : Type} {l : List α} {k : Nat} (h : k < l.length) : l.drop k = l[k] :: l.drop (k + 1) := List.drop_eq_getElem_cons h

/-- What is asked of a payment, of stakes, of a bill. -/
def payOk (ids : List Int) (x : Pay) : Bool := decide (x.a ∈ ids) && decide (x.b ∈ ids) && decide (x.a ≠ x.b) && (decide (1 ≤ x.p) && decide (x.p ≤ 1000000))
def stksOk (ids : List Int) : Int → List Stk → Bool
  | _, [] => true
  | last, s :: t => decide (last < s.fl) && decide (s.fl ∈ ids) && (decide (1 ≤ s.pt) && decide (s.pt ≤ 9)) && stksOk ids s.fl t
def bilOk (ids : List Int) (x : Bil) : Bool := decide (x.py ∈ ids) && (decide (1 ≤ x.pe) && decide (x.pe ≤ 1000000)) && decide (x.st ≠ []) && stksOk ids 0 x.st
set_option maxRecDepth 20000 in
theorem payment_con (f : Flo) (x : Pay) (hl : f.ids.length ≤ 1000000) : Con Tryd.prog 62 [.agg (flC f), .agg (payC x)] [] (Is (.val (.bool (payOk f.ids x))) []) := by
  refine con_of Tryd.func62 rfl (enters_of Tryd.func62 (by kernel_rfl) rfl) rfl ?_; intro n w0 F0 G0
  (refine W_seq ?_; refine W_region ?_; (apply wl_boxv; exact rfl; exact inferInstance; exact rfl; intro p hp); (apply wl_boxv; exact rfl; exact inferInstance; exact rfl; intro p hp); (apply wl_assign; exact rfl; exact rfl); refine WL_nil ?_; refine th_norm ?_; refine W_seq ?_; refine W_region ?_; (apply wl_loadN; (first | exact .inl rfl | exact .inr ⟨rfl, rfl⟩); (repeat (first | exact At.here | apply At.there)); exact rfl; exact rfl); (apply wl_field; exact rfl; (repeat (first | exact At.here | apply At.there)); exact rfl); (apply wl_load1; (first | exact .inl rfl | exact .inr ⟨rfl, rfl⟩); (repeat (first | exact At.here | apply At.there)); exact rfl; exact rfl))
  (first | (apply wl_call (floor_con f x.a hl); exact rfl; exact rfl) | (apply wl_callR (floor_con f x.a hl); exact rfl; (repeat (first | exact At.here | apply At.there)); exact rfl))
  ((apply wl_geq; exact rfl; exact rfl; exact rfl); (apply wl_move; exact rfl; exact rfl))
  rw [ixOf_ge]
  refine wl_part rfl rfl (fun h1 => ?_) (fun h1 => ?_)
  rotate_left
  · ((apply wl_no; exact rfl; exact rfl; exact rfl; exact rfl; exact rfl); (apply wl_no; exact rfl; exact rfl; exact rfl; exact rfl; exact rfl); (apply wl_no; exact rfl; exact rfl; exact rfl; exact rfl; exact rfl); (apply wl_no; exact rfl; exact rfl; exact rfl; exact rfl; exact rfl); (apply wl_no; exact rfl; exact rfl; exact rfl; exact rfl; exact rfl); (apply wl_pick_f; exact rfl; exact rfl; exact rfl); (apply wl_move; exact rfl; exact rfl); (apply wl_no; exact rfl; exact rfl; exact rfl; exact rfl; exact rfl); (apply wl_no; exact rfl; exact rfl; exact rfl; exact rfl; exact rfl); (apply wl_no; exact rfl; exact rfl; exact rfl; exact rfl; exact rfl); (apply wl_no; exact rfl; exact rfl; exact rfl; exact rfl; exact rfl); (apply wl_no; exact rfl; exact rfl; exact rfl; exact rfl; exact rfl); (apply wl_pick_f; exact rfl; exact rfl; exact rfl); (apply wl_move; exact rfl; exact rfl); (apply wl_no; exact rfl; exact rfl; exact rfl; exact rfl; exact rfl); (apply wl_no; exact rfl; exact rfl; exact rfl; exact rfl; exact rfl); (apply wl_no; exact rfl; exact rfl; exact rfl; exact rfl; exact rfl); (apply wl_pick_f; exact rfl; exact rfl; exact rfl); (apply wl_assign; exact rfl; exact rfl); refine WL_nil ?_; refine th_norm ?_; refine W_ret ?_; refine rt_norm ?_)
    (apply res1; exact rfl; exact rfl; exact ⟨(congrArg (fun b => AV.val (Value.bool b)) (by simp [payOk, h1])), rfl⟩)
  · ((apply wl_yes; exact rfl; exact rfl; exact rfl); (apply wl_loadN; (first | exact .inl rfl | exact .inr ⟨rfl, rfl⟩); (repeat (first | exact At.here | apply At.there)); exact rfl; exact rfl); (apply wl_yes; exact rfl; exact rfl; exact rfl); (apply wl_field; exact rfl; (repeat (first | exact At.here | apply At.there)); exact rfl); (apply wl_yes; exact rfl; exact rfl; exact rfl); (apply wl_load1; (first | exact .inl rfl | exact .inr ⟨rfl, rfl⟩); (repeat (first | exact At.here | apply At.there)); exact rfl; exact rfl); (apply wl_yes; exact rfl; exact rfl; exact rfl))
    (first | (apply wl_call (floor_con f x.b hl); exact rfl; exact rfl) | (apply wl_callR (floor_con f x.b hl); exact rfl; (repeat (first | exact At.here | apply At.there)); exact rfl))
    ((apply wl_yes; exact rfl; exact rfl; exact rfl); (apply wl_geq; exact rfl; exact rfl; exact rfl); (apply wl_pick_t; exact rfl; exact rfl; exact rfl); (apply wl_move; exact rfl; exact rfl))
    rw [ixOf_ge]
    refine wl_part rfl rfl (fun h2 => ?_) (fun h2 => ?_)
    rotate_left
    · ((apply wl_no; exact rfl; exact rfl; exact rfl; exact rfl; exact rfl); (apply wl_no; exact rfl; exact rfl; exact rfl; exact rfl; exact rfl); (apply wl_no; exact rfl; exact rfl; exact rfl; exact rfl; exact rfl); (apply wl_no; exact rfl; exact rfl; exact rfl; exact rfl; exact rfl); (apply wl_no; exact rfl; exact rfl; exact rfl; exact rfl; exact rfl); (apply wl_pick_f; exact rfl; exact rfl; exact rfl); (apply wl_move; exact rfl; exact rfl); (apply wl_no; exact rfl; exact rfl; exact rfl; exact rfl; exact rfl); (apply wl_no; exact rfl; exact rfl; exact rfl; exact rfl; exact rfl); (apply wl_no; exact rfl; exact rfl; exact rfl; exact rfl; exact rfl); (apply wl_pick_f; exact rfl; exact rfl; exact rfl); (apply wl_assign; exact rfl; exact rfl); refine WL_nil ?_; refine th_norm ?_; refine W_ret ?_; refine rt_norm ?_)
      (apply res1; exact rfl; exact rfl; exact ⟨(congrArg (fun b => AV.val (Value.bool b)) (by simp [payOk, h2])), rfl⟩)
    · ((apply wl_yes; exact rfl; exact rfl; exact rfl); (apply wl_field; exact rfl; (repeat (first | exact At.here | apply At.there)); exact rfl); (apply wl_yes; exact rfl; exact rfl; exact rfl); (apply wl_load1; (first | exact .inl rfl | exact .inr ⟨rfl, rfl⟩); (repeat (first | exact At.here | apply At.there)); exact rfl; exact rfl); (apply wl_yes; exact rfl; exact rfl; exact rfl); (apply wl_field; exact rfl; (repeat (first | exact At.here | apply At.there)); exact rfl); (apply wl_yes; exact rfl; exact rfl; exact rfl); (apply wl_load1; (first | exact .inl rfl | exact .inr ⟨rfl, rfl⟩); (repeat (first | exact At.here | apply At.there)); exact rfl; exact rfl); (apply wl_yes; exact rfl; exact rfl; exact rfl); (apply wl_neq; exact rfl; exact rfl; exact rfl); (apply wl_pick_t; exact rfl; exact rfl; exact rfl); (apply wl_move; exact rfl; exact rfl))
      refine wl_part rfl rfl (fun h3 => ?_) (fun h3 => ?_)
      rotate_left
      · ((apply wl_no; exact rfl; exact rfl; exact rfl; exact rfl; exact rfl); (apply wl_no; exact rfl; exact rfl; exact rfl; exact rfl; exact rfl); (apply wl_no; exact rfl; exact rfl; exact rfl; exact rfl; exact rfl); (apply wl_pick_f; exact rfl; exact rfl; exact rfl); (apply wl_assign; exact rfl; exact rfl); refine WL_nil ?_; refine th_norm ?_; refine W_ret ?_; refine rt_norm ?_)
        (apply res1; exact rfl; exact rfl; exact ⟨(congrArg (fun b => AV.val (Value.bool b)) (by simp at h3; simp [payOk, h3])), rfl⟩)
      · ((apply wl_yes; exact rfl; exact rfl; exact rfl); (apply wl_field; exact rfl; (repeat (first | exact At.here | apply At.there)); exact rfl); (apply wl_yes; exact rfl; exact rfl; exact rfl); (apply wl_load1; (first | exact .inl rfl | exact .inr ⟨rfl, rfl⟩); (repeat (first | exact At.here | apply At.there)); exact rfl; exact rfl); (apply wl_yes; exact rfl; exact rfl; exact rfl))
        (first | (apply wl_call (within8_con _ _ _); exact rfl; exact rfl) | (apply wl_callR (within8_con _ _ _); exact rfl; (repeat (first | exact At.here | apply At.there)); exact rfl))
        ((apply wl_pick_t; exact rfl; exact rfl; exact rfl); (apply wl_assign; exact rfl; exact rfl); refine WL_nil ?_; refine th_norm ?_; refine W_ret ?_; refine rt_norm ?_)
        (apply res1; exact rfl; exact rfl; exact ⟨(congrArg (fun b => AV.val (Value.bool b)) (by simp at h3; simp [payOk, h1, h2, h3])), rfl⟩)
set_option maxRecDepth 20000 in
theorem bill_con (f : Flo) (x : Bil) (hl : f.ids.length ≤ 1000000) (hs : x.st.length ≤ 1000000) : Con Tryd.prog 112 [.agg (flC f), .agg (biC x)] [] (Is (.val (.bool (bilOk f.ids x))) []) := by
  refine con_of Tryd.func112 rfl (enters_of Tryd.func112 (by kernel_rfl) rfl) rfl ?_; intro n w0 F0 G0
  (refine W_seq ?_; refine W_region ?_; (apply wl_boxv; exact rfl; exact inferInstance; exact rfl; intro p hp); (apply wl_boxv; exact rfl; exact inferInstance; exact rfl; intro p hp); (apply wl_assign; exact rfl; exact rfl); refine WL_nil ?_; refine th_norm ?_; refine W_seq ?_; refine W_seq ?_; refine W_region ?_; (apply wl_loadN; (first | exact .inl rfl | exact .inr ⟨rfl, rfl⟩); (repeat (first | exact At.here | apply At.there)); exact rfl; exact rfl); (apply wl_field; exact rfl; (repeat (first | exact At.here | apply At.there)); exact rfl); (apply wl_load1; (first | exact .inl rfl | exact .inr ⟨rfl, rfl⟩); (repeat (first | exact At.here | apply At.there)); exact rfl; exact rfl))
  (first | (apply wl_call (floor_con f x.py hl); exact rfl; exact rfl) | (apply wl_callR (floor_con f x.py hl); exact rfl; (repeat (first | exact At.here | apply At.there)); exact rfl))
  ((apply wl_lss; exact rfl; exact rfl; exact rfl); (apply wl_move; exact rfl; exact rfl))
  rw [ixOf_lt]
  refine wl_part rfl rfl (fun h1 => ?_) (fun h1 => ?_)
  · ((apply wl_no; exact rfl; exact rfl; exact rfl; exact rfl; exact rfl); (apply wl_no; exact rfl; exact rfl; exact rfl; exact rfl; exact rfl); (apply wl_no; exact rfl; exact rfl; exact rfl; exact rfl; exact rfl); (apply wl_no; exact rfl; exact rfl; exact rfl; exact rfl; exact rfl); (apply wl_pick_t; exact rfl; exact rfl; exact rfl); (apply wl_move; exact rfl; exact rfl); (apply wl_no; exact rfl; exact rfl; exact rfl; exact rfl; exact rfl); (apply wl_no; exact rfl; exact rfl; exact rfl; exact rfl; exact rfl); (apply wl_no; exact rfl; exact rfl; exact rfl; exact rfl; exact rfl); (apply wl_no; exact rfl; exact rfl; exact rfl; exact rfl; exact rfl); (apply wl_pick_t; exact rfl; exact rfl; exact rfl); refine WL_nil ?_; refine th_norm ?_; (apply w_true; exact rfl); refine W_seq ?_; refine W_region ?_; (apply wl_assign; exact rfl; exact rfl); refine WL_nil ?_; refine th_norm ?_; refine W_ret ?_; refine th_ret ?_; refine rt_norm ?_)
    (apply res1; exact rfl; exact rfl; exact ⟨(congrArg (fun b => AV.val (Value.bool b)) (by simp at h1; simp [bilOk, h1])), rfl⟩)
  · have h1' : x.py ∈ f.ids := by simpa using h1
    ((apply wl_yes; exact rfl; exact rfl; exact rfl); (apply wl_field; exact rfl; (repeat (first | exact At.here | apply At.there)); exact rfl); (apply wl_yes; exact rfl; exact rfl; exact rfl); (apply wl_load1; (first | exact .inl rfl | exact .inr ⟨rfl, rfl⟩); (repeat (first | exact At.here | apply At.there)); exact rfl; exact rfl); (apply wl_yes; exact rfl; exact rfl; exact rfl))
    (first | (apply wl_call (within8_con _ _ _); exact rfl; exact rfl) | (apply wl_callR (within8_con _ _ _); exact rfl; (repeat (first | exact At.here | apply At.there)); exact rfl))
    ((apply wl_yes; exact rfl; exact rfl; exact rfl); (apply wl_not; exact rfl; exact rfl); (apply wl_pick_f; exact rfl; exact rfl; exact rfl); (apply wl_move; exact rfl; exact rfl))
    refine wl_part rfl rfl (fun h2 => ?_) (fun h2 => ?_)
    · ((apply wl_no; exact rfl; exact rfl; exact rfl; exact rfl; exact rfl); (apply wl_no; exact rfl; exact rfl; exact rfl; exact rfl; exact rfl); (apply wl_no; exact rfl; exact rfl; exact rfl; exact rfl; exact rfl); (apply wl_no; exact rfl; exact rfl; exact rfl; exact rfl; exact rfl); (apply wl_pick_t; exact rfl; exact rfl; exact rfl); refine WL_nil ?_; refine th_norm ?_; (apply w_true; exact rfl); refine W_seq ?_; refine W_region ?_; (apply wl_assign; exact rfl; exact rfl); refine WL_nil ?_; refine th_norm ?_; refine W_ret ?_; refine th_ret ?_; refine rt_norm ?_)
      (apply res1; exact rfl; exact rfl; exact ⟨(congrArg (fun b => AV.val (Value.bool b)) (by simp only [Bool.not_eq_true'] at h2; simp [bilOk, h2])), rfl⟩)
    · have h2' : (decide (1 ≤ x.pe) && decide (x.pe ≤ 1000000)) = true := by simpa using h2
      ((apply wl_yes; exact rfl; exact rfl; exact rfl); (apply wl_field; exact rfl; (repeat (first | exact At.here | apply At.there)); exact rfl); (apply wl_yes; exact rfl; exact rfl; exact rfl); (apply wl_load1; (first | exact .inl rfl | exact .inr ⟨rfl, rfl⟩); (repeat (first | exact At.here | apply At.there)); exact rfl; exact rfl); (apply wl_yes; exact rfl; exact rfl; exact rfl); (apply wl_lenSl; exact rfl; exact rfl); (apply wl_yes; exact rfl; exact rfl; exact rfl); (apply wl_eql; exact rfl; exact rfl; exact rfl); (apply wl_pick_f; exact rfl; exact rfl; exact rfl); refine WL_nil ?_; refine th_norm ?_)
      refine w_cond rfl (fun h3 => ?_) (fun h3 => ?_)
      · (refine W_seq ?_; refine W_region ?_; (apply wl_assign; exact rfl; exact rfl); refine WL_nil ?_; refine th_norm ?_; refine W_ret ?_; refine th_ret ?_; refine rt_norm ?_)
        (apply res1; exact rfl; exact rfl; exact ⟨(congrArg (fun b => AV.val (Value.bool b)) (by simp at h3; simp [bilOk, h3])), rfl⟩)
      · have h3' : x.st ≠ [] := by intro e; rw [e] at h3; simp at h3
        have hW : bilOk f.ids x = stksOk f.ids 0 x.st := by unfold bilOk; rw [h2']; simp [h1', h3']
        rw [hW]
        (refine W_skip ?_; refine th_norm ?_; refine W_seq ?_; refine W_region ?_; (apply wl_assign; exact rfl; exact rfl); refine WL_nil ?_; refine th_norm ?_; refine W_seq ?_; refine W_seq ?_; refine W_region ?_; (apply wl_field; exact rfl; (repeat (first | exact At.here | apply At.there)); exact rfl); (apply wl_load1; (first | exact .inl rfl | exact .inr ⟨rfl, rfl⟩); (repeat (first | exact At.here | apply At.there)); exact rfl; exact rfl); (apply wl_lenSl; exact rfl; exact rfl); (apply wl_move; exact rfl; exact rfl); refine WL_nil ?_; refine th_norm ?_; refine W_block ?_)
        rename_i pf hpf
        refine W_loopJ (fun (b : Nat × Int) => ⟨[(2, .val pf), (26, .sl 2 stC x.st), (27, .val (.int .i64 x.st.length)), (28, .val (.int .i64 b.1)), (5, .val (.int .i64 b.2))], [.box pf (flC f) 27]⟩) (fun b => b.1 ≤ x.st.length ∧ stksOk f.ids b.2 (x.st.drop b.1) = stksOk f.ids 0 x.st) (fun b => x.st.length - b.1) (0, 0) (fun _ _ st => st_sub2 st (by (repeat (first | exact trivial | refine ⟨rfl, ?_⟩))) (by (repeat (first | exact SubP.nil | (apply SubP.cons; (repeat (first | exact Rm.here | apply Rm.there))))))) ?hj0 ?round
        case hj0 => simp
        case round =>
          rintro ⟨k, last⟩ ⟨hk, hno⟩
          dsimp only at hk hno ⊢
          (refine W_seq ?_; refine W_region ?_; (apply wl_lss; exact rfl; exact rfl; exact rfl); refine WL_nil ?_; refine th_norm ?_; refine W_seq ?_)
          refine w_cond rfl (fun hlt => ?_) (fun hlt => ?_)
          · have hlt' : k < x.st.length := by simpa using hlt
            rw [drop_step hlt', stksOk] at hno
            (refine W_skip ?_; refine th_norm ?_; refine W_seq ?_; refine W_block ?_; refine W_seq ?_; refine W_region ?_; (apply wl_indexSl; exact rfl; exact rfl; exact rfl; (first | assumption | omega | (simp; omega)); exact rfl); (apply wl_loadEN; exact rfl; (case hk => first | assumption | omega | exact Nat.one_pos | (simp; omega)); exact rfl; exact rfl); (apply wl_alloc; exact rfl; intro p hp); (apply wl_store; (first | exact .inl rfl | exact .inr ⟨rfl, rfl⟩); (repeat (first | exact At.here | apply At.there)); exact rfl; exact inferInstance; exact inferInstance; exact inferInstance; exact rfl; (first | exact (of_decide_eq_true rfl) | (simp; omega) | decide)); refine WL_nil ?_; refine th_norm ?_; refine W_seq ?_; refine W_seq ?_; refine W_region ?_; (apply wl_field; exact rfl; (repeat (first | exact At.here | apply At.there)); exact rfl); (apply wl_load1; (first | exact .inl rfl | exact .inr ⟨rfl, rfl⟩); (repeat (first | exact At.here | apply At.there)); exact rfl; exact rfl); (apply wl_move; exact rfl; exact rfl); (apply wl_leq; exact rfl; exact rfl; exact rfl); (apply wl_move; exact rfl; exact rfl))
            refine wl_part rfl rfl (fun g1 => ?_) (fun g1 => ?_)
            · ((apply wl_no; exact rfl; exact rfl; exact rfl; exact rfl; exact rfl); (apply wl_no; exact rfl; exact rfl; exact rfl; exact rfl; exact rfl); (apply wl_no; exact rfl; exact rfl; exact rfl; exact rfl; exact rfl); (apply wl_no; exact rfl; exact rfl; exact rfl; exact rfl; exact rfl); (apply wl_no; exact rfl; exact rfl; exact rfl; exact rfl; exact rfl); (apply wl_pick_t; exact rfl; exact rfl; exact rfl); (apply wl_move; exact rfl; exact rfl); (apply wl_no; exact rfl; exact rfl; exact rfl; exact rfl; exact rfl); (apply wl_no; exact rfl; exact rfl; exact rfl; exact rfl; exact rfl); (apply wl_no; exact rfl; exact rfl; exact rfl; exact rfl; exact rfl); (apply wl_no; exact rfl; exact rfl; exact rfl; exact rfl; exact rfl); (apply wl_pick_t; exact rfl; exact rfl; exact rfl); refine WL_nil ?_; refine th_norm ?_; (apply w_true; exact rfl); refine W_seq ?_; refine W_region ?_; (apply wl_assign; exact rfl; exact rfl); refine WL_nil ?_; refine th_norm ?_; refine W_ret ?_; refine th_ret ?_; refine bl_ret ?_; refine th_ret ?_; refine th_ret ?_; refine bl_ret ?_; refine th_ret ?_; refine rt_norm ?_)
              (apply res1; exact rfl; exact rfl; exact ⟨(congrArg (fun b => AV.val (Value.bool b)) (by rw [← hno]; simp at g1; simp [Int.not_lt.2 g1])), rfl⟩)
            · have g1' : decide (last < x.st[k].fl) = true := by simpa using g1
              rw [g1', Bool.true_and] at hno
              ((apply wl_yes; exact rfl; exact rfl; exact rfl); (apply wl_loadN; (first | exact .inl rfl | exact .inr ⟨rfl, rfl⟩); (repeat (first | exact At.here | apply At.there)); exact rfl; exact rfl); (apply wl_yes; exact rfl; exact rfl; exact rfl); (apply wl_field; exact rfl; (repeat (first | exact At.here | apply At.there)); exact rfl); (apply wl_yes; exact rfl; exact rfl; exact rfl); (apply wl_load1; (first | exact .inl rfl | exact .inr ⟨rfl, rfl⟩); (repeat (first | exact At.here | apply At.there)); exact rfl; exact rfl); (apply wl_yes; exact rfl; exact rfl; exact rfl))
              (first | (apply wl_call (floor_con f _ hl); exact rfl; exact rfl) | (apply wl_callR (floor_con f _ hl); exact rfl; (repeat (first | exact At.here | apply At.there)); exact rfl))
              ((apply wl_yes; exact rfl; exact rfl; exact rfl); (apply wl_lss; exact rfl; exact rfl; exact rfl); (apply wl_pick_f; exact rfl; exact rfl; exact rfl); (apply wl_move; exact rfl; exact rfl))
              rw [ixOf_lt]
              refine wl_part rfl rfl (fun g2 => ?_) (fun g2 => ?_)
              · ((apply wl_no; exact rfl; exact rfl; exact rfl; exact rfl; exact rfl); (apply wl_no; exact rfl; exact rfl; exact rfl; exact rfl; exact rfl); (apply wl_no; exact rfl; exact rfl; exact rfl; exact rfl; exact rfl); (apply wl_no; exact rfl; exact rfl; exact rfl; exact rfl; exact rfl); (apply wl_pick_t; exact rfl; exact rfl; exact rfl); refine WL_nil ?_; refine th_norm ?_; (apply w_true; exact rfl); refine W_seq ?_; refine W_region ?_; (apply wl_assign; exact rfl; exact rfl); refine WL_nil ?_; refine th_norm ?_; refine W_ret ?_; refine th_ret ?_; refine bl_ret ?_; refine th_ret ?_; refine th_ret ?_; refine bl_ret ?_; refine th_ret ?_; refine rt_norm ?_)
                (apply res1; exact rfl; exact rfl; exact ⟨(congrArg (fun b => AV.val (Value.bool b)) (by rw [← hno]; simp at g2; simp [g2])), rfl⟩)
              · have g2' : decide (x.st[k].fl ∈ f.ids) = true := by simpa using g2
                rw [g2', Bool.true_and] at hno
                ((apply wl_yes; exact rfl; exact rfl; exact rfl); (apply wl_field; exact rfl; (repeat (first | exact At.here | apply At.there)); exact rfl); (apply wl_yes; exact rfl; exact rfl; exact rfl); (apply wl_load1; (first | exact .inl rfl | exact .inr ⟨rfl, rfl⟩); (repeat (first | exact At.here | apply At.there)); exact rfl; exact rfl); (apply wl_yes; exact rfl; exact rfl; exact rfl))
                (first | (apply wl_call (within8_con _ _ _); exact rfl; exact rfl) | (apply wl_callR (within8_con _ _ _); exact rfl; (repeat (first | exact At.here | apply At.there)); exact rfl))
                ((apply wl_yes; exact rfl; exact rfl; exact rfl); (apply wl_not; exact rfl; exact rfl); (apply wl_pick_f; exact rfl; exact rfl; exact rfl); refine WL_nil ?_; refine th_norm ?_)
                refine w_cond rfl (fun g3 => ?_) (fun g3 => ?_)
                · (refine W_seq ?_; refine W_region ?_; (apply wl_assign; exact rfl; exact rfl); refine WL_nil ?_; refine th_norm ?_; refine W_ret ?_; refine th_ret ?_; refine bl_ret ?_; refine th_ret ?_; refine th_ret ?_; refine bl_ret ?_; refine th_ret ?_; refine rt_norm ?_)
                  (apply res1; exact rfl; exact rfl; exact ⟨(congrArg (fun b => AV.val (Value.bool b)) (by rw [← hno]; simp only [Bool.not_eq_true'] at g3; simp [g3])), rfl⟩)
                · have g3' : (decide (1 ≤ x.st[k].pt) && decide (x.st[k].pt ≤ 9)) = true := by simpa using g3
                  rw [g3', Bool.true_and] at hno
                  (refine W_skip ?_; refine th_norm ?_; refine W_region ?_; (apply wl_field; exact rfl; (repeat (first | exact At.here | apply At.there)); exact rfl); (apply wl_load1; (first | exact .inl rfl | exact .inr ⟨rfl, rfl⟩); (repeat (first | exact At.here | apply At.there)); exact rfl; exact rfl); (apply wl_assign; exact rfl; exact rfl); refine WL_nil ?_; refine bl_norm ?_; refine th_norm ?_; refine W_region ?_; (apply wl_add; exact rfl; exact rfl; omega; omega; exact rfl); (apply wl_move; exact rfl; exact rfl); refine WL_nil ?_; refine th_norm ?_)
                  (refine ⟨(k + 1, x.st[k].fl), fun _ _ st => st_sub2 st ?_ ?_, ?_, ?_⟩; (repeat (first | exact trivial | refine ⟨rfl, ?_⟩)); (repeat (first | exact SubP.nil | (apply SubP.cons; (repeat (first | exact Rm.here | apply Rm.there))))))
                  · exact ⟨hlt', hno⟩
                  · dsimp only; omega
          · (refine W_exit ?_; refine th_exit ?_; refine th_exit ?_; refine bl_eq ?_; refine th_norm ?_; refine W_seq ?_; refine W_region ?_; (apply wl_assign; exact rfl; exact rfl); refine WL_nil ?_; refine th_norm ?_; refine W_ret ?_; refine rt_norm ?_)
            have hkk : k = x.st.length := by simp at hlt; omega
            subst hkk
            rw [List.drop_length, stksOk] at hno
            (apply res1; exact rfl; exact rfl; exact ⟨(congrArg (fun b => AV.val (Value.bool b)) hno), rfl⟩)
end Go.Proofs.YtbkellknlcageaaDoor.Sw
