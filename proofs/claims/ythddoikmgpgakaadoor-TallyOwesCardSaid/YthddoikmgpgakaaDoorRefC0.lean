/- The reference's 'comes': the table of spans; what the registers hold in a round; a part of a code. -/
import Derived.Test.YthddoikmgpgakaaDoorProg
import Derived.Test.YthddoikmgpgakaaDoorBase
import Derived.Outline
import Derived.RangeFuncNested
import Derived.Shelf.Abstract
import Derived.Deep.QuietTactic
import Derived.BigQuiet
import Derived.Deep.RegionHeld3
import Derived.WalkSmall
import Derived.Laws.EntriesVeiled
import Derived.WalkMore
import Derived.Deep.Cut
import Derived.Test.YthddoikmgpgakaaDoorWide
import Derived.Test.YthddoikmgpgakaaDoorTable
namespace Go.Proofs.YthddoikmgpgakaaDoor
open Go.RowKit Go.Proofs Go.Shelf

/-- A part of a code. -/
def partC : List Bool → Code → Code
  | [], c => c
  | false :: p, .seq a _ => partC p a
  | true :: p, .seq _ b => partC p b
  | false :: p, .cond _ a _ => partC p a
  | true :: p, .cond _ _ b => partC p b
  | _ :: p, .block _ a => partC p a
  | _ :: p, .loop a => partC p a
  | _ :: p, .scope a => partC p a
  | false :: p, .rangeFunc _ _ a _ => partC p a
  | true :: p, .rangeFunc _ _ _ b => partC p b
  | _ :: _, c => c
def subC (p : List Bool) (c : Option Code) : Code := partC p (c.getD .skip)

/-- The code with another part in that place. -/
def putC : List Bool → Code → Code → Code
  | [], t, _ => t
  | false :: p, t, .seq a b => .seq (putC p t a) b
  | true :: p, t, .seq a b => .seq a (putC p t b)
  | false :: p, t, .cond c a b => .cond c (putC p t a) b
  | true :: p, t, .cond c a b => .cond c a (putC p t b)
  | _ :: p, t, .block n a => .block n (putC p t a)
  | _ :: p, t, .loop a => .loop (putC p t a)
  | _ :: p, t, .scope a => .scope (putC p t a)
  | _ :: _, _, c => c

/-- Row r of the table of spans lies in the outer block's cells. -/
def SRow (sp : Nat → Nat → Int × Int) (W : World) (cs : Array Value) (m O X : Nat) (r : Nat) : Prop := ∃ R rs, cs[r]? = some (.slice (some ⟨R, 0, none⟩) (m + 1) (m + 1)) ∧ R < X ∧ R ≠ O ∧ Box W R rs 68 ∧ rs.size = 2 * (m + 1) ∧ ∀ k, k ≤ m → rs[k * 2]? = some (.int .i64 (sp r k).1) ∧ rs[k * 2 + 1]? = some (.int .i64 (sp r k).2)
theorem SRow.keep {sp : Nat → Nat → Int × Int} {W W' : World} {cs cs' : Array Value} {m O X X' r : Nat} (h : SRow sp W cs m O X r) (hc : cs'[r]? = cs[r]?) (hX : X ≤ X') (hk : ∀ k, k < X → k ≠ O → k < W.heap.size → W'.heap[k]? = W.heap[k]?) : SRow sp W' cs' m O X' r := by
  obtain ⟨R, rs, h1, h2, h3, h4, h5, h6⟩ := h
  exact ⟨R, rs, hc.trans h1, by omega, h3, (hk R h2 h3 h4.lt).trans h4, h5, h6⟩
theorem infoSRow : (Tryd.prog.info? 176).map (fun i => (i.zero, i.size, i.bytes)) = some (some (.slice none 0 0), 1, 24) := by kernel_rfl

/-- In the inner loop. -/
structure RcI (sp : Nat → Nat → Int × Int) (w1 : World) (n m O X i : Nat) (cs : Array Value) (rs : Array Value) (l : Nat) (V : World) : Prop where
  o : Box V O cs 176
  rows : ∀ r, i + 1 ≤ r → r ≤ n → SRow sp V cs m O X r
  bel : Below w1.heap.size w1 V
  x : Box V X rs 68
  sz : rs.size = 2 * (m + 1)
  got : ∀ k, l ≤ k → k ≤ m → rs[k * 2]? = some (.int .i64 (sp i k).1) ∧ rs[k * 2 + 1]? = some (.int .i64 (sp i k).2)
theorem RcI.keep {sp : Nat → Nat → Int × Int} {w1 V V' : World} {n m O X i l Y : Nat} {cs rs : Array Value} (h : RcI sp w1 n m O X i cs rs l V) (hO : O < Y) (hX : X < Y) (h1 : w1.heap.size ≤ Y) (kp : Keep (· < Y) V V') : RcI sp w1 n m O X i cs rs l V' :=
  ⟨kp.box hO h.o, fun r g1 g2 => (h.rows r g1 g2).keep rfl (Nat.le_refl _) (fun k hk _ hv => kp.block k hv (show k < Y by omega)), h.bel.trans (kp.below (fun b hb => show b < Y by omega) h.bel.size), kp.box hX h.x, h.sz, h.got⟩

/-- In a round of the inner loop: what the registers hold. -/
def StP (a : Tl) (W : Int → Int) (w w1 : World) (OT O X Y i k : Nat) (cs rs : Array Value) (xs : List St) (ex : (Nat → Value) → Prop) (a' : Act) (V : World) : Prop := ∃ (first : Bool) (s : Int × Int) (f : Nat → Value), a' = ⟨((List.range 220).map f).toArray, []⟩ ∧
  (f 2 = .pointer (some ⟨w.heap.size, 0, none⟩) ∧ f 3 = .pointer (some ⟨w.heap.size + 1, 0, none⟩) ∧ f 4 = .pointer (some ⟨w.heap.size + 1 + 1, 0, none⟩) ∧ f 5 = .slice (some ⟨OT, 0, none⟩) (a.st.length + 1) (a.st.length + 1) ∧ f 6 = .int .i64 a.st.length ∧ f 7 = .int .i64 a.fo.length ∧ f 8 = .slice (some ⟨O, 0, none⟩) (a.st.length + 1) (a.st.length + 1) ∧ f 9 = .int .i64 i ∧ f 10 = .int .i64 k ∧ f 11 = .pointer (some ⟨Y, 0, none⟩) ∧ f 12 = .bool first) ∧
  ex f ∧ RcI (fun r k => spanF W (a.st.drop r) (a.fo.drop k)) w1 a.st.length a.fo.length O X i cs rs (k + 1) V ∧ Y < V.heap.size ∧ Box V Y #[.int .i64 s.1, .int .i64 s.2] 68 ∧ AccW W (ByS a xs) s first

theorem RcI.same {sp : Nat → Nat → Int × Int} {w1 V V' : World} {n m O X i l : Nat} {cs rs : Array Value} (h : RcI sp w1 n m O X i cs rs l V) (k : Keep (fun _ => True) V V') : RcI sp w1 n m O X i cs rs l V' :=
  ⟨k.box trivial h.o, fun r g1 g2 => (h.rows r g1 g2).keep rfl (Nat.le_refl _) (fun k' _ _ hv => k.block k' hv trivial), h.bel.trans (k.below (fun b hb => trivial) h.bel.size), k.box trivial h.x, h.sz, h.got⟩
theorem keep_drewN (V : World) (n : Nat) : Keep (fun _ => True) V (V.drewN n) := by
  have h := below_drewN (Below.refl V.heap.size V) n
  exact ⟨h.os, h.tape, h.output, h.size, fun k hk _ => h.block k hk⟩

end Go.Proofs.YthddoikmgpgakaaDoor
