/- The reference's 'comes': a round of the inner loop, whole. -/
import Derived.Test.YthddoikmgpgakaaDoorProg
import Derived.Test.YthddoikmgpgakaaDoorBase
import Derived.Outline
import Derived.RangeFuncNested
import Derived.Shelf.Abstract
import Derived.Deep.QuietTactic
import Derived.BigQuiet
import Derived.Deep.RegionHeld3
import Derived.WalkSmall
import Derived.Laws.EntriesVeiled
import Derived.Test.YthddoikmgpgakaaDoorRefC1
import Derived.Test.YthddoikmgpgakaaDoorRefC2
import Derived.Test.YthddoikmgpgakaaDoorRefC3
import Derived.Test.YthddoikmgpgakaaDoorRefC4
namespace Go.Proofs.YthddoikmgpgakaaDoor
open Go.RowKit Go.Proofs Go.Shelf

theorem wp_next {P : Program} {x y : Code} {Q : Exit → Act → World → Prop} {a : Act} {w : World} (R : Act → World → Prop) (h : x.wp P (NormP R) a w) (k : ∀ a w, R a w → y.wp P Q a w) : (Code.seq x y).wp P Q a w :=
  wp_seq (wp_post R h (fun a w hr => k a w hr))

set_option maxRecDepth 20000 in
theorem refTail (a : Tl) (W : Int → Int) (sa fa : Option Addr) (sc fc : Nat) (w w1 : World) (OT O X Y i k : Nat) (cs rs : Array Value) (hl : a.st.length ≤ 1000) (hl2 : a.fo.length ≤ 1000) (o1 : okN a.st = true) (o2 : okN a.fo = true) (w0 : Hid (W 0 = 0)) (wb : ∀ n, -1000 ≤ W n ∧ W n ≤ 1000) (H1 : Hid (RdI w1 sa a.st)) (H2 : Hid (RdI w1 fa a.fo))
    (BX : Hid (Box w1 w.heap.size (#[.int .i64 a.id, .int .i64 a.hs, .slice sa a.st.length sc, .slice fa a.fo.length fc]) 24)) (BW : Hid (Box w1 (w.heap.size + 1) (#[.int .i64 (W 0), .int .i64 (W 1), .int .i64 (W 2), .int .i64 (W 3), .int .i64 (W 4)]) 149)) (TT : Hid (Tbl w1 OT a.st a.fo)) (hi : i ≤ a.st.length) (hk : k ≤ a.fo.length) (hOX : O < X) (hXY : X < Y) (h1 : w1.heap.size ≤ O) (hci : cs[i]? = some (.slice (some ⟨X, 0, none⟩) (a.fo.length + 1) (a.fo.length + 1))) (a' : Act) (V : World)
    (h : StP a W w w1 OT O X Y i k cs rs [] (fun _ => True) a' V) : ((subC [true, true, true, true, false, true, false, false, true, false, false, true, true, false, false, true, false, false, true, true] Tryd.f93.body)).wp Tryd.prog (NormP (StQ a W w w1 OT O X i k cs)) a' V := by
  show (Code.seq ((subC [true, true, true, true, false, true, false, false, true, false, false, true, true, false, false, true, false, false, true, true, false] Tryd.f93.body)) (Code.seq ((subC [true, true, true, true, false, true, false, false, true, false, false, true, true, false, false, true, false, false, true, true, true, false] Tryd.f93.body)) (Code.seq ((subC [true, true, true, true, false, true, false, false, true, false, false, true, true, false, false, true, false, false, true, true, true, true, false] Tryd.f93.body)) ((subC [true, true, true, true, false, true, false, false, true, false, false, true, true, false, false, true, false, false, true, true, true, true, true] Tryd.f93.body))))).wp Tryd.prog _ _ _
  refine wp_next _ (refC1 a W sa fa sc fc w w1 OT O X Y i k cs rs [] hl hl2 o1 o2 w0 wb H1 H2 BX BW TT hi hk hOX hXY h1 a' V h) fun a2 V2 q2 => ?_
  refine wp_next _ (refC2 a W sa fa sc fc w w1 OT O X Y i k cs rs _ hl hl2 o1 o2 w0 wb H1 BX BW TT hi hk hOX hXY h1 a2 V2 q2) fun a3 V3 q3 => ?_
  refine wp_next _ (refC3 a W sa fa sc fc w w1 OT O X Y i k cs rs _ hl hl2 o1 o2 w0 wb H2 BX BW TT hi hk hOX hXY h1 hci a3 V3 q3) fun a4 V4 q4 => ?_
  refine refC4 a W w w1 OT O X Y i k cs rs hl hl2 o1 o2 hi hk hOX hXY h1 hci a4 V4 ?_
  have e : [] ++ (step1 a.st a.fo i k).filter (isBest a.st a.fo i k) ++ (step2 a.st i k).filter (isBest a.st a.fo i k) ++ (step3 a.fo i k).filter (isBest a.st a.fo i k) = bestL a.st a.fo i k := by
    unfold bestL stepsL
    rw [List.filter_append, List.filter_append, List.nil_append, List.append_assoc]
  rw [← e]
  exact q4
end Go.Proofs.YthddoikmgpgakaaDoor
