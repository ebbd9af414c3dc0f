/- The reference's 'Edits'. -/
import Derived.Test.YthddoikmgpgakaaDoorProg
import Derived.Test.YthddoikmgpgakaaDoorBase
import Derived.Outline
import Derived.RangeFuncNested
import Derived.Shelf.Abstract
import Derived.Deep.QuietTactic
import Derived.BigQuiet
import Derived.Deep.RegionHeld3
import Derived.WalkSmall
import Derived.Laws.EntriesVeiled
import Derived.WalkMore
import Derived.Test.YthddoikmgpgakaaDoorTable
import Derived.Test.YthddoikmgpgakaaDoorEdL
import Derived.Test.YthddoikmgpgakaaDoorMarks
namespace Go.Proofs.YthddoikmgpgakaaDoor
open Go.RowKit Go.Proofs Go.Shelf

theorem infoEdit : (Tryd.prog.info? 109).map (fun i => (i.zero, i.size, i.bytes)) = some (some (.agg #[.int .i64 0, .int .i64 0, .int .i64 0]), 3, 24) := by kernel_rfl
theorem rd_three {w : World} {n : Nat} {x y z : Int} {t : TypeId} (hn : n = w.heap.size) : RdI (w.alloc (.cells #[.int .i64 x, .int .i64 y, .int .i64 z] t)) (some ⟨n, 0, none⟩) [x, y, z] := fun i hi => by
  have hb := Box.at (w := w) #[.int .i64 x, .int .i64 y, .int .i64 z] t hn
  match i, hi with
  | 0, _ => exact ⟨n, 0, rfl, hb.cell 0⟩
  | 1, _ => exact ⟨n, 0, rfl, hb.cell 1⟩
  | 2, _ => exact ⟨n, 0, rfl, hb.cell 2⟩

theorem own_drewN {w : World} {B : Nat} {e : TypeId} {size : Nat} {v : Value} {n : Nat} {xs : List Value} (h : w.ownsRow B e size v n xs) (k : Nat) : (w.drewN k).ownsRow B e size v n xs := by
  unfold World.ownsRow at *
  rw [World.heap_drewN]
  exact h
/-- Between two rounds. -/
def EdI (st fo : List Int) (w2 : World) (p : Value) (ni nk : Nat) (W : World) : Prop := ∃ acc a c, p = .slice a acc.length c ∧ acc ++ edL st fo ni nk = edL st fo 0 0 ∧ acc.length ≤ ni + nk ∧ Below w2.heap.size w2 W ∧ W.ownsRow w2.heap.size 109 3 (.slice a acc.length c) acc.length (edCells acc)

theorem EdI.stay {st fo : List Int} {w2 W W' : World} {p : Value} {ni nk ni' nk' : Nat} (h : EdI st fo w2 p ni nk W) (hb : Below w2.heap.size w2 W') (ho : ∀ B e size v n xs, W.ownsRow B e size v n xs → W'.ownsRow B e size v n xs) (hs : ni < st.length ∨ nk < fo.length) (hi : ni ≤ st.length) (hk : nk ≤ fo.length) (hn : nxt st fo ni nk = ⟨ni', nk', []⟩) : EdI st fo w2 p ni' nk' W' := by
  obtain ⟨acc, a, c, hp, he, hl, _, o⟩ := h
  have g := (nxt_step hs hi hk).2.2.2
  rw [edL_step hs hi hk, hn] at he
  rw [hn] at g
  exact ⟨acc, a, c, hp, he, by simp only [List.length_nil] at g; omega, hb, ho _ _ _ _ _ _ o⟩

theorem below_grown {B : Nat} {w X Y : World} {row : Option Nat} (h : Below B w X) (hg : X.grownBy Y row) (hr : ∀ r, row = some r → B ≤ r) (hB : B ≤ w.heap.size) : Below B w Y :=
  ((Keep.of_below (Z := fun k => k < B) h (fun _ _ h => h)).grown hg (fun r e _ h => by have := hr r e; have : r < B := h; omega)).below (fun _ h => h) hB
theorem EdI.app {st fo : List Int} {w2 X W' : World} {acc : List Ed} {v : Value} {a' : Option Addr} {c' ni nk ni' nk' : Nat} {e1 e2 e3 : Int} (hA : acc ++ edL st fo ni nk = edL st fo 0 0) (hl : acc.length ≤ ni + nk) (hX : Below w2.heap.size w2 X) (hg : X.grownBy W' v.ownBlock) (hv : ∀ r, v.ownBlock = some r → w2.heap.size ≤ r)
    (o : W'.ownsRow w2.heap.size 109 3 (.slice a' (acc.length + 1) c') (acc.length + 1) (edCells acc ++ [.int .i64 e1, .int .i64 e2, .int .i64 e3])) (hs : ni < st.length ∨ nk < fo.length) (hi : ni ≤ st.length) (hk : nk ≤ fo.length) (hn : nxt st fo ni nk = ⟨ni', nk', [⟨e1, e2, e3⟩]⟩) : EdI st fo w2 (.slice a' (acc.length + 1) c') ni' nk' W' := by
  have g := (nxt_step hs hi hk).2.2.2
  rw [edL_step hs hi hk, hn] at hA
  rw [hn] at g
  simp only [List.length_cons, List.length_nil] at g
  refine ⟨acc ++ [⟨e1, e2, e3⟩], a', c', by rw [List.length_append]; rfl, by rw [List.append_assoc]; exact hA, by rw [List.length_append]; simp only [List.length_cons, List.length_nil]; omega, below_grown hX hg hv (Nat.le_refl _), ?_⟩
  rw [List.length_append, edCells_append]
  exact o

set_option maxRecDepth 20000 in
set_option maxHeartbeats 4000000 in
theorem refEdits_any (a : Tl) (sa fa : Option Addr) (sc fc : Nat) (w : World) (hl : a.st.length ≤ 1000) (hl2 : a.fo.length ≤ 1000) (h1 : RdI w sa a.st) (h2 : RdI w fa a.fo) :
    Calls Tryd.prog 33 #[.agg #[.int .i64 a.id, .int .i64 a.hs, .slice sa a.st.length sc, .slice fa a.fo.length fc]] w
      fun e w' => ∃ v, e = .returned (.tuple #[v, .int .i64 (editsR a).2]) ∧ EdV w' v (editsR a).1 ∧ Below w.heap.size w w' := by
  have hm := mixedS
  obtain ⟨i0, hi0, iz0, iz1, iz2⟩ := info_parts infoEdit
  have H1 := hid h1; have H2 := hid h2; clear h1 h2
  go_enter Tryd.func33, Tryd.ntmps33
  go_wp2_with fail
  refine (tally_any _ _ _ _ _ _ _ _ _ (by omega) (by omega) (H1.out.below (by repeat (first | (with_reducible exact Below.refl _ _) | (with_reducible assumption) | (with_reducible refine Below.drew ?_) | (with_reducible refine below_drewN ?_ _) | (with_reducible refine Below.alloc ?_ (by first | omega | (simp; done) | (simp; omega)) _) | (with_reducible refine Below.setCell ?_ (by first | omega | (simp; done) | (simp; omega)) _) | (with_reducible refine Below.trans ?_ (Below.mono (by assumption) (by first | omega | (simp; done) | (simp; omega))))))) (H2.out.below (by repeat (first | (with_reducible exact Below.refl _ _) | (with_reducible assumption) | (with_reducible refine Below.drew ?_) | (with_reducible refine below_drewN ?_ _) | (with_reducible refine Below.alloc ?_ (by first | omega | (simp; done) | (simp; omega)) _) | (with_reducible refine Below.setCell ?_ (by first | omega | (simp; done) | (simp; omega)) _) | (with_reducible refine Below.trans ?_ (Below.mono (by assumption) (by first | omega | (simp; done) | (simp; omega)))))))).mono ?_
  rintro e w1 ⟨rfl, hb1⟩
  have b1 := (Box.new w #[.int .i64 a.id, .int .i64 a.hs, .slice sa a.st.length sc, .slice fa a.fo.length fc] 24).below hb1 (by simp)
  have c2 : w1.cell? ⟨w.heap.size, 2, none⟩ = some (.slice sa a.st.length sc) := b1.cell 2
  have c3 : w1.cell? ⟨w.heap.size, 3, none⟩ = some (.slice fa a.fo.length fc) := b1.cell 3
  have hbw : Below w.heap.size w w1 := (by repeat (first | (with_reducible exact Below.refl _ _) | (with_reducible assumption) | (with_reducible refine Below.drew ?_) | (with_reducible refine below_drewN ?_ _) | (with_reducible refine Below.alloc ?_ (by first | omega | (simp; done) | (simp; omega)) _) | (with_reducible refine Below.setCell ?_ (by first | omega | (simp; done) | (simp; omega)) _) | (with_reducible refine Below.trans ?_ (Below.mono (by assumption) (by first | omega | (simp; done) | (simp; omega))))))
  clear hb1
  by_cases hok : okT a.id a.hs a.st a.fo = true
  · rw [hok]
    have HK := hid hok; clear hok
    go_wp2_with fail
    refine (table_any a.st a.fo sa fa sc fc w1 hl hl2 (H1.out.below hbw) (H2.out.below hbw)).mono ?_
    rintro e w2 ⟨O, rfl, hb2, hT⟩
    have bX := b1.below hb2 b1.lt
    have hb := hbw.trans (hb2.mono hbw.size)
    have BX := hid bX; have TT := hid hT; have WB := hid hb
    clear c2 c3 hbw hb2 b1 bX hT hb
    go_wp2_with fail
    go_loopw [5, 6, 7] (fun p q r W => ∃ ni nk : Nat, ni ≤ a.st.length ∧ nk ≤ a.fo.length ∧ q = .int .i64 ni ∧ r = .int .i64 nk ∧ EdI a.st a.fo w2 p ni nk W) (fun _ q r _ => (a.st.length - (intOf q).toNat) + (a.fo.length - (intOf r).toNat))
    case atStart => exact ⟨0, 0, by omega, by omega, rfl, rfl, [], none, 0, rfl, rfl, by simp, Below.refl _ _, World.ownsRow_nil _ _ _ _⟩
    case round =>
      obtain ⟨ni, nk, hni, hnk, rfl, rfl, hE⟩ := hrel
      have HE := hid hE
      obtain ⟨acc, pa, pc, rfl, hacc, hal, hbr, hown⟩ := hE
      have HA := hid hacc; have HO := hid hown; have HR := hid hbr
      clear hacc hown
      have bx := BX.out.below hbr BX.out.lt
      have g2 : wr.cell? ⟨w.heap.size, 2, none⟩ = some (.slice sa a.st.length sc) := bx.cell 2
      have g3 : wr.cell? ⟨w.heap.size, 3, none⟩ = some (.slice fa a.fo.length fc) := bx.cell 3
      have tt : ∀ i k, i ≤ a.st.length → k ≤ a.fo.length → ∃ R, wr.cell? ⟨O, i, none⟩ = some (.slice (some ⟨R, 0, none⟩) (a.fo.length + 1) (a.fo.length + 1)) ∧ wr.cell? ⟨R, k, none⟩ = some (.int .i64 (dd a.st a.fo i k : Int)) := fun i k hi hk => by
        obtain ⟨R, r1, r2⟩ := TT.out i hi
        exact ⟨R, (hbr.cell (cell_lt r1)).trans r1, (hbr.cell (cell_lt (r2 k hk))).trans (r2 k hk)⟩
      have TR := hid tt; clear tt bx
      have lwr := hbr.size
      have w1' := wrap_small (n := (ni : Int) + 1) (by omega) (by omega)
      have w2' := wrap_small (n := (nk : Int) + 1) (by omega) (by omega)
      clear hbr
      have tc1 : (ni : Int) < (a.st.length : Int) + 1 := by omega
      have tc2 : (nk : Int) < (a.fo.length : Int) + 1 := by omega
      by_cases hi : ni < a.st.length
      · have td1 : (ni : Int) + 1 < (a.st.length : Int) + 1 := by omega
        obtain ⟨ab, ao, rfl, ca⟩ := (H1.out.below WB.out).below HR.out ni hi
        obtain ⟨Ra, ra1, ra2⟩ := TR.out ni nk hni hnk
        obtain ⟨Rc, rc1, rc2⟩ := TR.out (ni + 1) nk hi hnk
        have dl1 := dd_le a.st a.fo (ni + 1) nk (by omega) (by omega)
        have w4 := wrap_small (n := (dd a.st a.fo (ni + 1) nk : Int) + 1) (by omega) (by omega)
        by_cases hk : nk < a.fo.length
        · obtain ⟨bb, bo, rfl, cb⟩ := (H2.out.below WB.out).below HR.out nk hk
          by_cases he : a.st[ni] = a.fo[nk]
          · have hq : (a.st[ni] == a.fo[nk]) = true := by simp [he]
            have HEQ := hid he; clear he
            clear ra1 ra2 rc1 rc2 w4 dl1
            go_wp2_with fail
            go_big_quiet (fail)
            go_wp2_with fail
            refine ⟨⟨ni + 1, nk + 1, by omega, by omega, by go_num, by go_num, HE.out.stay (below_drewN HR.out _) (fun B e size v n xs h => by first | exact h | exact own_drewN h _) (.inl hi) hni hnk (by unfold nxt; rw [dif_pos ⟨hi, hk⟩, if_pos HEQ.out])⟩, by simp [intOf]; omega⟩
          · have hq : (a.st[ni] == a.fo[nk]) = false := by simp [he]
            have HEQ := hid he; clear he
            have td2 : (nk : Int) + 1 < (a.fo.length : Int) + 1 := by omega
            obtain ⟨Rb, rb1, rb2⟩ := TR.out (ni + 1) (nk + 1) hi hk
            have dl2 := dd_le a.st a.fo (ni + 1) (nk + 1) (by omega) (by omega)
            have w3 := wrap_small (n := (dd a.st a.fo (ni + 1) (nk + 1) : Int) + 1) (by omega) (by omega)
            obtain rfl : Rb = Rc := by rw [rb1] at rc1; simpa using rc1
            clear rb1
            by_cases hd : dd a.st a.fo ni nk = dd a.st a.fo (ni + 1) (nk + 1) + 1
            · have hq2 : ((dd a.st a.fo ni nk : Int) == (dd a.st a.fo (ni + 1) (nk + 1) : Int) + 1) = true := by rw [hd]; simp
              have HD := hid hd; clear hd
              go_wp2_with fail
              go_big_quiet (fail)
              go_wp2_with fail
              go_big_quiet (fail)
              go_wp2_with (at_builtin; refine wpList_append_any _ rfl _ _ _ rfl w2.heap.size 109 i0 _ 3 24 Tryd.underlying48 hi0 iz0 iz1 iz2 rfl (by decide) (.slice pa acc.length pc) acc.length (edCells acc) rfl (by repeat (first | (with_reducible exact HO.out) | (with_reducible refine World.ownsRow.alloc ?_ _) | (with_reducible refine own_drewN ?_ _) | (with_reducible refine World.ownsRow.drew ?_))) (some ⟨_, 0, none⟩) 1 1 [.int .i64 3, .int .i64 nk, .int .i64 a.fo[nk]] rfl rfl (fun h => by cases h) (box_news (Box.at _ _ (by simp)) rfl) (by simp [Value.oneCell']) (by omega) (by omega) (by simp; omega) ?_; intro a' c' w1' own1 gr1 pl1; apply stand)
              refine hid ?_; go_wp2_with fail; refine ⟨⟨ni + 1, nk + 1, by omega, by omega, by go_num, by go_num, EdI.app HA.out hal (by repeat (first | (with_reducible exact HR.out) | (with_reducible refine Below.alloc ?_ (by have := HR.out.size; simp; omega) _) | (with_reducible refine below_drewN ?_ _) | (with_reducible refine Below.drew ?_))) gr1 (fun r e => (HO.out.lt r e).1) own1 (by omega) hni hnk ?_⟩, by simp [intOf]; omega⟩; unfold nxt; rw [dif_pos ⟨hi, hk⟩, if_neg HEQ.out, if_pos HD.out]
            · have hq2 : ((dd a.st a.fo ni nk : Int) == (dd a.st a.fo (ni + 1) (nk + 1) : Int) + 1) = false := by rw [beq_eq_false_iff_ne]; omega
              have HD := hid hd; clear hd
              by_cases hd2 : dd a.st a.fo ni nk = dd a.st a.fo (ni + 1) nk + 1
              · have hq3 : ((dd a.st a.fo ni nk : Int) == (dd a.st a.fo (ni + 1) nk : Int) + 1) = true := by rw [hd2]; simp
                have HD2 := hid hd2; clear hd2
                go_wp2_with fail
                go_big_quiet (fail)
                go_wp2_with fail
                go_big_quiet (fail)
                go_wp2_with fail
                go_big_quiet (fail)
                go_wp2_with (at_builtin; refine wpList_append_any _ rfl _ _ _ rfl w2.heap.size 109 i0 _ 3 24 Tryd.underlying48 hi0 iz0 iz1 iz2 rfl (by decide) (.slice pa acc.length pc) acc.length (edCells acc) rfl (by repeat (first | (with_reducible exact HO.out) | (with_reducible refine World.ownsRow.alloc ?_ _) | (with_reducible refine own_drewN ?_ _) | (with_reducible refine World.ownsRow.drew ?_))) (some ⟨_, 0, none⟩) 1 1 [.int .i64 1, .int .i64 nk, .int .i64 0] rfl rfl (fun h => by cases h) (box_news (Box.at _ _ (by simp)) rfl) (by simp [Value.oneCell']) (by omega) (by omega) (by simp; omega) ?_; intro a' c' w1' own1 gr1 pl1; apply stand)
                refine hid ?_; go_wp2_with fail; refine ⟨⟨ni + 1, nk, by omega, by omega, by go_num, by go_num, EdI.app HA.out hal (by repeat (first | (with_reducible exact HR.out) | (with_reducible refine Below.alloc ?_ (by have := HR.out.size; simp; omega) _) | (with_reducible refine below_drewN ?_ _) | (with_reducible refine Below.drew ?_))) gr1 (fun r e => (HO.out.lt r e).1) own1 (by omega) hni hnk ?_⟩, by simp [intOf]; omega⟩; unfold nxt; rw [dif_pos ⟨hi, hk⟩, if_neg HEQ.out, if_neg HD.out, if_pos HD2.out]
              · have hq3 : ((dd a.st a.fo ni nk : Int) == (dd a.st a.fo (ni + 1) nk : Int) + 1) = false := by rw [beq_eq_false_iff_ne]; omega
                have HD2 := hid hd2; clear hd2
                go_wp2_with fail
                go_big_quiet (fail)
                go_wp2_with fail
                go_big_quiet (fail)
                go_wp2_with fail
                go_big_quiet (fail)
                go_wp2_with (at_builtin; refine wpList_append_any _ rfl _ _ _ rfl w2.heap.size 109 i0 _ 3 24 Tryd.underlying48 hi0 iz0 iz1 iz2 rfl (by decide) (.slice pa acc.length pc) acc.length (edCells acc) rfl (by repeat (first | (with_reducible exact HO.out) | (with_reducible refine World.ownsRow.alloc ?_ _) | (with_reducible refine own_drewN ?_ _) | (with_reducible refine World.ownsRow.drew ?_))) (some ⟨_, 0, none⟩) 1 1 [.int .i64 2, .int .i64 nk, .int .i64 a.fo[nk]] rfl rfl (fun h => by cases h) (box_news (Box.at _ _ (by simp)) rfl) (by simp [Value.oneCell']) (by omega) (by omega) (by simp; omega) ?_; intro a' c' w1' own1 gr1 pl1; apply stand)
                refine hid ?_; go_wp2_with fail; refine ⟨⟨ni, nk + 1, by omega, by omega, by go_num, by go_num, EdI.app HA.out hal (by repeat (first | (with_reducible exact HR.out) | (with_reducible refine Below.alloc ?_ (by have := HR.out.size; simp; omega) _) | (with_reducible refine below_drewN ?_ _) | (with_reducible refine Below.drew ?_))) gr1 (fun r e => (HO.out.lt r e).1) own1 (by omega) hni hnk ?_⟩, by simp [intOf]; omega⟩; unfold nxt; rw [dif_pos ⟨hi, hk⟩, if_neg HEQ.out, if_neg HD.out, if_neg HD2.out]
        · have q0 : dd a.st a.fo ni nk = dd a.st a.fo (ni + 1) nk + 1 := by
            have e1 : dd a.st a.fo ni nk = (a.st.length - ni) + (a.fo.length - nk) := dist_end (.inr (by omega))
            have e2 : dd a.st a.fo (ni + 1) nk = (a.st.length - (ni + 1)) + (a.fo.length - nk) := dist_end (.inr (by omega))
            omega
          have hq3 : ((dd a.st a.fo ni nk : Int) == (dd a.st a.fo (ni + 1) nk : Int) + 1) = true := by rw [q0]; simp
          have HK2 := hid hk
          clear q0
          go_wp2_with fail
          go_big_quiet (fail)
          go_wp2_with fail
          go_big_quiet (fail)
          go_wp2_with fail
          go_big_quiet (fail)
          go_wp2_with (at_builtin; refine wpList_append_any _ rfl _ _ _ rfl w2.heap.size 109 i0 _ 3 24 Tryd.underlying48 hi0 iz0 iz1 iz2 rfl (by decide) (.slice pa acc.length pc) acc.length (edCells acc) rfl (by repeat (first | (with_reducible exact HO.out) | (with_reducible refine World.ownsRow.alloc ?_ _) | (with_reducible refine own_drewN ?_ _) | (with_reducible refine World.ownsRow.drew ?_))) (some ⟨_, 0, none⟩) 1 1 [.int .i64 1, .int .i64 nk, .int .i64 0] rfl rfl (fun h => by cases h) (box_news (Box.at _ _ (by simp)) rfl) (by simp [Value.oneCell']) (by omega) (by omega) (by simp; omega) ?_; intro a' c' w1' own1 gr1 pl1; apply stand)
          refine hid ?_; go_wp2_with fail; refine ⟨⟨ni + 1, nk, by omega, by omega, by go_num, by go_num, EdI.app HA.out hal (by repeat (first | (with_reducible exact HR.out) | (with_reducible refine Below.alloc ?_ (by have := HR.out.size; simp; omega) _) | (with_reducible refine below_drewN ?_ _) | (with_reducible refine Below.drew ?_))) gr1 (fun r e => (HO.out.lt r e).1) own1 (by omega) hni hnk ?_⟩, by simp [intOf]; omega⟩; unfold nxt; rw [dif_neg (fun h => HK2.out h.2), if_pos hi]
      · by_cases hk : nk < a.fo.length
        · obtain ⟨bb, bo, rfl, cb⟩ := (H2.out.below WB.out).below HR.out nk hk
          have HI2 := hid hi
          go_wp2_with fail
          go_big_quiet (fail)
          go_wp2_with fail
          go_big_quiet (fail)
          go_wp2_with fail
          go_big_quiet (fail)
          go_wp2_with (at_builtin; refine wpList_append_any _ rfl _ _ _ rfl w2.heap.size 109 i0 _ 3 24 Tryd.underlying48 hi0 iz0 iz1 iz2 rfl (by decide) (.slice pa acc.length pc) acc.length (edCells acc) rfl (by repeat (first | (with_reducible exact HO.out) | (with_reducible refine World.ownsRow.alloc ?_ _) | (with_reducible refine own_drewN ?_ _) | (with_reducible refine World.ownsRow.drew ?_))) (some ⟨_, 0, none⟩) 1 1 [.int .i64 2, .int .i64 nk, .int .i64 a.fo[nk]] rfl rfl (fun h => by cases h) (box_news (Box.at _ _ (by simp)) rfl) (by simp [Value.oneCell']) (by omega) (by omega) (by simp; omega) ?_; intro a' c' w1' own1 gr1 pl1; apply stand)
          refine hid ?_; go_wp2_with fail; refine ⟨⟨ni, nk + 1, by omega, by omega, by go_num, by go_num, EdI.app HA.out hal (by repeat (first | (with_reducible exact HR.out) | (with_reducible refine Below.alloc ?_ (by have := HR.out.size; simp; omega) _) | (with_reducible refine below_drewN ?_ _) | (with_reducible refine Below.drew ?_))) gr1 (fun r e => (HO.out.lt r e).1) own1 (by omega) hni hnk ?_⟩, by simp [intOf]; omega⟩; unfold nxt; rw [dif_neg (fun h => HI2.out h.1), if_neg HI2.out, dif_pos hk]
        · go_wp2_with fail
          refine bodyPost_ret (results_tmp2 rfl _ _ _) rfl ?_
          obtain rfl : ni = a.st.length := by omega
          obtain rfl : nk = a.fo.length := by omega
          have h := HA.out
          rw [edL_end, List.append_nil] at h
          unfold editsR; rw [if_pos HK.out]
          exact ⟨_, rfl, ⟨pa, pc, by rw [h]; rfl, by rw [← h]; exact RdE.of_own HO.out⟩, WB.out.trans (HR.out.mono WB.out.size)⟩
  · have HK := hid hok
    rw [Bool.not_eq_true] at hok
    rw [hok]
    clear hok
    go_wp2_with fail
    refine bodyPost_ret (results_tmp2 rfl _ _ _) rfl ?_
    unfold editsR; rw [if_neg HK.out]
    exact ⟨_, rfl, ⟨none, 0, rfl, RdE.nil _ _⟩, hbw⟩

end Go.Proofs.YthddoikmgpgakaaDoor
