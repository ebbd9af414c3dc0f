/- A walk over what a call's frame is known to hold: registers by what they read as, blocks of the call's own by what lies in them, all else frozen. No condition. -/
import Derived.WalkKit
import Derived.Handy
import Derived.Deep.AppendSrc
import Derived.Test.YtbkellknlcageaaDoorRegIn
import Derived.RangeFuncCalls
import Derived.RangeFuncNested
import Derived.RangeFuncLeaves
namespace Go.Proofs.YtbkellknlcageaaDoor.Sw
open Go.RowKit Go

/-- One store of frozen blocks lies in another. -/
def Gle (G G' : Nat → Option Obj) : Prop := ∀ b o, G b = some o → G' b = some o
theorem Gle.refl (G : Nat → Option Obj) : Gle G G := fun _ _ h => h
theorem Gle.trans {A B C : Nat → Option Obj} (h : Gle A B) (k : Gle B C) : Gle A C := fun b o e => k b o (h b o e)
/-- The world holds them. -/
def Gin (G : Nat → Option Obj) (w : World) : Prop := ∀ b o, G b = some o → w.heap[b]? = some o
/-- A cell of a frozen block. -/
def cellG (G : Nat → Option Obj) (b i : Nat) : Option Value := match G b with | some (.cells c _ _) => c[i]? | _ => none
theorem cellG.le {G G' : Nat → Option Obj} (h : Gle G G') {b i : Nat} {v : Value} (e : cellG G b i = some v) : cellG G' b i = some v := by
  unfold cellG at *
  cases hb : G b with
  | none => rw [hb] at e; cases e
  | some o => rw [h b o hb]; rw [hb] at e; exact e
theorem cellG.cell {G : Nat → Option Obj} {w : World} (h : Gin G w) {b i : Nat} {v : Value} (e : cellG G b i = some v) : w.cell? ⟨b, i, none⟩ = some v := by
  unfold cellG at e
  cases hb : G b with
  | none => rw [hb] at e; cases e
  | some o =>
    rw [hb] at e
    cases o <;> first | (unfold World.cell?; rw [h b _ hb]; exact e) | cases e

/-- What a value reads as, over frozen blocks. -/
structure AV where
  P : (Nat → Option Obj) → Value → Prop
  mono : ∀ {G G' : Nat → Option Obj} {v : Value}, Gle G G' → P G v → P G' v
def Fits (G : Nat → Option Obj) : List AV → List Value → Prop
  | [], [] => True
  | c :: cs, v :: vs => c.P G v ∧ Fits G cs vs
  | _, _ => False
theorem Fits.mono {G G' : Nat → Option Obj} (h : Gle G G') : ∀ {cs : List AV} {vs : List Value}, Fits G cs vs → Fits G' cs vs
  | [], [], _ => trivial
  | c :: _, _ :: _, k => ⟨c.mono h k.1, Fits.mono h k.2⟩
  | [], _ :: _, k => k.elim
  | _ :: _, [], k => k.elim
theorem Fits.length {G : Nat → Option Obj} : ∀ {cs : List AV} {vs : List Value}, Fits G cs vs → vs.length = cs.length
  | [], [], _ => rfl
  | _ :: _, _ :: _, k => congrArg (· + 1) (Fits.length k.2)
  | [], _ :: _, k => k.elim
  | _ :: _, [], k => k.elim
theorem Fits.get {G : Nat → Option Obj} : ∀ {cs : List AV} {vs : List Value}, Fits G cs vs → ∀ {i : Nat} {av : AV}, cs[i]? = some av → ∃ v, vs[i]? = some v ∧ av.P G v
  | c :: _, v :: _, k, 0, av, h => ⟨v, rfl, by simp at h; exact h ▸ k.1⟩
  | _ :: cs, _ :: vs, k, i + 1, av, h => by simpa using Fits.get k.2 (i := i) (av := av) (by simpa using h)
  | [], [], _, _, _, h => by simp at h
  | [], _ :: _, k, _, _, _ => k.elim
  | _ :: _, [], k, _, _, _ => k.elim
theorem Fits.set {G : Nat → Option Obj} : ∀ {cs : List AV} {vs : List Value}, Fits G cs vs → ∀ (i : Nat) {av : AV} {v : Value}, av.P G v → Fits G (cs.set i av) (vs.set i v)
  | _ :: _, _ :: _, k, 0, _, _, h => ⟨h, k.2⟩
  | _ :: _, _ :: _, k, i + 1, _, _, h => ⟨k.1, Fits.set k.2 i h⟩
  | [], [], _, _, _, _, _ => trivial
  | [], _ :: _, k, _, _, _, _ => k.elim
  | _ :: _, [], k, _, _, _, _ => k.elim
theorem Fits.append {G : Nat → Option Obj} : ∀ {cs ds : List AV} {vs us : List Value}, Fits G cs vs → Fits G ds us → Fits G (cs ++ ds) (vs ++ us)
  | [], _, [], _, _, k => k
  | _ :: _, _, _ :: _, _, h, k => ⟨h.1, Fits.append h.2 k⟩
  | [], _, _ :: _, _, h, _ => h.elim
  | _ :: _, _, [], _, h, _ => h.elim
theorem Fits.take {G : Nat → Option Obj} : ∀ {cs : List AV} {vs : List Value}, Fits G cs vs → ∀ n, Fits G (cs.take n) (vs.take n)
  | [], [], _, n => by simp [Fits]
  | _ :: _, _ :: _, _, 0 => trivial
  | _ :: _, _ :: _, k, n + 1 => ⟨k.1, Fits.take k.2 n⟩
  | [], _ :: _, k, _ => k.elim
  | _ :: _, [], k, _ => k.elim
theorem Fits.drop {G : Nat → Option Obj} : ∀ {cs : List AV} {vs : List Value}, Fits G cs vs → ∀ n, Fits G (cs.drop n) (vs.drop n)
  | [], [], _, n => by simp [Fits]
  | _ :: _, _ :: _, k, 0 => k
  | _ :: _, _ :: _, k, n + 1 => by simpa using Fits.drop k.2 n
  | [], _ :: _, k, _ => k.elim
  | _ :: _, [], k, _ => k.elim

/-- Exactly this value. -/
def AV.val (u : Value) : AV := ⟨fun _ v => v = u, fun _ h => h⟩
/-- A struct or an array, by its cells. -/
def AV.agg (cs : List AV) : AV := ⟨fun G v => ∃ vs : List Value, v = .agg vs.toArray ∧ Fits G cs vs, fun h ⟨vs, e, k⟩ => ⟨vs, e, k.mono h⟩⟩
/-- Several results. -/
def AV.tup (cs : List AV) : AV := ⟨fun G v => ∃ vs : List Value, v = .tuple vs.toArray ∧ Fits G cs vs, fun h ⟨vs, e, k⟩ => ⟨vs, e, k.mono h⟩⟩
/-- From this address on the cells of these elements lie. -/
def SlP {α : Type} (G : Nat → Option Obj) (n : Nat) (f : α → List AV) (a : Option Addr) (xs : List α) : Prop :=
  ∀ i (h : i < xs.length), ∃ b o, a = some ⟨b, o, none⟩ ∧ ∀ j av, (f xs[i])[j]? = some av → ∃ u, cellG G b (o + i * n + j) = some u ∧ av.P G u
theorem SlP.mono {α : Type} {G G' : Nat → Option Obj} (h : Gle G G') {n : Nat} {f : α → List AV} {a : Option Addr} {xs : List α} (k : SlP G n f a xs) : SlP G' n f a xs := fun i hi =>
  let ⟨b, o, e1, e2⟩ := k i hi; ⟨b, o, e1, fun j av e => let ⟨u, e3, e4⟩ := e2 j av e; ⟨u, cellG.le h e3, av.mono h e4⟩⟩
/-- A frozen slice, by its elements, each of n cells. -/
def AV.sl {α : Type} (n : Nat) (f : α → List AV) (xs : List α) : AV := ⟨fun G v => ∃ a c, v = .slice a xs.length c ∧ xs.length ≤ c ∧ SlP G n f a xs, fun h ⟨a, c, e, hc, k⟩ => ⟨a, c, e, hc, k.mono h⟩⟩
/-- A pointer to cell j of element k of a frozen slice. -/
def AV.el {α : Type} (n : Nat) (f : α → List AV) (xs : List α) (k j : Nat) : AV := ⟨fun G v => ∃ b o, v = .pointer (some ⟨b, o + k * n + j, none⟩) ∧ SlP G n f (some ⟨b, o, none⟩) xs, fun h ⟨b, o, e, k⟩ => ⟨b, o, e, k.mono h⟩⟩
/-- A number as a cell. -/
def iC (x : Int) : List AV := [.val (.int .i64 x)]
/-- A pointer to cell j of the box that p points to. -/
def AV.at (p : Value) (j : Nat) : AV := ⟨fun _ v => ∃ b, p = .pointer (some ⟨b, 0, none⟩) ∧ v = .pointer (some ⟨b, j, none⟩), fun _ h => h⟩
/-- A pointer to cell j of element k of the own slice v. -/
def AV.rat (v : Value) (n k j : Nat) : AV := ⟨fun _ u => ∃ b len cap, v = .slice (some ⟨b, 0, none⟩) len cap ∧ u = .pointer (some ⟨b, k * n + j, none⟩), fun _ h => h⟩

/-- What lies in blocks of the call's own. -/
structure HA where
  P : (Nat → Option Obj) → List Nat → World → Prop
  mono : ∀ {G G' : Nat → Option Obj} {F : List Nat} {w : World}, Gle G G' → P G F w → P G' F w
  loc : ∀ {G : Nat → Option Obj} {F : List Nat} {w w' : World}, (∀ b ∈ F, w'.heap[b]? = w.heap[b]?) → P G F w → P G F w'
/-- A box: a block of these cells. -/
def HA.box (p : Value) (cs : List AV) (t : TypeId) : HA :=
  ⟨fun G F w => ∃ b vs, p = .pointer (some ⟨b, 0, none⟩) ∧ F = [b] ∧ Fits G cs vs ∧ w.heap[b]? = some (.cells vs.toArray t (0, 0)),
   fun h ⟨b, vs, e1, e2, e3, e4⟩ => ⟨b, vs, e1, e2, e3.mono h, e4⟩,
   fun h ⟨b, vs, e1, e2, e3, e4⟩ => ⟨b, vs, e1, e2, e3, (h b (by rw [e2]; simp)).trans e4⟩⟩
/-- An own slice, by its elements, each of n cells. -/
def HA.row {α : Type} (v : Value) (e : TypeId) (n : Nat) (f : α → List AV) (xs : List α) : HA :=
  ⟨fun G F w => ∃ vs : List Value, F = v.ownBlock.toList ∧ (∀ x ∈ xs, (f x).length = n) ∧ Fits G (xs.flatMap f) vs ∧ (∀ u ∈ vs, u.oneCell' = true) ∧ w.ownsRow 0 e n v xs.length vs,
   fun h ⟨vs, e1, e2, e3, e4⟩ => ⟨vs, e1, e2, e3.mono h, e4⟩,
   fun {_ _ w w'} h ⟨vs, e1, e2, e3, e5, e4⟩ => ⟨vs, e1, e2, e3, e5, e4.1, e4.2.imp id fun ⟨g, cap, cur, hv, hb, hg, r⟩ => ⟨g, cap, cur, hv, hb, (h g (by rw [e1, hv]; simp [Value.ownBlock])).trans hg, r⟩⟩⟩

def hsP : List HA → (Nat → Option Obj) → List Nat → World → Prop
  | [], _, F, _ => F = []
  | h :: t, G, F, w => ∃ F1 F2, F.Perm (F1 ++ F2) ∧ h.P G F1 w ∧ hsP t G F2 w
theorem hsP.mono {G G' : Nat → Option Obj} {w : World} (h : Gle G G') : ∀ {hs : List HA} {F : List Nat}, hsP hs G F w → hsP hs G' F w
  | [], _, k => k
  | x :: _, _, ⟨F1, F2, e, k1, k2⟩ => ⟨F1, F2, e, x.mono h k1, hsP.mono h k2⟩
theorem hsP.loc {G : Nat → Option Obj} {w w' : World} : ∀ {hs : List HA} {F : List Nat}, (∀ b ∈ F, w'.heap[b]? = w.heap[b]?) → hsP hs G F w → hsP hs G F w'
  | [], _, _, k => k
  | x :: _, _, h, ⟨F1, F2, e, k1, k2⟩ => ⟨F1, F2, e, x.loc (fun b hb => h b (e.mem_iff.2 (by simp [hb]))) k1, hsP.loc (fun b hb => h b (e.mem_iff.2 (by simp [hb]))) k2⟩
theorem hsP.perm {G : Nat → Option Obj} {w : World} : ∀ {hs : List HA} {F F' : List Nat}, F'.Perm F → hsP hs G F w → hsP hs G F' w
  | [], _, F', p, k => by have k' : _ = [] := k; subst k'; exact (show F' = [] from p.eq_nil)
  | _ :: _, _, _, p, ⟨F1, F2, e, k1, k2⟩ => ⟨F1, F2, p.trans e, k1, k2⟩
theorem hsP.append {G : Nat → Option Obj} {w : World} : ∀ {hs ks : List HA} {F1 F2 : List Nat}, hsP hs G F1 w → hsP ks G F2 w → hsP (hs ++ ks) G (F1 ++ F2) w
  | [], _, F1, _, h, k => by have h' : F1 = [] := h; subst h'; exact k
  | _ :: _, _, _, F2, ⟨A, B, e, h1, h2⟩, k => ⟨A, B ++ F2, (e.append_right F2).trans (by rw [List.append_assoc]), h1, hsP.append h2 k⟩
theorem hsP.split {G : Nat → Option Obj} {w : World} : ∀ {hs ks : List HA} {F : List Nat}, hsP (hs ++ ks) G F w → ∃ F1 F2, F.Perm (F1 ++ F2) ∧ hsP hs G F1 w ∧ hsP ks G F2 w
  | [], _, F, h => ⟨[], F, .refl _, rfl, h⟩
  | _ :: _, _, F, ⟨A, B, e, h1, h2⟩ => by
    obtain ⟨B1, B2, e2, k1, k2⟩ := hsP.split h2
    exact ⟨A ++ B1, B2, e.trans ((e2.append_left A).trans (by rw [List.append_assoc])), ⟨A, B1, .refl _, h1, k1⟩, k2⟩

structure Inv (G : Nat → Option Obj) (F : List Nat) (hs : List HA) (w : World) : Prop where
  gin : Gin G w
  nd : F.Nodup
  own : ∀ b ∈ F, b < w.heap.size ∧ G b = none
  hs : hsP hs G F w
/-- From one world to the next: nothing turns but these blocks. -/
structure Fr (w w' : World) (F F' : List Nat) (G G' : Nat → Option Obj) : Prop where
  os : w'.os = w.os
  tape : w'.tape = w.tape
  output : w'.output = w.output
  size : w.heap.size ≤ w'.heap.size
  same : ∀ b, b < w.heap.size → b ∉ F → w'.heap[b]? = w.heap[b]?
  newF : ∀ b ∈ F', b ∈ F ∨ w.heap.size ≤ b
  gle : Gle G G'
  newG : ∀ b o, G' b = some o → G b = some o ∨ b ∈ F ∨ w.heap.size ≤ b
theorem Fr.refl (w : World) (F : List Nat) (G : Nat → Option Obj) : Fr w w F F G G := ⟨rfl, rfl, rfl, Nat.le_refl _, fun _ _ _ => rfl, fun _ h => .inl h, Gle.refl _, fun _ _ h => .inl h⟩
theorem Fr.trans {w w' w'' : World} {F F' F'' : List Nat} {G G' G'' : Nat → Option Obj} (h : Fr w w' F F' G G') (k : Fr w' w'' F' F'' G' G'') : Fr w w'' F F'' G G'' where
  os := k.os.trans h.os
  tape := k.tape.trans h.tape
  output := k.output.trans h.output
  size := Nat.le_trans h.size k.size
  same b hb hn := (k.same b (Nat.lt_of_lt_of_le hb h.size) fun hm => by rcases h.newF b hm with h1 | h1; exact hn h1; omega).trans (h.same b hb hn)
  newF b hb := by
    rcases k.newF b hb with h1 | h1
    · exact h.newF b h1
    · exact .inr (Nat.le_trans h.size h1)
  gle := h.gle.trans k.gle
  newG b o hb := by
    rcases k.newG b o hb with h1 | h1 | h1
    · exact h.newG b o h1
    · exact .inr (h.newF b h1)
    · exact .inr (.inr (Nat.le_trans h.size h1))
theorem Gin.lt {G : Nat → Option Obj} {w : World} (h : Gin G w) {b : Nat} {o : Obj} (e : G b = some o) : b < w.heap.size := (Array.getElem?_eq_some_iff.1 (h b o e)).1

/-- A part of what is owned goes its way; the rest abides. -/
theorem Inv.frame {G : Nat → Option Obj} {F : List Nat} {cons rest : List HA} {w : World} (h : Inv G F (cons ++ rest) w) :
    ∃ F1, Inv G F1 cons w ∧ ∀ {G' : Nat → Option Obj} {F1' : List Nat} {prod : List HA} {w' : World}, Fr w w' F1 F1' G G' → Inv G' F1' prod w' → ∃ F', Inv G' F' (prod ++ rest) w' ∧ Fr w w' F F' G G' := by
  obtain ⟨F1, F2, e, h1, h2⟩ := hsP.split h.hs
  have nd := (e.nodup_iff).1 h.nd
  have hd : ∀ b ∈ F1, b ∉ F2 := fun b hb hb2 => (List.nodup_append.1 nd).2.2 b hb b hb2 rfl
  refine ⟨F1, ⟨h.gin, (List.nodup_append.1 nd).1, fun b hb => h.own b (e.mem_iff.2 (by simp [hb])), h1⟩, fun {G' F1' prod w'} fr k => ?_⟩
  have hs2 : ∀ b ∈ F2, w'.heap[b]? = w.heap[b]? := fun b hb => fr.same b (h.own b (e.mem_iff.2 (by simp [hb]))).1 (fun hb1 => hd b hb1 hb)
  have hn : ∀ b ∈ F2, b ∉ F1' := fun b hb hb1 => by
    rcases fr.newF b hb1 with h1 | h1
    · exact hd b h1 hb
    · have := (h.own b (e.mem_iff.2 (by simp [hb]))).1; omega
  refine ⟨F1' ++ F2, ⟨k.gin, List.nodup_append.2 ⟨k.nd, (List.nodup_append.1 nd).2.1, fun a ha b hb e => by subst e; exact hn a hb ha⟩, fun b hb => ?_, hsP.append k.hs ((h2.loc hs2).mono fr.gle)⟩,
    ⟨fr.os, fr.tape, fr.output, fr.size, fun b hb hF => fr.same b hb (fun h1 => hF (e.mem_iff.2 (by simp [h1]))), fun b hb => ?_, fr.gle, fun b o hb => ?_⟩⟩
  · rcases List.mem_append.1 hb with h1 | h1
    · exact k.own b h1
    · have ho := h.own b (e.mem_iff.2 (by simp [h1]))
      refine ⟨Nat.lt_of_lt_of_le ho.1 fr.size, ?_⟩
      cases hg : G' b with
      | none => rfl
      | some o =>
        rcases fr.newG b o hg with h3 | h3 | h3
        · rw [ho.2] at h3; cases h3
        · exact absurd h1 (hd b h3)
        · omega
  · rcases List.mem_append.1 hb with h1 | h1
    · rcases fr.newF b h1 with h3 | h3
      · exact .inl (e.mem_iff.2 (by simp [h3]))
      · exact .inr h3
    · exact .inl (e.mem_iff.2 (by simp [h1]))
  · rcases fr.newG b o hb with h3 | h3 | h3
    · exact .inl h3
    · exact .inr (.inl (e.mem_iff.2 (by simp [h3])))
    · exact .inr (.inr h3)

/-- What is known: registers, and what is owned. -/
structure S where
  rs : List (Nat × AV)
  hs : List HA
def look : List (Nat × AV) → Nat → Option AV
  | [], _ => none
  | (j, av) :: t, i => bif Nat.beq j i then some av else look t i
def RegOK (rs : List (Nat × AV)) (G : Nat → Option Obj) (a : Act) : Prop := ∀ i av, look rs i = some av → av.P G (a.tmps.getD i undef)
theorem RegOK.mono {rs : List (Nat × AV)} {G G' : Nat → Option Obj} {a : Act} (h : RegOK rs G a) (k : Gle G G') : RegOK rs G' a := fun i av e => av.mono k (h i av e)

/-- Everything is let in. -/
def Wd (F : Fence) : Prop := F = Fence.wide ∨ ∃ l, F = Fence.wide.inRound l
theorem Wd.fn {F : Fence} (h : Wd F) (f : FuncId) : F.fn f := by rcases h with rfl | ⟨l, rfl⟩ <;> exact trivial
theorem Wd.depth {F : Fence} (h : Wd F) : F.depth = none := by rcases h with rfl | ⟨l, rfl⟩ <;> rfl
theorem Wd.calls {F : Fence} (h : Wd F) {n : Nat} {P : Program} {f : FuncId} {args : Array Value} {w : World} {R : Ending → World → Prop} (k : Calls P f args w R) : CallsIn F n P f args w R := by
  rcases h with rfl | ⟨l, rfl⟩
  · exact callsIn_wide.2 k
  · exact CallsIn.inRound l (callsIn_wide.2 k)
/-- What a walk is over: the fence, the program, the world at the beginning. -/
structure Cx where
  F : Fence
  n : Nat
  P : Program
  w0 : World
  F0 : List Nat
  G0 : Nat → Option Obj
  nt : Nat
  wd : Wd F
/-- The marks that loops over iterators have left: each a block of the call's own, none of what is owned or frozen. -/
def mark (D : Nat) : Deferred := { target := .collected D, args := #[] }
def Mk (c : Cx) (G : Nat → Option Obj) (F : List Nat) (w : World) (ds : List Deferred) : Prop := ∃ Ds : List Nat, ds = Ds.map mark ∧ Ds.Nodup ∧ (∀ D ∈ Ds, c.w0.heap.size ≤ D ∧ D ∉ F ∧ G D = none ∧ w.heap[D]? = some (.deferred (some []))) ∧ (c.F.round ≠ none → Ds = [])
theorem Mk.nil (c : Cx) (G : Nat → Option Obj) (F : List Nat) (w : World) : Mk c G F w [] := ⟨[], rfl, List.nodup_nil, fun _ h => (by cases h), fun _ => rfl⟩
theorem Mk.step {c : Cx} {G G' : Nat → Option Obj} {F F' : List Nat} {w w' : World} {ds : List Deferred} (h : Mk c G F w ds) (k : Fr w w' F F' G G') : Mk c G' F' w' ds := by
  obtain ⟨Ds, e, n, a, z⟩ := h
  refine ⟨Ds, e, n, fun D hD => ?_, z⟩
  obtain ⟨h1, h2, h3, h4⟩ := a D hD
  have hlt := (Array.getElem?_eq_some_iff.1 h4).1
  refine ⟨h1, fun hF => ?_, ?_, (k.same D hlt h2).trans h4⟩
  · rcases k.newF D hF with h | h
    · exact h2 h
    · omega
  · cases hg : G' D with
    | none => rfl
    | some o =>
      rcases k.newG D o hg with h | h | h
      · rw [h3] at h; cases h
      · exact absurd h h2
      · omega
theorem Mk.sub {c : Cx} {G : Nat → Option Obj} {F F' : List Nat} {w : World} {ds : List Deferred} (h : Mk c G F w ds) (k : ∀ b ∈ F', b ∈ F) : Mk c G F' w ds := by
  obtain ⟨Ds, e, n, a, z⟩ := h
  exact ⟨Ds, e, n, fun D hD => ⟨(a D hD).1, fun hF => (a D hD).2.1 (k D hF), (a D hD).2.2⟩, z⟩
def St (c : Cx) (s : S) (a : Act) (w : World) : Prop := ∃ G F, Inv G F s.hs w ∧ Fr c.w0 w c.F0 F c.G0 G ∧ RegOK s.rs G a ∧ a.tmps.size = c.nt ∧ Mk c G F w a.defers
def Post (c : Cx) (Q : Exit → S → Prop) : Exit → Act → World → Prop := fun e a w => ∃ s, St c s a w ∧ Q e s
structure W (c : Cx) (k : Code) (s : S) (Q : Exit → S → Prop) : Prop where
  out : ∀ a w, St c s a w → k.wpIn c.F c.n c.P (Post c Q) a w
structure WL (c : Cx) (ops : Array Oper) (l : List Oper) (s : S) (Q : Exit → S → Prop) : Prop where
  out : ∀ a w, St c s a w → wpListIn c.F c.n c.P ops (Post c Q) l a w

def thenQ (N : S → Prop) (Q : Exit → S → Prop) : Exit → S → Prop
  | .normal, s => N s
  | e, s => Q e s
def blockQ (id : Nat) (Q : Exit → S → Prop) : Exit → S → Prop
  | .exit id', s => if id' = id then Q .normal s else Q (.exit id') s
  | e, s => Q e s
/-- What a body may end in. -/
def retQ (R : S → Prop) : Exit → S → Prop
  | .normal, s => R s
  | .ret, s => R s
  | _, _ => False

section
variable {c : Cx} {s : S} {Q : Exit → S → Prop}
theorem W_skip (h : Q .normal s) : W c .skip s Q := ⟨fun _ _ st => wpIn_skip ⟨s, st, h⟩⟩
theorem W_ret (h : Q .ret s) : W c .ret s Q := ⟨fun _ _ st => wpIn_ret ⟨s, st, h⟩⟩
theorem W_exit {id : Nat} (h : Q (.exit id) s) : W c (.exit id) s Q := ⟨fun _ _ st => wpIn_exit ⟨s, st, h⟩⟩
theorem W_seq {x y : Code} (h : W c x s (thenQ (fun s' => W c y s' Q) Q)) : W c (.seq x y) s Q := ⟨fun a w st =>
  wpIn_seq (Go.wpIn_mono (h.out a w st) fun e a' w' ⟨s', st', q⟩ => by
    cases e with
    | normal => exact q.out a' w' st'
    | _ => exact ⟨s', st', q⟩)⟩
theorem W_block {id : Nat} {x : Code} (h : W c x s (blockQ id Q)) : W c (.block id x) s Q := ⟨fun a w st =>
  wpIn_block (Go.wpIn_mono (h.out a w st) fun e a' w' ⟨s', st', q⟩ => by
    cases e with
    | exit id' =>
      simp only [Exit.inBlock, blockQ] at q ⊢
      split
      · rename_i hid; rw [if_pos hid] at q; exact ⟨s', st', q⟩
      · rename_i hid; rw [if_neg hid] at q; exact ⟨s', st', q⟩
    | _ => exact ⟨s', st', q⟩)⟩
theorem W_mono {x : Code} {Q' : Exit → S → Prop} (h : W c x s Q') (hq : ∀ e s, Q' e s → Q e s) : W c x s Q := ⟨fun a w st =>
  Go.wpIn_mono (h.out a w st) fun _ _ _ ⟨s', st', q⟩ => ⟨s', st', hq _ _ q⟩⟩
theorem exists_min {p : Nat → Prop} : ∀ m, p m → ∃ m, p m ∧ ∀ k, p k → m ≤ k := fun m => by
  induction m using Nat.strongRecOn with
  | _ m ih =>
    intro h
    by_cases hk : ∃ k, k < m ∧ p k
    · obtain ⟨k, h1, h2⟩ := hk; exact ih k h1 h2
    · exact ⟨m, h, fun k hp => Nat.le_of_not_lt fun hlt => hk ⟨k, hlt, hp⟩⟩
/-- A loop: states by a parameter, and a measure. -/
theorem W_loop {β : Type} {x : Code} (I : β → S) (μ : β → Nat) (b0 : β) (h0 : ∀ a w, St c s a w → St c (I b0) a w)
    (h : ∀ b, W c x (I b) (thenQ (fun s' => ∃ b', (∀ a w, St c s' a w → St c (I b') a w) ∧ μ b' < μ b) Q)) : W c (.loop x) s Q := ⟨fun a w st => by
  let p : Act → World → Nat → Prop := fun a w m => ∃ b, μ b = m ∧ St c (I b) a w
  let ν : Act → World → Nat := fun a w => @Classical.epsilon Nat ⟨0⟩ (fun m => p a w m ∧ ∀ k, p a w k → m ≤ k)
  have hν : ∀ {a w m}, p a w m → p a w (ν a w) ∧ ∀ k, p a w k → ν a w ≤ k := fun {a w m} hp =>
    Classical.epsilon_spec_aux ⟨0⟩ _ (exists_min m hp)
  refine wpIn_loop (fun a w => ∃ m, p a w m) ν ⟨_, b0, rfl, h0 a w st⟩ fun a w ⟨m, hm⟩ => ?_
  obtain ⟨⟨b, hb, hs⟩, _⟩ := hν hm
  refine Go.wpIn_mono ((h b).out a w hs) fun e a' w' ⟨s', st', q⟩ => ?_
  cases e with
  | normal =>
    obtain ⟨b', hi, hlt⟩ := q
    have hp : p a' w' (μ b') := ⟨b', rfl, hi a' w' st'⟩
    exact ⟨⟨_, hp⟩, Nat.lt_of_le_of_lt ((hν hp).2 _ hp) (hb ▸ hlt)⟩
  | _ => exact ⟨s', st', q⟩⟩
theorem W_region {id : Nat} {l : List Oper} (h : WL c l.toArray l s Q) : W c (.region id l.toArray false) s Q := ⟨fun a w st => wpIn_region_lit (h.out a w st)⟩
theorem WL_nil {ops : Array Oper} (h : Q .normal s) : WL c ops [] s Q := ⟨fun _ _ st => wpListIn_nil ⟨s, st, h⟩⟩
/-- A weaker state. -/
theorem W_weak {x : Code} (s' : S) (h0 : ∀ a w, St c s a w → St c s' a w) (h : W c x s' Q) : W c x s Q := ⟨fun a w st => h.out a w (h0 a w st)⟩
theorem W_cond {x y : Code} {t : Operand} {i : Nat} {b : Bool} (ht : t = .tmp i) (hl : look s.rs i = some (.val (.bool b))) (h1 : b = true → W c x s Q) (h2 : b = false → W c y s Q) : W c (.cond t x y) s Q := ⟨fun a w st => by
  obtain ⟨G, F, hI, hF, hR, hn, hd⟩ := st
  have e : a.eval t = .bool b := by subst ht; exact hR _ _ hl
  cases b with
  | true => exact wpIn_cond e ((h1 rfl).out a w ⟨G, F, hI, hF, hR, hn, hd⟩)
  | false => exact wpIn_cond e ((h2 rfl).out a w ⟨G, F, hI, hF, hR, hn, hd⟩)⟩
end

/-- A function value: what it is of, and what it has caught. -/
def AV.clo (k : FuncId) (caps : List AV) : AV := ⟨fun G v => ∃ vs : List Value, v = .func (.func k) #[] vs.toArray ∧ Fits G caps vs, fun h ⟨vs, e, hf⟩ => ⟨vs, e, hf.mono h⟩⟩
/-- What an operand reads as. -/
def opv (rs : List (Nat × AV)) : Operand → Option AV
  | .tmp i => look rs i
  | .const v => some (.val v)
  | .func f => some (.clo f [])
  | .global g => some (.val (.pointer (some ⟨g, 0, none⟩)))
theorem opv_ok {rs : List (Nat × AV)} {G : Nat → Option Obj} {a : Act} (h : RegOK rs G a) {x : Operand} {av : AV} (e : opv rs x = some av) : av.P G (a.eval x) := by
  cases x <;> simp only [opv, Option.some.injEq] at e
  · exact h _ _ e
  · subst e; rfl
  · subst e; rfl
  · subst e; exact ⟨[], rfl, trivial⟩
def opvs (rs : List (Nat × AV)) : List Operand → Option (List AV)
  | [] => some []
  | x :: xs => match opv rs x, opvs rs xs with | some av, some avs => some (av :: avs) | _, _ => none
theorem opvs_ok {rs : List (Nat × AV)} {G : Nat → Option Obj} {a : Act} (h : RegOK rs G a) : ∀ {xs : List Operand} {avs : List AV}, opvs rs xs = some avs → Fits G avs (xs.map a.eval)
  | [], avs, e => by simp only [opvs, Option.some.injEq] at e; subst e; trivial
  | x :: xs, avs, e => by
    unfold opvs at e
    split at e
    · rename_i av avs' h1 h2
      obtain rfl := Option.some.inj e
      exact ⟨opv_ok h h1, opvs_ok h h2⟩
    · cases e

def putR : Option Nat → AV → List (Nat × AV) → List (Nat × AV)
  | none, _, rs => rs
  | some d, av, rs => (d, av) :: rs
def okD : Option Nat → Nat → Bool
  | none, _ => true
  | some d, n => Nat.blt d n
theorem RegOK.put {rs : List (Nat × AV)} {G : Nat → Option Obj} {a : Act} (h : RegOK rs G a) {d : Option Nat} {n : Nat} (hn : a.tmps.size = n) (hd : okD d n = true) {av : AV} {v : Value} (hv : av.P G v) : RegOK (putR d av rs) G (a.put d v) := by
  cases d with
  | none => exact h
  | some d =>
    intro i av' e
    have hlt : d < a.tmps.size := by rw [hn]; simp only [okD, Nat.blt, Nat.ble_eq] at hd; omega
    simp only [putR, look] at e
    cases hb : Nat.beq d i with
    | true =>
      rw [hb] at e
      obtain rfl := Nat.eq_of_beq_eq_true hb
      simp only [cond_true, Option.some.injEq] at e
      subst e
      simpa [Act.put, Array.getD, hlt] using hv
    | false =>
      rw [hb] at e
      have hne : d ≠ i := fun e => by subst e; rw [Nat.beq_refl] at hb; cases hb
      have := h i av' (by simpa using e)
      have hg : (a.put (some d) v).tmps.getD i undef = a.tmps.getD i undef := by
        simp only [Act.put, Array.getD_eq_getD_getElem?, Array.getElem?_setIfInBounds, if_neg hne]
      rw [hg]; exact this
theorem size_put (a : Act) (d : Option Nat) (v : Value) : (a.put d v).tmps.size = a.tmps.size ∧ (a.put d v).defers = a.defers := by
  cases d <;> simp [Act.put]

/-- What an operation does, from a part of what is owned. -/
structure LT (P : Program) (o : Oper) (rs : List (Nat × AV)) (cons : List HA) (post : AV → List HA → Prop) : Prop where
  go : ∀ (F : Fence) (n : Nat), Wd F → ∀ (a : Act) (w : World) (G : Nat → Option Obj) (Fp : List Nat) (K : Act → World → Prop) (Q : Exit → Act → World → Prop), RegOK rs G a → Inv G Fp cons w →
    (∀ v av prod G' F' w', post av prod → Fr w w' Fp F' G G' → Inv G' F' prod w' → av.P G' v → K (a.put o.dst v) w') → o.wpIn F n P a w K Q
/-- One known outcome. -/
def Is (av : AV) (prod : List HA) : AV → List HA → Prop := fun x y => x = av ∧ y = prod

section
variable {c : Cx} {s : S} {Q : Exit → S → Prop} {ops : Array Oper} {tl : List Oper}
theorem WL_lt {o : Oper} {cons rest : List HA} {post : AV → List HA → Prop} (hd : okD o.dst c.nt = true) (hg : o.guard = none) (hsel : ∀ G F w, hsP s.hs G F w → hsP (cons ++ rest) G F w)
    (h : LT c.P o s.rs cons post) (k : ∀ av prod, post av prod → WL c ops tl ⟨putR o.dst av s.rs, prod ++ rest⟩ Q) : WL c ops (o :: tl) s Q := ⟨fun a w st => by
  obtain ⟨G, F, hI, hF, hR, hn, hd'⟩ := st
  refine wpListIn_plain hg fun K hK => ?_
  obtain ⟨F1, h1, h2⟩ := Inv.frame (cons := cons) (rest := rest) ⟨hI.gin, hI.nd, hI.own, hsel _ _ _ hI.hs⟩
  refine h.go c.F c.n c.wd a w G F1 K _ hR h1 fun v av prod G' F' w' hp hf hi hv => ?_
  obtain ⟨F'', h3, h4⟩ := h2 hf hi
  refine hK _ _ ((k av prod hp).out _ _ ⟨G', F'', h3, hF.trans h4, (hR.mono h4.gle).put hn hd hv, ?_, ?_⟩)
  · rw [(size_put a _ v).1, hn]
  · rw [(size_put a _ v).2]; exact hd'.step h4⟩
/-- Nothing owned is touched. -/
theorem WL_ex {o : Oper} {av : AV} (hd : okD o.dst c.nt = true) (hg : o.guard = none) (h : LT c.P o s.rs [] (Is av [])) (k : WL c ops tl ⟨putR o.dst av s.rs, s.hs⟩ Q) : WL c ops (o :: tl) s Q :=
  WL_lt (cons := []) (rest := s.hs) hd hg (fun _ _ _ h => h) h fun av' prod ⟨e1, e2⟩ => by subst e1; subst e2; exact k
/-- Something new is owned. -/
theorem WL_new {o : Oper} {post : AV → List HA → Prop} (hd : okD o.dst c.nt = true) (hg : o.guard = none) (h : LT c.P o s.rs [] post) (k : ∀ av prod, post av prod → WL c ops tl ⟨putR o.dst av s.rs, prod ++ s.hs⟩ Q) : WL c ops (o :: tl) s Q :=
  WL_lt (cons := []) (rest := s.hs) hd hg (fun _ _ _ h => h) h k
end

/-- h stands among hs; f puts something in its place. -/
inductive At : List HA → HA → (HA → List HA) → Prop
  | here {h : HA} {t : List HA} : At (h :: t) h (fun x => x :: t)
  | there {h y : HA} {t : List HA} {f : HA → List HA} (k : At t h f) : At (y :: t) h (fun x => y :: f x)
theorem At.sel {hs : List HA} {h : HA} {f : HA → List HA} (k : At hs h f) : ∃ rest, ∀ x G F w, hsP (f x) G F w ↔ hsP (x :: rest) G F w := by
  induction k with
  | @here h t => exact ⟨t, fun _ _ _ _ => Iff.rfl⟩
  | @there h y t f k ih =>
    obtain ⟨r, hr⟩ := ih
    refine ⟨y :: r, fun x G F w => ⟨fun ⟨F1, F2, e, h1, h2⟩ => ?_, fun ⟨F1, F2, e, h1, ⟨F3, F4, e2, h3, h4⟩⟩ => ?_⟩⟩
    · obtain ⟨F3, F4, e2, h3, h4⟩ := (hr x G F2 w).1 h2
      exact ⟨F3, F1 ++ F4, e.trans ((e2.append_left F1).trans (by rw [← List.append_assoc, ← List.append_assoc]; exact List.perm_append_comm.append_right F4)), h3, F1, F4, .refl _, h1, h4⟩
    · exact ⟨F3, F1 ++ F4, e.trans ((e2.append_left F1).trans (by rw [← List.append_assoc, ← List.append_assoc]; exact List.perm_append_comm.append_right F4)), h3, (hr x G _ w).2 ⟨F1, F4, .refl _, h1, h4⟩⟩
/-- hs without h. -/
inductive Rm : List HA → HA → List HA → Prop
  | here {h : HA} {t : List HA} : Rm (h :: t) h t
  | there {h y : HA} {t r : List HA} (k : Rm t h r) : Rm (y :: t) h (y :: r)
theorem Rm.sel {hs : List HA} {h : HA} {rest : List HA} (k : Rm hs h rest) : ∀ {G F w}, hsP hs G F w → hsP (h :: rest) G F w := by
  induction k with
  | here => exact fun h => h
  | there k ih =>
    rintro G F w ⟨F1, F2, e, h1, h2⟩
    obtain ⟨F3, F4, e2, h3, h4⟩ := ih h2
    exact ⟨F3, F1 ++ F4, e.trans ((e2.append_left F1).trans (by rw [← List.append_assoc, ← List.append_assoc]; exact List.perm_append_comm.append_right F4)), h3, F1, F4, .refl _, h1, h4⟩
theorem At.self {hs : List HA} {h : HA} {f : HA → List HA} (k : At hs h f) : f h = hs := by
  induction k with
  | here => rfl
  | there k ih => exact congrArg _ ih
section
variable {c : Cx} {s : S} {Q : Exit → S → Prop} {ops : Array Oper} {tl : List Oper}
/-- One thing that is owned is touched. -/
theorem WL_at {o : Oper} {av : AV} {h h' : HA} {f : HA → List HA} (hd : okD o.dst c.nt = true) (hg : o.guard = none) (hat : At s.hs h f) (hl : LT c.P o s.rs [h] (Is av [h'])) (k : WL c ops tl ⟨putR o.dst av s.rs, f h'⟩ Q) : WL c ops (o :: tl) s Q := by
  obtain ⟨rest, hr⟩ := hat.sel
  refine WL_lt (cons := [h]) (rest := rest) hd hg (fun G F w hh => (hr h G F w).1 (by rw [hat.self]; exact hh)) hl fun av' prod ⟨e1, e2⟩ => ?_
  subst e1; subst e2
  refine ⟨fun a w ⟨G, F, hI, r⟩ => ?_⟩
  exact k.out a w ⟨G, F, ⟨hI.gin, hI.nd, hI.own, (hr h' G F w).2 hI.hs⟩, r⟩
end
end Go.Proofs.YtbkellknlcageaaDoor.Sw
