/- The types of this program, as its own table has them. Written by types.py. -/
import Derived.Test.YthddoikmgpgakaaDoorProg
import Derived.Test.YthddoikmgpgakaaDoorSwOps3
namespace Go.Proofs.YthddoikmgpgakaaDoor.Sw
open Go.RowKit Go

instance : Ty1 Tryd.prog 3 := ⟨fun w => by kernel_rfl, fun w => by kernel_rfl⟩
instance : Ty1 Tryd.prog 4 := ⟨fun w => by kernel_rfl, fun w => by kernel_rfl⟩
instance : Ty1 Tryd.prog 5 := ⟨fun w => by kernel_rfl, fun w => by kernel_rfl⟩
instance : Ty1 Tryd.prog 22 := ⟨fun w => by kernel_rfl, fun w => by kernel_rfl⟩
instance : TyN Tryd.prog 24 4 := ⟨fun w => by kernel_rfl, fun w => by kernel_rfl⟩
instance : Ty1 Tryd.prog 25 := ⟨fun w => by kernel_rfl, fun w => by kernel_rfl⟩
instance : Ty1 Tryd.prog 48 := ⟨fun w => by kernel_rfl, fun w => by kernel_rfl⟩
instance : Ty1 Tryd.prog 62 := ⟨fun w => by kernel_rfl, fun w => by kernel_rfl⟩
instance : TyN Tryd.prog 64 4 := ⟨fun w => by kernel_rfl, fun w => by kernel_rfl⟩
instance : TyN Tryd.prog 68 2 := ⟨fun w => by kernel_rfl, fun w => by kernel_rfl⟩
instance : Ty1 Tryd.prog 93 := ⟨fun w => by kernel_rfl, fun w => by kernel_rfl⟩
instance : TyN Tryd.prog 109 3 := ⟨fun w => by kernel_rfl, fun w => by kernel_rfl⟩
instance : TyN Tryd.prog 118 10 := ⟨fun w => by kernel_rfl, fun w => by kernel_rfl⟩
instance : TyN Tryd.prog 120 5 := ⟨fun w => by kernel_rfl, fun w => by kernel_rfl⟩
instance : TyN Tryd.prog 124 6 := ⟨fun w => by kernel_rfl, fun w => by kernel_rfl⟩
instance : Ty1 Tryd.prog 132 := ⟨fun w => by kernel_rfl, fun w => by kernel_rfl⟩
instance : TyN Tryd.prog 134 5 := ⟨fun w => by kernel_rfl, fun w => by kernel_rfl⟩
instance : TyN Tryd.prog 137 2 := ⟨fun w => by kernel_rfl, fun w => by kernel_rfl⟩
instance : TyN Tryd.prog 142 5 := ⟨fun w => by kernel_rfl, fun w => by kernel_rfl⟩
instance : TyN Tryd.prog 145 1 := ⟨fun w => by kernel_rfl, fun w => by kernel_rfl⟩
instance : TyN Tryd.prog 146 3 := ⟨fun w => by kernel_rfl, fun w => by kernel_rfl⟩
instance : Ty1 Tryd.prog 148 := ⟨fun w => by kernel_rfl, fun w => by kernel_rfl⟩
instance : TyN Tryd.prog 149 5 := ⟨fun w => by kernel_rfl, fun w => by kernel_rfl⟩
instance : TyN Tryd.prog 153 4 := ⟨fun w => by kernel_rfl, fun w => by kernel_rfl⟩
instance : TyN Tryd.prog 159 3 := ⟨fun w => by kernel_rfl, fun w => by kernel_rfl⟩
instance : Ty1 Tryd.prog 162 := ⟨fun w => by kernel_rfl, fun w => by kernel_rfl⟩
instance : Ty1 Tryd.prog 170 := ⟨fun w => by kernel_rfl, fun w => by kernel_rfl⟩
instance : Ty1 Tryd.prog 172 := ⟨fun w => by kernel_rfl, fun w => by kernel_rfl⟩
instance : Ty1 Tryd.prog 173 := ⟨fun w => by kernel_rfl, fun w => by kernel_rfl⟩
instance : Ty1 Tryd.prog 174 := ⟨fun w => by kernel_rfl, fun w => by kernel_rfl⟩
instance : Ty1 Tryd.prog 176 := ⟨fun w => by kernel_rfl, fun w => by kernel_rfl⟩
instance : TyN Tryd.prog 183 36 := ⟨fun w => by kernel_rfl, fun w => by kernel_rfl⟩
instance : Ty1 Tryd.prog 184 := ⟨fun w => by kernel_rfl, fun w => by kernel_rfl⟩
instance : Ty1 Tryd.prog 185 := ⟨fun w => by kernel_rfl, fun w => by kernel_rfl⟩
instance : Ty1 Tryd.prog 187 := ⟨fun w => by kernel_rfl, fun w => by kernel_rfl⟩
instance : Ty1 Tryd.prog 191 := ⟨fun w => by kernel_rfl, fun w => by kernel_rfl⟩
instance : TyZ Tryd.prog 3 [.int .i64 0] := ⟨fun w => ⟨.int .i64 0, by kernel_rfl, rfl⟩⟩
instance : TyZ Tryd.prog 22 [.slice none 0 0] := ⟨fun w => ⟨.slice none 0 0, by kernel_rfl, rfl⟩⟩
instance : TyZ Tryd.prog 24 [.int .i64 0, .int .i64 0, .slice none 0 0, .slice none 0 0] := ⟨fun w => ⟨.agg #[.int .i64 0, .int .i64 0, .slice none 0 0, .slice none 0 0], by kernel_rfl, rfl⟩⟩
instance : TyZ Tryd.prog 48 [.slice none 0 0] := ⟨fun w => ⟨.slice none 0 0, by kernel_rfl, rfl⟩⟩
instance : TyZ Tryd.prog 64 [.int .i64 0, .int .i64 0, .int .i64 0, .int .i64 0] := ⟨fun w => ⟨.agg #[.int .i64 0, .int .i64 0, .int .i64 0, .int .i64 0], by kernel_rfl, rfl⟩⟩
instance : TyZ Tryd.prog 68 [.int .i64 0, .int .i64 0] := ⟨fun w => ⟨.agg #[.int .i64 0, .int .i64 0], by kernel_rfl, rfl⟩⟩
instance : TyZ Tryd.prog 93 [.slice none 0 0] := ⟨fun w => ⟨.slice none 0 0, by kernel_rfl, rfl⟩⟩
instance : TyZ Tryd.prog 109 [.int .i64 0, .int .i64 0, .int .i64 0] := ⟨fun w => ⟨.agg #[.int .i64 0, .int .i64 0, .int .i64 0], by kernel_rfl, rfl⟩⟩
instance : TyZ Tryd.prog 118 [.int .i64 0, .int .i64 0, .int .i64 0, .int .i64 0, .int .i64 0, .int .i64 0, .int .i64 0, .int .i64 0, .int .i64 0, .int .i64 0] := ⟨fun w => ⟨.agg #[.int .i64 0, .int .i64 0, .int .i64 0, .int .i64 0, .int .i64 0, .int .i64 0, .int .i64 0, .int .i64 0, .int .i64 0, .int .i64 0], by kernel_rfl, rfl⟩⟩
instance : TyZ Tryd.prog 120 [.int .i64 0, .int .i64 0, .int .i64 0, .int .i64 0, .int .i64 0] := ⟨fun w => ⟨.agg #[.int .i64 0, .int .i64 0, .int .i64 0, .int .i64 0, .int .i64 0], by kernel_rfl, rfl⟩⟩
instance : TyZ Tryd.prog 124 [.bool false, .bool false, .bool false, .bool false, .bool false, .bool false] := ⟨fun w => ⟨.agg #[.bool false, .bool false, .bool false, .bool false, .bool false, .bool false], by kernel_rfl, rfl⟩⟩
instance : TyZ Tryd.prog 134 [.int .i64 0, .int .i64 0, .slice none 0 0, .slice none 0 0, .nilFunc] := ⟨fun w => ⟨.agg #[.int .i64 0, .int .i64 0, .slice none 0 0, .slice none 0 0, .nilFunc], by kernel_rfl, rfl⟩⟩
instance : TyZ Tryd.prog 137 [.int .i64 0, .int .i64 0] := ⟨fun w => ⟨.agg #[.int .i64 0, .int .i64 0], by kernel_rfl, rfl⟩⟩
instance : TyZ Tryd.prog 142 [.int .i64 0, .int .i64 0, .int .i64 0, .int .i64 0, .int .i64 0] := ⟨fun w => ⟨.agg #[.int .i64 0, .int .i64 0, .int .i64 0, .int .i64 0, .int .i64 0], by kernel_rfl, rfl⟩⟩
instance : TyZ Tryd.prog 145 [.nilFunc] := ⟨fun w => ⟨.agg #[.nilFunc], by kernel_rfl, rfl⟩⟩
instance : TyZ Tryd.prog 149 [.int .i64 0, .int .i64 0, .int .i64 0, .int .i64 0, .int .i64 0] := ⟨fun w => ⟨.agg #[.int .i64 0, .int .i64 0, .int .i64 0, .int .i64 0, .int .i64 0], by kernel_rfl, rfl⟩⟩
instance : TyZ Tryd.prog 159 [.slice none 0 0, .slice none 0 0, .int .i64 0] := ⟨fun w => ⟨.agg #[.slice none 0 0, .slice none 0 0, .int .i64 0], by kernel_rfl, rfl⟩⟩
instance : TyZ Tryd.prog 162 [.nilFunc] := ⟨fun w => ⟨.nilFunc, by kernel_rfl, rfl⟩⟩
instance : TyZ Tryd.prog 170 [.map none] := ⟨fun w => ⟨.map none, by kernel_rfl, rfl⟩⟩
instance : TyZ Tryd.prog 173 [.map none] := ⟨fun w => ⟨.map none, by kernel_rfl, rfl⟩⟩
instance : TyZ Tryd.prog 174 [.nilFunc] := ⟨fun w => ⟨.nilFunc, by kernel_rfl, rfl⟩⟩
instance : TyZ Tryd.prog 176 [.slice none 0 0] := ⟨fun w => ⟨.slice none 0 0, by kernel_rfl, rfl⟩⟩
instance : TyZ Tryd.prog 183 [.int .i64 0, .int .i64 0, .int .i64 0, .int .i64 0, .int .i64 0, .int .i64 0, .int .i64 0, .int .i64 0, .int .i64 0, .int .i64 0, .int .i64 0, .int .i64 0, .int .i64 0, .int .i64 0, .int .i64 0, .int .i64 0, .int .i64 0, .int .i64 0, .int .i64 0, .int .i64 0, .int .i64 0, .int .i64 0, .int .i64 0, .int .i64 0, .int .i64 0, .int .i64 0, .int .i64 0, .int .i64 0, .int .i64 0, .int .i64 0, .int .i64 0, .int .i64 0, .int .i64 0, .int .i64 0, .int .i64 0, .int .i64 0] := ⟨fun w => ⟨.agg #[.int .i64 0, .int .i64 0, .int .i64 0, .int .i64 0, .int .i64 0, .int .i64 0, .int .i64 0, .int .i64 0, .int .i64 0, .int .i64 0, .int .i64 0, .int .i64 0, .int .i64 0, .int .i64 0, .int .i64 0, .int .i64 0, .int .i64 0, .int .i64 0, .int .i64 0, .int .i64 0, .int .i64 0, .int .i64 0, .int .i64 0, .int .i64 0, .int .i64 0, .int .i64 0, .int .i64 0, .int .i64 0, .int .i64 0, .int .i64 0, .int .i64 0, .int .i64 0, .int .i64 0, .int .i64 0, .int .i64 0, .int .i64 0], by kernel_rfl, rfl⟩⟩
instance : TyZ Tryd.prog 184 [.nilFunc] := ⟨fun w => ⟨.nilFunc, by kernel_rfl, rfl⟩⟩
instance : TyZ Tryd.prog 185 [.map none] := ⟨fun w => ⟨.map none, by kernel_rfl, rfl⟩⟩
instance : TyZ Tryd.prog 187 [.map none] := ⟨fun w => ⟨.map none, by kernel_rfl, rfl⟩⟩
instance : TyF Tryd.prog 24 0 0 := ⟨fun a w => by kernel_rfl⟩
instance : TyF Tryd.prog 24 1 1 := ⟨fun a w => by kernel_rfl⟩
instance : TyF Tryd.prog 24 2 2 := ⟨fun a w => by kernel_rfl⟩
instance : TyF Tryd.prog 24 3 3 := ⟨fun a w => by kernel_rfl⟩
instance : TyF Tryd.prog 64 0 0 := ⟨fun a w => by kernel_rfl⟩
instance : TyF Tryd.prog 64 1 1 := ⟨fun a w => by kernel_rfl⟩
instance : TyF Tryd.prog 64 2 2 := ⟨fun a w => by kernel_rfl⟩
instance : TyF Tryd.prog 64 3 3 := ⟨fun a w => by kernel_rfl⟩
instance : TyF Tryd.prog 68 0 0 := ⟨fun a w => by kernel_rfl⟩
instance : TyF Tryd.prog 68 1 1 := ⟨fun a w => by kernel_rfl⟩
instance : TyF Tryd.prog 109 0 0 := ⟨fun a w => by kernel_rfl⟩
instance : TyF Tryd.prog 109 1 1 := ⟨fun a w => by kernel_rfl⟩
instance : TyF Tryd.prog 109 2 2 := ⟨fun a w => by kernel_rfl⟩
instance : TyF Tryd.prog 134 0 0 := ⟨fun a w => by kernel_rfl⟩
instance : TyF Tryd.prog 134 1 4 := ⟨fun a w => by kernel_rfl⟩
instance : TyF Tryd.prog 142 0 0 := ⟨fun a w => by kernel_rfl⟩
instance : TyF Tryd.prog 142 1 2 := ⟨fun a w => by kernel_rfl⟩
instance : TyF Tryd.prog 142 2 3 := ⟨fun a w => by kernel_rfl⟩
instance : TyF Tryd.prog 142 3 4 := ⟨fun a w => by kernel_rfl⟩
instance : TyF Tryd.prog 145 0 0 := ⟨fun a w => by kernel_rfl⟩
instance : TyF Tryd.prog 153 0 0 := ⟨fun a w => by kernel_rfl⟩
instance : TyF Tryd.prog 159 0 0 := ⟨fun a w => by kernel_rfl⟩
instance : TyF Tryd.prog 159 1 1 := ⟨fun a w => by kernel_rfl⟩
instance : TyF Tryd.prog 159 2 2 := ⟨fun a w => by kernel_rfl⟩
instance : TyE Tryd.prog 22 3 1 := tyE (z := .int .i64 0) (b := 8) (by kernel_rfl) (by kernel_rfl) (by decide) rfl (by decide)
instance : TyE Tryd.prog 48 109 3 := tyE (z := .agg #[.int .i64 0, .int .i64 0, .int .i64 0]) (b := 24) (by kernel_rfl) (by kernel_rfl) (by decide) rfl (by decide)
instance : TyE Tryd.prog 62 24 4 := tyE (z := .agg #[.int .i64 0, .int .i64 0, .slice none 0 0, .slice none 0 0]) (b := 64) (by kernel_rfl) (by kernel_rfl) (by decide) rfl (by decide)
instance : TyE Tryd.prog 93 22 1 := tyE (z := .slice none 0 0) (b := 24) (by kernel_rfl) (by kernel_rfl) (by decide) rfl (by decide)
instance : TyE Tryd.prog 106 5 1 := tyE (z := .int .u8 0) (b := 1) (by kernel_rfl) (by kernel_rfl) (by decide) rfl (by decide)
instance : TyE Tryd.prog 176 68 2 := tyE (z := .agg #[.int .i64 0, .int .i64 0]) (b := 16) (by kernel_rfl) (by kernel_rfl) (by decide) rfl (by decide)
instance : TyE Tryd.prog 180 176 1 := tyE (z := .slice none 0 0) (b := 24) (by kernel_rfl) (by kernel_rfl) (by decide) rfl (by decide)
instance : TyE Tryd.prog 190 191 1 := tyE (z := .slice none 0 0) (b := 24) (by kernel_rfl) (by kernel_rfl) (by decide) rfl (by decide)
instance : TyE Tryd.prog 191 93 1 := tyE (z := .slice none 0 0) (b := 24) (by kernel_rfl) (by kernel_rfl) (by decide) rfl (by decide)
instance : TyA Tryd.prog 118 5 2 := ⟨⟨68, by kernel_rfl, fun w => by kernel_rfl⟩, by decide⟩
instance : TyA Tryd.prog 120 5 1 := ⟨⟨3, by kernel_rfl, fun w => by kernel_rfl⟩, by decide⟩
instance : TyA Tryd.prog 124 6 1 := ⟨⟨4, by kernel_rfl, fun w => by kernel_rfl⟩, by decide⟩
instance : TyA Tryd.prog 137 2 1 := ⟨⟨3, by kernel_rfl, fun w => by kernel_rfl⟩, by decide⟩
instance : TyA Tryd.prog 149 5 1 := ⟨⟨3, by kernel_rfl, fun w => by kernel_rfl⟩, by decide⟩
instance : TyA Tryd.prog 182 6 1 := ⟨⟨3, by kernel_rfl, fun w => by kernel_rfl⟩, by decide⟩
instance : TyA Tryd.prog 183 6 6 := ⟨⟨182, by kernel_rfl, fun w => by kernel_rfl⟩, by decide⟩
instance : TyB Tryd.prog 24 [.int .i64 0, .int .i64 0, .slice none 0 0, .slice none 0 0] (fun i => (#[(0, 1), (1, 1), (2, 1), (3, 1)] : Array (Nat × Nat))[i]?) := tyB_struct (z := .agg #[.int .i64 0, .int .i64 0, .slice none 0 0, .slice none 0 0]) (fs := Program.fieldsOf Tryd.prog 24) (fun w => by kernel_rfl) rfl (by kernel_rfl) (fun w => by kernel_rfl)
instance : TyB Tryd.prog 64 [.int .i64 0, .int .i64 0, .int .i64 0, .int .i64 0] (fun i => (#[(0, 1), (1, 1), (2, 1), (3, 1)] : Array (Nat × Nat))[i]?) := tyB_struct (z := .agg #[.int .i64 0, .int .i64 0, .int .i64 0, .int .i64 0]) (fs := Program.fieldsOf Tryd.prog 64) (fun w => by kernel_rfl) rfl (by kernel_rfl) (fun w => by kernel_rfl)
instance : TyB Tryd.prog 68 [.int .i64 0, .int .i64 0] (fun i => (#[(0, 1), (1, 1)] : Array (Nat × Nat))[i]?) := tyB_struct (z := .agg #[.int .i64 0, .int .i64 0]) (fs := Program.fieldsOf Tryd.prog 68) (fun w => by kernel_rfl) rfl (by kernel_rfl) (fun w => by kernel_rfl)
instance : TyB Tryd.prog 109 [.int .i64 0, .int .i64 0, .int .i64 0] (fun i => (#[(0, 1), (1, 1), (2, 1)] : Array (Nat × Nat))[i]?) := tyB_struct (z := .agg #[.int .i64 0, .int .i64 0, .int .i64 0]) (fs := Program.fieldsOf Tryd.prog 109) (fun w => by kernel_rfl) rfl (by kernel_rfl) (fun w => by kernel_rfl)
instance : TyB Tryd.prog 120 [.int .i64 0, .int .i64 0, .int .i64 0, .int .i64 0, .int .i64 0] (fun i => some (i * 1, 1)) := tyB_array (z := .agg #[.int .i64 0, .int .i64 0, .int .i64 0, .int .i64 0, .int .i64 0]) (n := 5) (e := 3) (fun w => by kernel_rfl) rfl (by kernel_rfl) (fun w => by kernel_rfl)
instance : TyB Tryd.prog 134 [.int .i64 0, .int .i64 0, .slice none 0 0, .slice none 0 0, .nilFunc] (fun i => (#[(0, 4), (4, 1)] : Array (Nat × Nat))[i]?) := tyB_struct (z := .agg #[.int .i64 0, .int .i64 0, .slice none 0 0, .slice none 0 0, .nilFunc]) (fs := Program.fieldsOf Tryd.prog 134) (fun w => by kernel_rfl) rfl (by kernel_rfl) (fun w => by kernel_rfl)
instance : TyB Tryd.prog 137 [.int .i64 0, .int .i64 0] (fun i => some (i * 1, 1)) := tyB_array (z := .agg #[.int .i64 0, .int .i64 0]) (n := 2) (e := 3) (fun w => by kernel_rfl) rfl (by kernel_rfl) (fun w => by kernel_rfl)
instance : TyB Tryd.prog 142 [.int .i64 0, .int .i64 0, .int .i64 0, .int .i64 0, .int .i64 0] (fun i => (#[(0, 2), (2, 1), (3, 1), (4, 1)] : Array (Nat × Nat))[i]?) := tyB_struct (z := .agg #[.int .i64 0, .int .i64 0, .int .i64 0, .int .i64 0, .int .i64 0]) (fs := Program.fieldsOf Tryd.prog 142) (fun w => by kernel_rfl) rfl (by kernel_rfl) (fun w => by kernel_rfl)
instance : TyB Tryd.prog 145 [.nilFunc] (fun i => (#[(0, 1)] : Array (Nat × Nat))[i]?) := tyB_struct (z := .agg #[.nilFunc]) (fs := Program.fieldsOf Tryd.prog 145) (fun w => by kernel_rfl) rfl (by kernel_rfl) (fun w => by kernel_rfl)
instance : TyB Tryd.prog 146 [.nilFunc, .nilFunc, .nilFunc] (fun i => some (i * 1, 1)) := tyB_array (z := .agg #[.nilFunc, .nilFunc, .nilFunc]) (n := 3) (e := 145) (fun w => by kernel_rfl) rfl (by kernel_rfl) (fun w => by kernel_rfl)
instance : TyB Tryd.prog 149 [.int .i64 0, .int .i64 0, .int .i64 0, .int .i64 0, .int .i64 0] (fun i => some (i * 1, 1)) := tyB_array (z := .agg #[.int .i64 0, .int .i64 0, .int .i64 0, .int .i64 0, .int .i64 0]) (n := 5) (e := 3) (fun w => by kernel_rfl) rfl (by kernel_rfl) (fun w => by kernel_rfl)
instance : TyB Tryd.prog 153 [.int .i64 0, .int .i64 0, .int .i64 0, .int .i64 0] (fun i => (#[(0, 4)] : Array (Nat × Nat))[i]?) := tyB_struct (z := .agg #[.int .i64 0, .int .i64 0, .int .i64 0, .int .i64 0]) (fs := Program.fieldsOf Tryd.prog 153) (fun w => by kernel_rfl) rfl (by kernel_rfl) (fun w => by kernel_rfl)
instance : TyB Tryd.prog 159 [.slice none 0 0, .slice none 0 0, .int .i64 0] (fun i => (#[(0, 1), (1, 1), (2, 1)] : Array (Nat × Nat))[i]?) := tyB_struct (z := .agg #[.slice none 0 0, .slice none 0 0, .int .i64 0]) (fs := Program.fieldsOf Tryd.prog 159) (fun w => by kernel_rfl) rfl (by kernel_rfl) (fun w => by kernel_rfl)
set_option maxRecDepth 20000 in
instance : TyQ Tryd.prog 68 2 := ⟨fun x y xs ys w h1 h2 => by
  match xs, ys, h1, h2 with
  | [x0, x1], [y0, y1], _, _ => refine ⟨?_, ?_, ?_, ?_⟩ <;> simp [go_sem] <;> by_cases h10 : x0 = y0 <;> by_cases h11 : x1 = y1 <;> simp [*]⟩
set_option maxRecDepth 20000 in
instance : TyQ Tryd.prog 109 3 := ⟨fun x y xs ys w h1 h2 => by
  match xs, ys, h1, h2 with
  | [x0, x1, x2], [y0, y1, y2], _, _ => refine ⟨?_, ?_, ?_, ?_⟩ <;> simp [go_sem] <;> by_cases h10 : x0 = y0 <;> by_cases h11 : x1 = y1 <;> by_cases h12 : x2 = y2 <;> simp [*]⟩

end Go.Proofs.YthddoikmgpgakaaDoor.Sw
