/- The types of this program, as its own table has them. Written by types.py. -/
import Derived.Test.YtbkellknlcageaaDoorProg
import Derived.Test.YtbkellknlcageaaDoorSwOps3
namespace Go.Proofs.YtbkellknlcageaaDoor.Sw
open Go.RowKit Go

instance : Ty1 Tryd.prog 3 := ⟨fun w => by kernel_rfl, fun w => by kernel_rfl⟩
instance : Ty1 Tryd.prog 4 := ⟨fun w => by kernel_rfl, fun w => by kernel_rfl⟩
instance : Ty1 Tryd.prog 22 := ⟨fun w => by kernel_rfl, fun w => by kernel_rfl⟩
instance : Ty1 Tryd.prog 23 := ⟨fun w => by kernel_rfl, fun w => by kernel_rfl⟩
instance : Ty1 Tryd.prog 24 := ⟨fun w => by kernel_rfl, fun w => by kernel_rfl⟩
instance : Ty1 Tryd.prog 25 := ⟨fun w => by kernel_rfl, fun w => by kernel_rfl⟩
instance : TyN Tryd.prog 27 4 := ⟨fun w => by kernel_rfl, fun w => by kernel_rfl⟩
instance : Ty1 Tryd.prog 28 := ⟨fun w => by kernel_rfl, fun w => by kernel_rfl⟩
instance : TyN Tryd.prog 53 3 := ⟨fun w => by kernel_rfl, fun w => by kernel_rfl⟩
instance : TyN Tryd.prog 55 2 := ⟨fun w => by kernel_rfl, fun w => by kernel_rfl⟩
instance : Ty1 Tryd.prog 64 := ⟨fun w => by kernel_rfl, fun w => by kernel_rfl⟩
instance : TyN Tryd.prog 66 4 := ⟨fun w => by kernel_rfl, fun w => by kernel_rfl⟩
instance : TyN Tryd.prog 68 4 := ⟨fun w => by kernel_rfl, fun w => by kernel_rfl⟩
instance : TyN Tryd.prog 70 4 := ⟨fun w => by kernel_rfl, fun w => by kernel_rfl⟩
instance : Ty1 Tryd.prog 71 := ⟨fun w => by kernel_rfl, fun w => by kernel_rfl⟩
instance : Ty1 Tryd.prog 98 := ⟨fun w => by kernel_rfl, fun w => by kernel_rfl⟩
instance : Ty1 Tryd.prog 103 := ⟨fun w => by kernel_rfl, fun w => by kernel_rfl⟩
instance : TyN Tryd.prog 105 2 := ⟨fun w => by kernel_rfl, fun w => by kernel_rfl⟩
instance : TyN Tryd.prog 108 5 := ⟨fun w => by kernel_rfl, fun w => by kernel_rfl⟩
instance : TyN Tryd.prog 113 2 := ⟨fun w => by kernel_rfl, fun w => by kernel_rfl⟩
instance : Ty1 Tryd.prog 119 := ⟨fun w => by kernel_rfl, fun w => by kernel_rfl⟩
instance : TyN Tryd.prog 122 1 := ⟨fun w => by kernel_rfl, fun w => by kernel_rfl⟩
instance : TyN Tryd.prog 123 4 := ⟨fun w => by kernel_rfl, fun w => by kernel_rfl⟩
instance : Ty1 Tryd.prog 131 := ⟨fun w => by kernel_rfl, fun w => by kernel_rfl⟩
instance : TyN Tryd.prog 134 2 := ⟨fun w => by kernel_rfl, fun w => by kernel_rfl⟩
instance : Ty1 Tryd.prog 142 := ⟨fun w => by kernel_rfl, fun w => by kernel_rfl⟩
instance : TyN Tryd.prog 149 2 := ⟨fun w => by kernel_rfl, fun w => by kernel_rfl⟩
instance : Ty1 Tryd.prog 152 := ⟨fun w => by kernel_rfl, fun w => by kernel_rfl⟩
instance : Ty1 Tryd.prog 155 := ⟨fun w => by kernel_rfl, fun w => by kernel_rfl⟩
instance : Ty1 Tryd.prog 161 := ⟨fun w => by kernel_rfl, fun w => by kernel_rfl⟩
instance : Ty1 Tryd.prog 164 := ⟨fun w => by kernel_rfl, fun w => by kernel_rfl⟩
instance : Ty1 Tryd.prog 168 := ⟨fun w => by kernel_rfl, fun w => by kernel_rfl⟩
instance : TyN Tryd.prog 178 6 := ⟨fun w => by kernel_rfl, fun w => by kernel_rfl⟩
instance : Ty1 Tryd.prog 197 := ⟨fun w => by kernel_rfl, fun w => by kernel_rfl⟩
instance : Ty1 Tryd.prog 202 := ⟨fun w => by kernel_rfl, fun w => by kernel_rfl⟩
instance : TyN Tryd.prog 212 4 := ⟨fun w => by kernel_rfl, fun w => by kernel_rfl⟩
instance : Ty1 Tryd.prog 213 := ⟨fun w => by kernel_rfl, fun w => by kernel_rfl⟩
instance : TyN Tryd.prog 215 5 := ⟨fun w => by kernel_rfl, fun w => by kernel_rfl⟩
instance : TyN Tryd.prog 221 5 := ⟨fun w => by kernel_rfl, fun w => by kernel_rfl⟩
instance : TyN Tryd.prog 227 2 := ⟨fun w => by kernel_rfl, fun w => by kernel_rfl⟩
instance : Ty1 Tryd.prog 228 := ⟨fun w => by kernel_rfl, fun w => by kernel_rfl⟩
instance : TyN Tryd.prog 233 5 := ⟨fun w => by kernel_rfl, fun w => by kernel_rfl⟩
instance : Ty1 Tryd.prog 234 := ⟨fun w => by kernel_rfl, fun w => by kernel_rfl⟩
instance : Ty1 Tryd.prog 235 := ⟨fun w => by kernel_rfl, fun w => by kernel_rfl⟩
instance : Ty1 Tryd.prog 237 := ⟨fun w => by kernel_rfl, fun w => by kernel_rfl⟩
instance : TyN Tryd.prog 247 1 := ⟨fun w => by kernel_rfl, fun w => by kernel_rfl⟩
instance : TyN Tryd.prog 248 3 := ⟨fun w => by kernel_rfl, fun w => by kernel_rfl⟩
instance : Ty1 Tryd.prog 249 := ⟨fun w => by kernel_rfl, fun w => by kernel_rfl⟩
instance : TyZ Tryd.prog 3 [.int .i64 0] := ⟨fun w => ⟨.int .i64 0, by kernel_rfl, rfl⟩⟩
instance : TyZ Tryd.prog 4 [.bool false] := ⟨fun w => ⟨.bool false, by kernel_rfl, rfl⟩⟩
instance : TyZ Tryd.prog 27 [.slice none 0 0, .slice none 0 0, .slice none 0 0, .slice none 0 0] := ⟨fun w => ⟨.agg #[.slice none 0 0, .slice none 0 0, .slice none 0 0, .slice none 0 0], by kernel_rfl, rfl⟩⟩
instance : TyZ Tryd.prog 53 [.int .i64 0, .int .i64 0, .int .i64 0] := ⟨fun w => ⟨.agg #[.int .i64 0, .int .i64 0, .int .i64 0], by kernel_rfl, rfl⟩⟩
instance : TyZ Tryd.prog 55 [.int .i64 0, .int .i64 0] := ⟨fun w => ⟨.agg #[.int .i64 0, .int .i64 0], by kernel_rfl, rfl⟩⟩
instance : TyZ Tryd.prog 66 [.int .i64 0, .int .i64 0, .int .i64 0, .slice none 0 0] := ⟨fun w => ⟨.agg #[.int .i64 0, .int .i64 0, .int .i64 0, .slice none 0 0], by kernel_rfl, rfl⟩⟩
instance : TyZ Tryd.prog 68 [.int .i64 0, .int .i64 0, .slice none 0 0, .slice none 0 0] := ⟨fun w => ⟨.agg #[.int .i64 0, .int .i64 0, .slice none 0 0, .slice none 0 0], by kernel_rfl, rfl⟩⟩
instance : TyZ Tryd.prog 98 [.pointer none] := ⟨fun w => ⟨.pointer none, by kernel_rfl, rfl⟩⟩
instance : TyZ Tryd.prog 105 [.int .i64 0, .int .i64 0] := ⟨fun w => ⟨.agg #[.int .i64 0, .int .i64 0], by kernel_rfl, rfl⟩⟩
instance : TyZ Tryd.prog 113 [.int .i64 0, .int .i64 0] := ⟨fun w => ⟨.agg #[.int .i64 0, .int .i64 0], by kernel_rfl, rfl⟩⟩
instance : TyZ Tryd.prog 122 [.nilFunc] := ⟨fun w => ⟨.agg #[.nilFunc], by kernel_rfl, rfl⟩⟩
instance : TyZ Tryd.prog 134 [.int .i64 0, .int .i64 0] := ⟨fun w => ⟨.agg #[.int .i64 0, .int .i64 0], by kernel_rfl, rfl⟩⟩
instance : TyZ Tryd.prog 142 [.slice none 0 0] := ⟨fun w => ⟨.slice none 0 0, by kernel_rfl, rfl⟩⟩
instance : TyZ Tryd.prog 149 [.int .i64 0, .int .i64 0] := ⟨fun w => ⟨.agg #[.int .i64 0, .int .i64 0], by kernel_rfl, rfl⟩⟩
instance : TyZ Tryd.prog 152 [.slice none 0 0] := ⟨fun w => ⟨.slice none 0 0, by kernel_rfl, rfl⟩⟩
instance : TyZ Tryd.prog 155 [.slice none 0 0] := ⟨fun w => ⟨.slice none 0 0, by kernel_rfl, rfl⟩⟩
instance : TyZ Tryd.prog 168 [.map none] := ⟨fun w => ⟨.map none, by kernel_rfl, rfl⟩⟩
instance : TyZ Tryd.prog 178 [.slice none 0 0, .slice none 0 0, .slice none 0 0, .slice none 0 0, .slice none 0 0, .slice none 0 0] := ⟨fun w => ⟨.agg #[.slice none 0 0, .slice none 0 0, .slice none 0 0, .slice none 0 0, .slice none 0 0, .slice none 0 0], by kernel_rfl, rfl⟩⟩
instance : TyZ Tryd.prog 202 [.nilFunc] := ⟨fun w => ⟨.nilFunc, by kernel_rfl, rfl⟩⟩
instance : TyZ Tryd.prog 215 [.int .i64 0, .int .i64 0, .slice none 0 0, .slice none 0 0, .nilFunc] := ⟨fun w => ⟨.agg #[.int .i64 0, .int .i64 0, .slice none 0 0, .slice none 0 0, .nilFunc], by kernel_rfl, rfl⟩⟩
instance : TyZ Tryd.prog 227 [.int .i64 0, .int .i64 0] := ⟨fun w => ⟨.agg #[.int .i64 0, .int .i64 0], by kernel_rfl, rfl⟩⟩
instance : TyZ Tryd.prog 228 [.map none] := ⟨fun w => ⟨.map none, by kernel_rfl, rfl⟩⟩
instance : TyZ Tryd.prog 233 [.int .i64 0, .int .i64 0, .int .i64 0, .int .i64 0, .int .i64 0] := ⟨fun w => ⟨.agg #[.int .i64 0, .int .i64 0, .int .i64 0, .int .i64 0, .int .i64 0], by kernel_rfl, rfl⟩⟩
instance : TyZ Tryd.prog 234 [.map none] := ⟨fun w => ⟨.map none, by kernel_rfl, rfl⟩⟩
instance : TyZ Tryd.prog 235 [.nilFunc] := ⟨fun w => ⟨.nilFunc, by kernel_rfl, rfl⟩⟩
instance : TyZ Tryd.prog 237 [.slice none 0 0] := ⟨fun w => ⟨.slice none 0 0, by kernel_rfl, rfl⟩⟩
instance : TyZ Tryd.prog 247 [.nilFunc] := ⟨fun w => ⟨.agg #[.nilFunc], by kernel_rfl, rfl⟩⟩
instance : TyF Tryd.prog 27 0 0 := ⟨fun a w => by kernel_rfl⟩
instance : TyF Tryd.prog 27 1 1 := ⟨fun a w => by kernel_rfl⟩
instance : TyF Tryd.prog 27 2 2 := ⟨fun a w => by kernel_rfl⟩
instance : TyF Tryd.prog 27 3 3 := ⟨fun a w => by kernel_rfl⟩
instance : TyF Tryd.prog 53 0 0 := ⟨fun a w => by kernel_rfl⟩
instance : TyF Tryd.prog 53 1 1 := ⟨fun a w => by kernel_rfl⟩
instance : TyF Tryd.prog 53 2 2 := ⟨fun a w => by kernel_rfl⟩
instance : TyF Tryd.prog 55 0 0 := ⟨fun a w => by kernel_rfl⟩
instance : TyF Tryd.prog 55 1 1 := ⟨fun a w => by kernel_rfl⟩
instance : TyF Tryd.prog 66 0 0 := ⟨fun a w => by kernel_rfl⟩
instance : TyF Tryd.prog 66 1 1 := ⟨fun a w => by kernel_rfl⟩
instance : TyF Tryd.prog 66 2 2 := ⟨fun a w => by kernel_rfl⟩
instance : TyF Tryd.prog 66 3 3 := ⟨fun a w => by kernel_rfl⟩
instance : TyF Tryd.prog 68 0 0 := ⟨fun a w => by kernel_rfl⟩
instance : TyF Tryd.prog 68 1 1 := ⟨fun a w => by kernel_rfl⟩
instance : TyF Tryd.prog 68 2 2 := ⟨fun a w => by kernel_rfl⟩
instance : TyF Tryd.prog 68 3 3 := ⟨fun a w => by kernel_rfl⟩
instance : TyF Tryd.prog 70 0 0 := ⟨fun a w => by kernel_rfl⟩
instance : TyF Tryd.prog 70 1 1 := ⟨fun a w => by kernel_rfl⟩
instance : TyF Tryd.prog 70 2 2 := ⟨fun a w => by kernel_rfl⟩
instance : TyF Tryd.prog 70 3 3 := ⟨fun a w => by kernel_rfl⟩
instance : TyF Tryd.prog 108 0 0 := ⟨fun a w => by kernel_rfl⟩
instance : TyF Tryd.prog 108 1 4 := ⟨fun a w => by kernel_rfl⟩
instance : TyF Tryd.prog 113 0 0 := ⟨fun a w => by kernel_rfl⟩
instance : TyF Tryd.prog 113 1 1 := ⟨fun a w => by kernel_rfl⟩
instance : TyF Tryd.prog 122 0 0 := ⟨fun a w => by kernel_rfl⟩
instance : TyF Tryd.prog 134 0 0 := ⟨fun a w => by kernel_rfl⟩
instance : TyF Tryd.prog 134 1 1 := ⟨fun a w => by kernel_rfl⟩
instance : TyF Tryd.prog 149 0 0 := ⟨fun a w => by kernel_rfl⟩
instance : TyF Tryd.prog 149 1 1 := ⟨fun a w => by kernel_rfl⟩
instance : TyF Tryd.prog 212 0 0 := ⟨fun a w => by kernel_rfl⟩
instance : TyF Tryd.prog 215 0 0 := ⟨fun a w => by kernel_rfl⟩
instance : TyF Tryd.prog 215 1 4 := ⟨fun a w => by kernel_rfl⟩
instance : TyF Tryd.prog 233 0 0 := ⟨fun a w => by kernel_rfl⟩
instance : TyF Tryd.prog 233 1 2 := ⟨fun a w => by kernel_rfl⟩
instance : TyF Tryd.prog 233 2 3 := ⟨fun a w => by kernel_rfl⟩
instance : TyF Tryd.prog 233 3 4 := ⟨fun a w => by kernel_rfl⟩
instance : TyF Tryd.prog 247 0 0 := ⟨fun a w => by kernel_rfl⟩
instance : TyE Tryd.prog 22 3 1 := tyE (z := .int .i64 0) (b := 8) (by kernel_rfl) (by kernel_rfl) (by decide) rfl (by decide)
instance : TyE Tryd.prog 23 55 2 := tyE (z := .agg #[.int .i64 0, .int .i64 0]) (b := 16) (by kernel_rfl) (by kernel_rfl) (by decide) rfl (by decide)
instance : TyE Tryd.prog 24 66 4 := tyE (z := .agg #[.int .i64 0, .int .i64 0, .int .i64 0, .slice none 0 0]) (b := 48) (by kernel_rfl) (by kernel_rfl) (by decide) rfl (by decide)
instance : TyE Tryd.prog 25 53 3 := tyE (z := .agg #[.int .i64 0, .int .i64 0, .int .i64 0]) (b := 24) (by kernel_rfl) (by kernel_rfl) (by decide) rfl (by decide)
instance : TyE Tryd.prog 64 113 2 := tyE (z := .agg #[.int .i64 0, .int .i64 0]) (b := 16) (by kernel_rfl) (by kernel_rfl) (by decide) rfl (by decide)
instance : TyE Tryd.prog 81 22 1 := tyE (z := .slice none 0 0) (b := 24) (by kernel_rfl) (by kernel_rfl) (by decide) rfl (by decide)
instance : TyE Tryd.prog 119 25 1 := tyE (z := .slice none 0 0) (b := 24) (by kernel_rfl) (by kernel_rfl) (by decide) rfl (by decide)
instance : TyE Tryd.prog 142 105 2 := tyE (z := .agg #[.int .i64 0, .int .i64 0]) (b := 16) (by kernel_rfl) (by kernel_rfl) (by decide) rfl (by decide)
instance : TyE Tryd.prog 146 149 2 := tyE (z := .agg #[.int .i64 0, .int .i64 0]) (b := 16) (by kernel_rfl) (by kernel_rfl) (by decide) rfl (by decide)
instance : TyE Tryd.prog 152 155 1 := tyE (z := .slice none 0 0) (b := 24) (by kernel_rfl) (by kernel_rfl) (by decide) rfl (by decide)
instance : TyE Tryd.prog 189 68 4 := tyE (z := .agg #[.int .i64 0, .int .i64 0, .slice none 0 0, .slice none 0 0]) (b := 64) (by kernel_rfl) (by kernel_rfl) (by decide) rfl (by decide)
instance : TyE Tryd.prog 193 4 1 := tyE (z := .bool false) (b := 1) (by kernel_rfl) (by kernel_rfl) (by decide) rfl (by decide)
instance : TyE Tryd.prog 237 134 2 := tyE (z := .agg #[.int .i64 0, .int .i64 0]) (b := 16) (by kernel_rfl) (by kernel_rfl) (by decide) rfl (by decide)
instance : TyE Tryd.prog 242 237 1 := tyE (z := .slice none 0 0) (b := 24) (by kernel_rfl) (by kernel_rfl) (by decide) rfl (by decide)
instance : TyA Tryd.prog 105 2 1 := ⟨⟨3, by kernel_rfl, fun w => by kernel_rfl⟩, by decide⟩
instance : TyA Tryd.prog 178 6 1 := ⟨⟨119, by kernel_rfl, fun w => by kernel_rfl⟩, by decide⟩
instance : TyA Tryd.prog 221 5 1 := ⟨⟨3, by kernel_rfl, fun w => by kernel_rfl⟩, by decide⟩
instance : TyA Tryd.prog 227 2 1 := ⟨⟨3, by kernel_rfl, fun w => by kernel_rfl⟩, by decide⟩
instance : TyB Tryd.prog 27 [.slice none 0 0, .slice none 0 0, .slice none 0 0, .slice none 0 0] (fun i => (#[(0, 1), (1, 1), (2, 1), (3, 1)] : Array (Nat × Nat))[i]?) := tyB_struct (z := .agg #[.slice none 0 0, .slice none 0 0, .slice none 0 0, .slice none 0 0]) (fs := Program.fieldsOf Tryd.prog 27) (fun w => by kernel_rfl) rfl (by kernel_rfl) (fun w => by kernel_rfl)
instance : TyB Tryd.prog 53 [.int .i64 0, .int .i64 0, .int .i64 0] (fun i => (#[(0, 1), (1, 1), (2, 1)] : Array (Nat × Nat))[i]?) := tyB_struct (z := .agg #[.int .i64 0, .int .i64 0, .int .i64 0]) (fs := Program.fieldsOf Tryd.prog 53) (fun w => by kernel_rfl) rfl (by kernel_rfl) (fun w => by kernel_rfl)
instance : TyB Tryd.prog 55 [.int .i64 0, .int .i64 0] (fun i => (#[(0, 1), (1, 1)] : Array (Nat × Nat))[i]?) := tyB_struct (z := .agg #[.int .i64 0, .int .i64 0]) (fs := Program.fieldsOf Tryd.prog 55) (fun w => by kernel_rfl) rfl (by kernel_rfl) (fun w => by kernel_rfl)
instance : TyB Tryd.prog 105 [.int .i64 0, .int .i64 0] (fun i => some (i * 1, 1)) := tyB_array (z := .agg #[.int .i64 0, .int .i64 0]) (n := 2) (e := 3) (fun w => by kernel_rfl) rfl (by kernel_rfl) (fun w => by kernel_rfl)
instance : TyB Tryd.prog 108 [.slice none 0 0, .slice none 0 0, .slice none 0 0, .slice none 0 0, .slice none 0 0] (fun i => (#[(0, 4), (4, 1)] : Array (Nat × Nat))[i]?) := tyB_struct (z := .agg #[.slice none 0 0, .slice none 0 0, .slice none 0 0, .slice none 0 0, .slice none 0 0]) (fs := Program.fieldsOf Tryd.prog 108) (fun w => by kernel_rfl) rfl (by kernel_rfl) (fun w => by kernel_rfl)
instance : TyB Tryd.prog 122 [.nilFunc] (fun i => (#[(0, 1)] : Array (Nat × Nat))[i]?) := tyB_struct (z := .agg #[.nilFunc]) (fs := Program.fieldsOf Tryd.prog 122) (fun w => by kernel_rfl) rfl (by kernel_rfl) (fun w => by kernel_rfl)
instance : TyB Tryd.prog 123 [.nilFunc, .nilFunc, .nilFunc, .nilFunc] (fun i => some (i * 1, 1)) := tyB_array (z := .agg #[.nilFunc, .nilFunc, .nilFunc, .nilFunc]) (n := 4) (e := 122) (fun w => by kernel_rfl) rfl (by kernel_rfl) (fun w => by kernel_rfl)
instance : TyB Tryd.prog 134 [.int .i64 0, .int .i64 0] (fun i => (#[(0, 1), (1, 1)] : Array (Nat × Nat))[i]?) := tyB_struct (z := .agg #[.int .i64 0, .int .i64 0]) (fs := Program.fieldsOf Tryd.prog 134) (fun w => by kernel_rfl) rfl (by kernel_rfl) (fun w => by kernel_rfl)
instance : TyB Tryd.prog 149 [.int .i64 0, .int .i64 0] (fun i => (#[(0, 1), (1, 1)] : Array (Nat × Nat))[i]?) := tyB_struct (z := .agg #[.int .i64 0, .int .i64 0]) (fs := Program.fieldsOf Tryd.prog 149) (fun w => by kernel_rfl) rfl (by kernel_rfl) (fun w => by kernel_rfl)
instance : TyB Tryd.prog 212 [.int .i64 0, .int .i64 0, .int .i64 0, .int .i64 0] (fun i => (#[(0, 4)] : Array (Nat × Nat))[i]?) := tyB_struct (z := .agg #[.int .i64 0, .int .i64 0, .int .i64 0, .int .i64 0]) (fs := Program.fieldsOf Tryd.prog 212) (fun w => by kernel_rfl) rfl (by kernel_rfl) (fun w => by kernel_rfl)
instance : TyB Tryd.prog 215 [.int .i64 0, .int .i64 0, .slice none 0 0, .slice none 0 0, .nilFunc] (fun i => (#[(0, 4), (4, 1)] : Array (Nat × Nat))[i]?) := tyB_struct (z := .agg #[.int .i64 0, .int .i64 0, .slice none 0 0, .slice none 0 0, .nilFunc]) (fs := Program.fieldsOf Tryd.prog 215) (fun w => by kernel_rfl) rfl (by kernel_rfl) (fun w => by kernel_rfl)
instance : TyB Tryd.prog 220 [.int .i64 0, .int .i64 0, .int .i64 0, .int .i64 0, .int .i64 0] (fun i => some (i * 1, 1)) := tyB_array (z := .agg #[.int .i64 0, .int .i64 0, .int .i64 0, .int .i64 0, .int .i64 0]) (n := 5) (e := 3) (fun w => by kernel_rfl) rfl (by kernel_rfl) (fun w => by kernel_rfl)
instance : TyB Tryd.prog 221 [.int .i64 0, .int .i64 0, .int .i64 0, .int .i64 0, .int .i64 0] (fun i => some (i * 1, 1)) := tyB_array (z := .agg #[.int .i64 0, .int .i64 0, .int .i64 0, .int .i64 0, .int .i64 0]) (n := 5) (e := 3) (fun w => by kernel_rfl) rfl (by kernel_rfl) (fun w => by kernel_rfl)
instance : TyB Tryd.prog 227 [.int .i64 0, .int .i64 0] (fun i => some (i * 1, 1)) := tyB_array (z := .agg #[.int .i64 0, .int .i64 0]) (n := 2) (e := 3) (fun w => by kernel_rfl) rfl (by kernel_rfl) (fun w => by kernel_rfl)
instance : TyB Tryd.prog 233 [.int .i64 0, .int .i64 0, .int .i64 0, .int .i64 0, .int .i64 0] (fun i => (#[(0, 2), (2, 1), (3, 1), (4, 1)] : Array (Nat × Nat))[i]?) := tyB_struct (z := .agg #[.int .i64 0, .int .i64 0, .int .i64 0, .int .i64 0, .int .i64 0]) (fs := Program.fieldsOf Tryd.prog 233) (fun w => by kernel_rfl) rfl (by kernel_rfl) (fun w => by kernel_rfl)
instance : TyB Tryd.prog 247 [.nilFunc] (fun i => (#[(0, 1)] : Array (Nat × Nat))[i]?) := tyB_struct (z := .agg #[.nilFunc]) (fs := Program.fieldsOf Tryd.prog 247) (fun w => by kernel_rfl) rfl (by kernel_rfl) (fun w => by kernel_rfl)
instance : TyB Tryd.prog 248 [.nilFunc, .nilFunc, .nilFunc] (fun i => some (i * 1, 1)) := tyB_array (z := .agg #[.nilFunc, .nilFunc, .nilFunc]) (n := 3) (e := 247) (fun w => by kernel_rfl) rfl (by kernel_rfl) (fun w => by kernel_rfl)
set_option maxRecDepth 20000 in
instance : TyQ Tryd.prog 53 3 := ⟨fun x y xs ys w h1 h2 => by
  match xs, ys, h1, h2 with
  | [x0, x1, x2], [y0, y1, y2], _, _ => refine ⟨?_, ?_, ?_, ?_⟩ <;> simp [go_sem] <;> by_cases h10 : x0 = y0 <;> by_cases h11 : x1 = y1 <;> by_cases h12 : x2 = y2 <;> simp [*]⟩
set_option maxRecDepth 20000 in
instance : TyQ Tryd.prog 55 2 := ⟨fun x y xs ys w h1 h2 => by
  match xs, ys, h1, h2 with
  | [x0, x1], [y0, y1], _, _ => refine ⟨?_, ?_, ?_, ?_⟩ <;> simp [go_sem] <;> by_cases h10 : x0 = y0 <;> by_cases h11 : x1 = y1 <;> simp [*]⟩
set_option maxRecDepth 20000 in
instance : TyQ Tryd.prog 113 2 := ⟨fun x y xs ys w h1 h2 => by
  match xs, ys, h1, h2 with
  | [x0, x1], [y0, y1], _, _ => refine ⟨?_, ?_, ?_, ?_⟩ <;> simp [go_sem] <;> by_cases h10 : x0 = y0 <;> by_cases h11 : x1 = y1 <;> simp [*]⟩

end Go.Proofs.YtbkellknlcageaaDoor.Sw
