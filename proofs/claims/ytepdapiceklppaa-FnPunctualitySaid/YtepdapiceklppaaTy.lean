/- The types of the seat as a table. Made by program (genty.py). -/
import Derived.Test.YtepdapiceklppaaProg
import Derived.Test.YtepdapiceklppaaAbSpec
import Derived.KernelRfl
namespace Go.Proofs.Ytepdapiceklppaa
open Go Go.Ab
set_option maxRecDepth 100000

abbrev tyE2 : TyE := ⟨.int .i64, 1, 8, .int .i64 0, false⟩
abbrev tyE3 : TyE := ⟨.int .i64, 1, 8, .int .i64 0, false⟩
abbrev tyE4 : TyE := ⟨.bool, 1, 1, .bool false, false⟩
abbrev tyE5 : TyE := ⟨.int .u8, 1, 1, .int .u8 0, false⟩
abbrev tyE7 : TyE := ⟨.struct #[{ name := "x", type := 2, offset := 0, embedded := false, tag := "", pkgPath := "runtime", byteOffset := 0 }, { name := "y", type := 3, offset := 1, embedded := false, tag := "", pkgPath := "runtime", byteOffset := 8 }, { name := "signed", type := 4, offset := 2, embedded := false, tag := "", pkgPath := "runtime", byteOffset := 16 }, { name := "code", type := 6, offset := 3, embedded := false, tag := "", pkgPath := "runtime", byteOffset := 17 }], 4, 24, .agg #[.int .i64 0, .int .i64 0, .bool false, .int .u8 0], false⟩
abbrev tyE9 : TyE := ⟨.string, 1, 16, .string ByteArray.empty, false⟩
abbrev tyE12 : TyE := ⟨.int .u64, 1, 8, .int .u64 0, false⟩
abbrev tyE13 : TyE := ⟨.struct #[{ name := "msg", type := 9, offset := 0, embedded := false, tag := "", pkgPath := "runtime", byteOffset := 0 }, { name := "addr", type := 12, offset := 1, embedded := false, tag := "", pkgPath := "runtime", byteOffset := 16 }], 2, 24, .agg #[.string ByteArray.empty, .int .u64 0], false⟩
abbrev tyE15 : TyE := ⟨.pointer 287, 1, 8, .pointer none, false⟩
abbrev tyE16 : TyE := ⟨.pointer 290, 1, 8, .pointer none, false⟩
abbrev tyE17 : TyE := ⟨.pointer 298, 1, 8, .pointer none, false⟩
abbrev tyE18 : TyE := ⟨.struct #[{ name := "typ", type := 17, offset := 0, embedded := false, tag := "", pkgPath := "internal/runtime/maps", byteOffset := 0 }], 1, 8, .agg #[.pointer none], false⟩
abbrev tyE21 : TyE := ⟨.int .i32, 1, 4, .int .i32 0, false⟩
abbrev tyE22 : TyE := ⟨.slice 5, 1, 24, .slice none 0 0, false⟩
abbrev tyE24 : TyE := ⟨.slice 49, 1, 24, .slice none 0 0, false⟩
abbrev tyE25 : TyE := ⟨.struct #[{ name := "MinRest", type := 3, offset := 0, embedded := false, tag := "", pkgPath := "", byteOffset := 0 }, { name := "MaxRow", type := 3, offset := 1, embedded := false, tag := "", pkgPath := "", byteOffset := 8 }, { name := "MaxWeek", type := 3, offset := 2, embedded := false, tag := "", pkgPath := "", byteOffset := 16 }], 3, 24, .agg #[.int .i64 0, .int .i64 0, .int .i64 0], false⟩
abbrev tyE26 : TyE := ⟨.struct #[{ name := "MinRest", type := 3, offset := 0, embedded := false, tag := "", pkgPath := "", byteOffset := 0 }, { name := "MaxRow", type := 3, offset := 1, embedded := false, tag := "", pkgPath := "", byteOffset := 8 }, { name := "MaxWeek", type := 3, offset := 2, embedded := false, tag := "", pkgPath := "", byteOffset := 16 }], 3, 24, .agg #[.int .i64 0, .int .i64 0, .int .i64 0], true⟩
abbrev tyE27 : TyE := ⟨.slice 32, 1, 24, .slice none 0 0, false⟩
abbrev tyE28 : TyE := ⟨.struct #[{ name := "Shifts", type := 24, offset := 0, embedded := false, tag := "", pkgPath := "", byteOffset := 0 }, { name := "Rules", type := 26, offset := 1, embedded := false, tag := "", pkgPath := "", byteOffset := 24 }, { name := "Plan", type := 27, offset := 4, embedded := false, tag := "", pkgPath := "", byteOffset := 48 }], 5, 72, .agg #[.slice none 0 0, .int .i64 0, .int .i64 0, .int .i64 0, .slice none 0 0], false⟩
abbrev tyE29 : TyE := ⟨.struct #[{ name := "Shifts", type := 24, offset := 0, embedded := false, tag := "", pkgPath := "", byteOffset := 0 }, { name := "Rules", type := 26, offset := 1, embedded := false, tag := "", pkgPath := "", byteOffset := 24 }, { name := "Plan", type := 27, offset := 4, embedded := false, tag := "", pkgPath := "", byteOffset := 48 }], 5, 72, .agg #[.slice none 0 0, .int .i64 0, .int .i64 0, .int .i64 0, .slice none 0 0], true⟩
abbrev tyE32 : TyE := ⟨.slice 3, 1, 24, .slice none 0 0, false⟩
abbrev tyE48 : TyE := ⟨.struct #[{ name := "From", type := 3, offset := 0, embedded := false, tag := "", pkgPath := "", byteOffset := 0 }, { name := "To", type := 3, offset := 1, embedded := false, tag := "", pkgPath := "", byteOffset := 8 }], 2, 16, .agg #[.int .i64 0, .int .i64 0], false⟩
abbrev tyE49 : TyE := ⟨.struct #[{ name := "From", type := 3, offset := 0, embedded := false, tag := "", pkgPath := "", byteOffset := 0 }, { name := "To", type := 3, offset := 1, embedded := false, tag := "", pkgPath := "", byteOffset := 8 }], 2, 16, .agg #[.int .i64 0, .int .i64 0], true⟩
abbrev tyE60 : TyE := ⟨.slice 9, 1, 24, .slice none 0 0, false⟩
abbrev tyE61 : TyE := ⟨.slice 198, 1, 24, .slice none 0 0, false⟩
abbrev tyE62 : TyE := ⟨.struct #[{ name := "Stops", type := 60, offset := 0, embedded := false, tag := "", pkgPath := "", byteOffset := 0 }, { name := "Lines", type := 61, offset := 1, embedded := false, tag := "", pkgPath := "", byteOffset := 24 }], 2, 48, .agg #[.slice none 0 0, .slice none 0 0], false⟩
abbrev tyE63 : TyE := ⟨.struct #[{ name := "Stops", type := 60, offset := 0, embedded := false, tag := "", pkgPath := "", byteOffset := 0 }, { name := "Lines", type := 61, offset := 1, embedded := false, tag := "", pkgPath := "", byteOffset := 24 }], 2, 48, .agg #[.slice none 0 0, .slice none 0 0], true⟩
abbrev tyE64 : TyE := ⟨.slice 72, 1, 24, .slice none 0 0, false⟩
abbrev tyE71 : TyE := ⟨.struct #[{ name := "A", type := 3, offset := 0, embedded := false, tag := "", pkgPath := "", byteOffset := 0 }, { name := "B", type := 3, offset := 1, embedded := false, tag := "", pkgPath := "", byteOffset := 8 }, { name := "Minutes", type := 3, offset := 2, embedded := false, tag := "", pkgPath := "", byteOffset := 16 }], 3, 24, .agg #[.int .i64 0, .int .i64 0, .int .i64 0], false⟩
abbrev tyE72 : TyE := ⟨.struct #[{ name := "A", type := 3, offset := 0, embedded := false, tag := "", pkgPath := "", byteOffset := 0 }, { name := "B", type := 3, offset := 1, embedded := false, tag := "", pkgPath := "", byteOffset := 8 }, { name := "Minutes", type := 3, offset := 2, embedded := false, tag := "", pkgPath := "", byteOffset := 16 }], 3, 24, .agg #[.int .i64 0, .int .i64 0, .int .i64 0], true⟩
abbrev tyE77 : TyE := ⟨.struct #[{ name := "Sizes", type := 32, offset := 0, embedded := false, tag := "", pkgPath := "", byteOffset := 0 }, { name := "Tracks", type := 27, offset := 1, embedded := false, tag := "", pkgPath := "", byteOffset := 24 }], 2, 48, .agg #[.slice none 0 0, .slice none 0 0], false⟩
abbrev tyE78 : TyE := ⟨.struct #[{ name := "Sizes", type := 32, offset := 0, embedded := false, tag := "", pkgPath := "", byteOffset := 0 }, { name := "Tracks", type := 27, offset := 1, embedded := false, tag := "", pkgPath := "", byteOffset := 24 }], 2, 48, .agg #[.slice none 0 0, .slice none 0 0], true⟩
abbrev tyE79 : TyE := ⟨.slice 158, 1, 24, .slice none 0 0, false⟩
abbrev tyE99 : TyE := ⟨.slice 196, 1, 24, .slice none 0 0, false⟩
abbrev tyE100 : TyE := ⟨.struct #[{ name := "Network", type := 63, offset := 0, embedded := false, tag := "", pkgPath := "", byteOffset := 0 }, { name := "Trips", type := 99, offset := 2, embedded := false, tag := "", pkgPath := "", byteOffset := 48 }], 3, 72, .agg #[.slice none 0 0, .slice none 0 0, .slice none 0 0], false⟩
abbrev tyE101 : TyE := ⟨.struct #[{ name := "Network", type := 63, offset := 0, embedded := false, tag := "", pkgPath := "", byteOffset := 0 }, { name := "Trips", type := 99, offset := 2, embedded := false, tag := "", pkgPath := "", byteOffset := 48 }], 3, 72, .agg #[.slice none 0 0, .slice none 0 0, .slice none 0 0], true⟩
abbrev tyE102 : TyE := ⟨.slice 190, 1, 24, .slice none 0 0, false⟩
abbrev tyE109 : TyE := ⟨.slice 200, 1, 24, .slice none 0 0, false⟩
abbrev tyE112 : TyE := ⟨.slice 206, 1, 24, .slice none 0 0, false⟩
abbrev tyE134 : TyE := ⟨.pointer 137, 1, 8, .pointer none, false⟩
abbrev tyE135 : TyE := ⟨.int .u64, 1, 8, .int .u64 0, false⟩
abbrev tyE136 : TyE := ⟨.struct #[{ name := "code", type := 22, offset := 0, embedded := false, tag := "", pkgPath := "loop.example/g00900/spec", byteOffset := 0 }, { name := "at", type := 3, offset := 1, embedded := false, tag := "", pkgPath := "loop.example/g00900/spec", byteOffset := 24 }, { name := "seed", type := 135, offset := 2, embedded := false, tag := "", pkgPath := "loop.example/g00900/spec", byteOffset := 32 }], 3, 40, .agg #[.slice none 0 0, .int .i64 0, .int .u64 0], true⟩
abbrev tyE137 : TyE := ⟨.struct #[{ name := "code", type := 22, offset := 0, embedded := false, tag := "", pkgPath := "loop.example/g00900/spec", byteOffset := 0 }, { name := "at", type := 3, offset := 1, embedded := false, tag := "", pkgPath := "loop.example/g00900/spec", byteOffset := 24 }, { name := "seed", type := 135, offset := 2, embedded := false, tag := "", pkgPath := "loop.example/g00900/spec", byteOffset := 32 }], 3, 40, .agg #[.slice none 0 0, .int .i64 0, .int .u64 0], true⟩
abbrev tyE157 : TyE := ⟨.struct #[{ name := "Vehicle", type := 3, offset := 0, embedded := false, tag := "", pkgPath := "", byteOffset := 0 }, { name := "Out", type := 4, offset := 1, embedded := false, tag := "", pkgPath := "", byteOffset := 8 }], 2, 16, .agg #[.int .i64 0, .bool false], false⟩
abbrev tyE158 : TyE := ⟨.struct #[{ name := "Vehicle", type := 3, offset := 0, embedded := false, tag := "", pkgPath := "", byteOffset := 0 }, { name := "Out", type := 4, offset := 1, embedded := false, tag := "", pkgPath := "", byteOffset := 8 }], 2, 16, .agg #[.int .i64 0, .bool false], true⟩
abbrev tyE189 : TyE := ⟨.struct #[{ name := "Trip", type := 3, offset := 0, embedded := false, tag := "", pkgPath := "", byteOffset := 0 }, { name := "From", type := 3, offset := 1, embedded := false, tag := "", pkgPath := "", byteOffset := 8 }, { name := "To", type := 3, offset := 2, embedded := false, tag := "", pkgPath := "", byteOffset := 16 }, { name := "Hold", type := 3, offset := 3, embedded := false, tag := "", pkgPath := "", byteOffset := 24 }], 4, 32, .agg #[.int .i64 0, .int .i64 0, .int .i64 0, .int .i64 0], false⟩
abbrev tyE190 : TyE := ⟨.struct #[{ name := "Trip", type := 3, offset := 0, embedded := false, tag := "", pkgPath := "", byteOffset := 0 }, { name := "From", type := 3, offset := 1, embedded := false, tag := "", pkgPath := "", byteOffset := 8 }, { name := "To", type := 3, offset := 2, embedded := false, tag := "", pkgPath := "", byteOffset := 16 }, { name := "Hold", type := 3, offset := 3, embedded := false, tag := "", pkgPath := "", byteOffset := 24 }], 4, 32, .agg #[.int .i64 0, .int .i64 0, .int .i64 0, .int .i64 0], true⟩
abbrev tyE195 : TyE := ⟨.struct #[{ name := "Id", type := 3, offset := 0, embedded := false, tag := "", pkgPath := "", byteOffset := 0 }, { name := "Line", type := 3, offset := 1, embedded := false, tag := "", pkgPath := "", byteOffset := 8 }, { name := "Start", type := 3, offset := 2, embedded := false, tag := "", pkgPath := "", byteOffset := 16 }], 3, 24, .agg #[.int .i64 0, .int .i64 0, .int .i64 0], false⟩
abbrev tyE196 : TyE := ⟨.struct #[{ name := "Id", type := 3, offset := 0, embedded := false, tag := "", pkgPath := "", byteOffset := 0 }, { name := "Line", type := 3, offset := 1, embedded := false, tag := "", pkgPath := "", byteOffset := 8 }, { name := "Start", type := 3, offset := 2, embedded := false, tag := "", pkgPath := "", byteOffset := 16 }], 3, 24, .agg #[.int .i64 0, .int .i64 0, .int .i64 0], true⟩
abbrev tyE197 : TyE := ⟨.struct #[{ name := "Name", type := 9, offset := 0, embedded := false, tag := "", pkgPath := "", byteOffset := 0 }, { name := "Stops", type := 32, offset := 1, embedded := false, tag := "", pkgPath := "", byteOffset := 16 }, { name := "Runs", type := 32, offset := 2, embedded := false, tag := "", pkgPath := "", byteOffset := 40 }], 3, 64, .agg #[.string ByteArray.empty, .slice none 0 0, .slice none 0 0], false⟩
abbrev tyE198 : TyE := ⟨.struct #[{ name := "Name", type := 9, offset := 0, embedded := false, tag := "", pkgPath := "", byteOffset := 0 }, { name := "Stops", type := 32, offset := 1, embedded := false, tag := "", pkgPath := "", byteOffset := 16 }, { name := "Runs", type := 32, offset := 2, embedded := false, tag := "", pkgPath := "", byteOffset := 40 }], 3, 64, .agg #[.string ByteArray.empty, .slice none 0 0, .slice none 0 0], true⟩
abbrev tyE200 : TyE := ⟨.array 2 3, 2, 16, .agg #[.int .i64 0, .int .i64 0], false⟩
abbrev tyE205 : TyE := ⟨.struct #[{ name := "Stop", type := 3, offset := 0, embedded := false, tag := "", pkgPath := "", byteOffset := 0 }, { name := "Planned", type := 3, offset := 1, embedded := false, tag := "", pkgPath := "", byteOffset := 8 }, { name := "Actual", type := 3, offset := 2, embedded := false, tag := "", pkgPath := "", byteOffset := 16 }, { name := "Persons", type := 3, offset := 3, embedded := false, tag := "", pkgPath := "", byteOffset := 24 }], 4, 32, .agg #[.int .i64 0, .int .i64 0, .int .i64 0, .int .i64 0], false⟩
abbrev tyE206 : TyE := ⟨.struct #[{ name := "Stop", type := 3, offset := 0, embedded := false, tag := "", pkgPath := "", byteOffset := 0 }, { name := "Planned", type := 3, offset := 1, embedded := false, tag := "", pkgPath := "", byteOffset := 8 }, { name := "Actual", type := 3, offset := 2, embedded := false, tag := "", pkgPath := "", byteOffset := 16 }, { name := "Persons", type := 3, offset := 3, embedded := false, tag := "", pkgPath := "", byteOffset := 24 }], 4, 32, .agg #[.int .i64 0, .int .i64 0, .int .i64 0, .int .i64 0], true⟩
abbrev tyE231 : TyE := ⟨.array 100 4, 100, 100, .agg #[.bool false, .bool false, .bool false, .bool false, .bool false, .bool false, .bool false, .bool false, .bool false, .bool false, .bool false, .bool false, .bool false, .bool false, .bool false, .bool false, .bool false, .bool false, .bool false, .bool false, .bool false, .bool false, .bool false, .bool false, .bool false, .bool false, .bool false, .bool false, .bool false, .bool false, .bool false, .bool false, .bool false, .bool false, .bool false, .bool false, .bool false, .bool false, .bool false, .bool false, .bool false, .bool false, .bool false, .bool false, .bool false, .bool false, .bool false, .bool false, .bool false, .bool false, .bool false, .bool false, .bool false, .bool false, .bool false, .bool false, .bool false, .bool false, .bool false, .bool false, .bool false, .bool false, .bool false, .bool false, .bool false, .bool false, .bool false, .bool false, .bool false, .bool false, .bool false, .bool false, .bool false, .bool false, .bool false, .bool false, .bool false, .bool false, .bool false, .bool false, .bool false, .bool false, .bool false, .bool false, .bool false, .bool false, .bool false, .bool false, .bool false, .bool false, .bool false, .bool false, .bool false, .bool false, .bool false, .bool false, .bool false, .bool false, .bool false, .bool false], false⟩
abbrev tyE243 : TyE := ⟨.int .u64, 1, 8, .int .u64 0, false⟩
abbrev tyE256 : TyE := ⟨.int .i64, 1, 8, .int .i64 0, false⟩
abbrev tyE262 : TyE := ⟨.int .u32, 1, 4, .int .u32 0, false⟩
abbrev tyE274 : TyE := ⟨.int .u64, 1, 8, .int .u64 0, false⟩
abbrev tyE278 : TyE := ⟨.pointer 3, 1, 8, .pointer none, false⟩
abbrev tyE282 : TyE := ⟨.pointer 274, 1, 8, .pointer none, false⟩
abbrev tyE286 : TyE := ⟨.struct #[{ name := "_interface", type := 17, offset := 0, embedded := false, tag := "", pkgPath := "runtime", byteOffset := 0 }, { name := "concrete", type := 17, offset := 1, embedded := false, tag := "", pkgPath := "runtime", byteOffset := 8 }, { name := "asserted", type := 17, offset := 2, embedded := false, tag := "", pkgPath := "runtime", byteOffset := 16 }, { name := "missingMethod", type := 9, offset := 3, embedded := false, tag := "", pkgPath := "runtime", byteOffset := 24 }], 4, 40, .agg #[.pointer none, .pointer none, .pointer none, .string ByteArray.empty], false⟩
abbrev tyE289 : TyE := ⟨.struct #[{ name := "_", type := 288, offset := 0, embedded := false, tag := "", pkgPath := "runtime", byteOffset := 0 }], 0, 0, .agg #[], false⟩
abbrev tyE294 : TyE := ⟨.pointer 5, 1, 8, .pointer none, false⟩
abbrev tyE297 : TyE := ⟨.struct #[{ name := "Size_", type := 12, offset := 0, embedded := false, tag := "", pkgPath := "", byteOffset := 0 }, { name := "PtrBytes", type := 12, offset := 1, embedded := false, tag := "", pkgPath := "", byteOffset := 8 }, { name := "Hash", type := 262, offset := 2, embedded := false, tag := "", pkgPath := "", byteOffset := 16 }, { name := "TFlag", type := 291, offset := 3, embedded := false, tag := "", pkgPath := "", byteOffset := 20 }, { name := "Align_", type := 5, offset := 4, embedded := false, tag := "", pkgPath := "", byteOffset := 21 }, { name := "FieldAlign_", type := 5, offset := 5, embedded := false, tag := "", pkgPath := "", byteOffset := 22 }, { name := "Kind_", type := 292, offset := 6, embedded := false, tag := "", pkgPath := "", byteOffset := 23 }, { name := "Equal", type := 293, offset := 7, embedded := false, tag := "", pkgPath := "", byteOffset := 24 }, { name := "GCData", type := 294, offset := 8, embedded := false, tag := "", pkgPath := "", byteOffset := 32 }, { name := "Str", type := 295, offset := 9, embedded := false, tag := "", pkgPath := "", byteOffset := 40 }, { name := "PtrToThis", type := 296, offset := 10, embedded := false, tag := "", pkgPath := "", byteOffset := 44 }], 11, 48, .agg #[.int .u64 0, .int .u64 0, .int .u32 0, .int .u8 0, .int .u8 0, .int .u8 0, .int .u8 0, .nilFunc, .pointer none, .int .i32 0, .int .i32 0], false⟩
abbrev tyE299 : TyE := ⟨.unsafePointer, 1, 8, .pointer none, false⟩
def tyL : List (Nat × TyE) := [(2, tyE2), (3, tyE3), (4, tyE4), (5, tyE5), (7, tyE7), (9, tyE9), (12, tyE12), (13, tyE13), (15, tyE15), (16, tyE16), (17, tyE17), (18, tyE18), (21, tyE21), (22, tyE22), (24, tyE24), (25, tyE25), (26, tyE26), (27, tyE27), (28, tyE28), (29, tyE29), (32, tyE32), (48, tyE48), (49, tyE49), (60, tyE60), (61, tyE61), (62, tyE62), (63, tyE63), (64, tyE64), (71, tyE71), (72, tyE72), (77, tyE77), (78, tyE78), (79, tyE79), (99, tyE99), (100, tyE100), (101, tyE101), (102, tyE102), (109, tyE109), (112, tyE112), (134, tyE134), (135, tyE135), (136, tyE136), (137, tyE137), (157, tyE157), (158, tyE158), (189, tyE189), (190, tyE190), (195, tyE195), (196, tyE196), (197, tyE197), (198, tyE198), (200, tyE200), (205, tyE205), (206, tyE206), (231, tyE231), (243, tyE243), (256, tyE256), (262, tyE262), (274, tyE274), (278, tyE278), (282, tyE282), (286, tyE286), (289, tyE289), (294, tyE294), (297, tyE297), (299, tyE299)]
def ty (t : TypeId) : Option TyE := lookT t tyL
@[simp] theorem ty_2 : ty 2 = some tyE2 := rfl
@[simp] theorem ty_3 : ty 3 = some tyE3 := rfl
@[simp] theorem ty_4 : ty 4 = some tyE4 := rfl
@[simp] theorem ty_5 : ty 5 = some tyE5 := rfl
@[simp] theorem ty_7 : ty 7 = some tyE7 := rfl
@[simp] theorem ty_9 : ty 9 = some tyE9 := rfl
@[simp] theorem ty_12 : ty 12 = some tyE12 := rfl
@[simp] theorem ty_13 : ty 13 = some tyE13 := rfl
@[simp] theorem ty_15 : ty 15 = some tyE15 := rfl
@[simp] theorem ty_16 : ty 16 = some tyE16 := rfl
@[simp] theorem ty_17 : ty 17 = some tyE17 := rfl
@[simp] theorem ty_18 : ty 18 = some tyE18 := rfl
@[simp] theorem ty_21 : ty 21 = some tyE21 := rfl
@[simp] theorem ty_22 : ty 22 = some tyE22 := rfl
@[simp] theorem ty_24 : ty 24 = some tyE24 := rfl
@[simp] theorem ty_25 : ty 25 = some tyE25 := rfl
@[simp] theorem ty_26 : ty 26 = some tyE26 := rfl
@[simp] theorem ty_27 : ty 27 = some tyE27 := rfl
@[simp] theorem ty_28 : ty 28 = some tyE28 := rfl
@[simp] theorem ty_29 : ty 29 = some tyE29 := rfl
@[simp] theorem ty_32 : ty 32 = some tyE32 := rfl
@[simp] theorem ty_48 : ty 48 = some tyE48 := rfl
@[simp] theorem ty_49 : ty 49 = some tyE49 := rfl
@[simp] theorem ty_60 : ty 60 = some tyE60 := rfl
@[simp] theorem ty_61 : ty 61 = some tyE61 := rfl
@[simp] theorem ty_62 : ty 62 = some tyE62 := rfl
@[simp] theorem ty_63 : ty 63 = some tyE63 := rfl
@[simp] theorem ty_64 : ty 64 = some tyE64 := rfl
@[simp] theorem ty_71 : ty 71 = some tyE71 := rfl
@[simp] theorem ty_72 : ty 72 = some tyE72 := rfl
@[simp] theorem ty_77 : ty 77 = some tyE77 := rfl
@[simp] theorem ty_78 : ty 78 = some tyE78 := rfl
@[simp] theorem ty_79 : ty 79 = some tyE79 := rfl
@[simp] theorem ty_99 : ty 99 = some tyE99 := rfl
@[simp] theorem ty_100 : ty 100 = some tyE100 := rfl
@[simp] theorem ty_101 : ty 101 = some tyE101 := rfl
@[simp] theorem ty_102 : ty 102 = some tyE102 := rfl
@[simp] theorem ty_109 : ty 109 = some tyE109 := rfl
@[simp] theorem ty_112 : ty 112 = some tyE112 := rfl
@[simp] theorem ty_134 : ty 134 = some tyE134 := rfl
@[simp] theorem ty_135 : ty 135 = some tyE135 := rfl
@[simp] theorem ty_136 : ty 136 = some tyE136 := rfl
@[simp] theorem ty_137 : ty 137 = some tyE137 := rfl
@[simp] theorem ty_157 : ty 157 = some tyE157 := rfl
@[simp] theorem ty_158 : ty 158 = some tyE158 := rfl
@[simp] theorem ty_189 : ty 189 = some tyE189 := rfl
@[simp] theorem ty_190 : ty 190 = some tyE190 := rfl
@[simp] theorem ty_195 : ty 195 = some tyE195 := rfl
@[simp] theorem ty_196 : ty 196 = some tyE196 := rfl
@[simp] theorem ty_197 : ty 197 = some tyE197 := rfl
@[simp] theorem ty_198 : ty 198 = some tyE198 := rfl
@[simp] theorem ty_200 : ty 200 = some tyE200 := rfl
@[simp] theorem ty_205 : ty 205 = some tyE205 := rfl
@[simp] theorem ty_206 : ty 206 = some tyE206 := rfl
@[simp] theorem ty_231 : ty 231 = some tyE231 := rfl
@[simp] theorem ty_243 : ty 243 = some tyE243 := rfl
@[simp] theorem ty_256 : ty 256 = some tyE256 := rfl
@[simp] theorem ty_262 : ty 262 = some tyE262 := rfl
@[simp] theorem ty_274 : ty 274 = some tyE274 := rfl
@[simp] theorem ty_278 : ty 278 = some tyE278 := rfl
@[simp] theorem ty_282 : ty 282 = some tyE282 := rfl
@[simp] theorem ty_286 : ty 286 = some tyE286 := rfl
@[simp] theorem ty_289 : ty 289 = some tyE289 := rfl
@[simp] theorem ty_294 : ty 294 = some tyE294 := rfl
@[simp] theorem ty_297 : ty 297 = some tyE297 := rfl
@[simp] theorem ty_299 : ty 299 = some tyE299 := rfl
theorem tyOK_2 : TyOK Try.prog 2 tyE2 := ⟨Try.underlying2, Try.t2, Try.type2, rfl, rfl, rfl, fun h => by cases h⟩
theorem tyOK_3 : TyOK Try.prog 3 tyE3 := ⟨Try.underlying3, Try.t3, Try.type3, rfl, rfl, rfl, fun h => by cases h⟩
theorem tyOK_4 : TyOK Try.prog 4 tyE4 := ⟨Try.underlying4, Try.t4, Try.type4, rfl, rfl, rfl, fun h => by cases h⟩
theorem tyOK_5 : TyOK Try.prog 5 tyE5 := ⟨Try.underlying5, Try.t5, Try.type5, rfl, rfl, rfl, fun h => by cases h⟩
theorem tyOK_7 : TyOK Try.prog 7 tyE7 := ⟨Try.underlying7, Try.t7, Try.type7, rfl, rfl, rfl, fun h => by cases h⟩
theorem tyOK_9 : TyOK Try.prog 9 tyE9 := ⟨Try.underlying9, Try.t9, Try.type9, rfl, rfl, rfl, fun h => by cases h⟩
theorem tyOK_12 : TyOK Try.prog 12 tyE12 := ⟨Try.underlying12, Try.t12, Try.type12, rfl, rfl, rfl, fun h => by cases h⟩
theorem tyOK_13 : TyOK Try.prog 13 tyE13 := ⟨Try.underlying13, Try.t13, Try.type13, rfl, rfl, rfl, fun h => by cases h⟩
theorem tyOK_15 : TyOK Try.prog 15 tyE15 := ⟨Try.underlying15, Try.t15, Try.type15, rfl, rfl, rfl, fun h => by cases h⟩
theorem tyOK_16 : TyOK Try.prog 16 tyE16 := ⟨Try.underlying16, Try.t16, Try.type16, rfl, rfl, rfl, fun h => by cases h⟩
theorem tyOK_17 : TyOK Try.prog 17 tyE17 := ⟨Try.underlying17, Try.t17, Try.type17, rfl, rfl, rfl, fun h => by cases h⟩
theorem tyOK_18 : TyOK Try.prog 18 tyE18 := ⟨Try.underlying18, Try.t18, Try.type18, rfl, rfl, rfl, fun h => by cases h⟩
theorem tyOK_21 : TyOK Try.prog 21 tyE21 := ⟨Try.underlying21, Try.t21, Try.type21, rfl, rfl, rfl, fun h => by cases h⟩
theorem tyOK_22 : TyOK Try.prog 22 tyE22 := ⟨Try.underlying22, Try.t22, Try.type22, rfl, rfl, rfl, fun h => by cases h⟩
theorem tyOK_24 : TyOK Try.prog 24 tyE24 := ⟨Try.underlying24, Try.t24, Try.type24, rfl, rfl, rfl, fun h => by cases h⟩
theorem tyOK_25 : TyOK Try.prog 25 tyE25 := ⟨Try.underlying25, Try.t25, Try.type25, rfl, rfl, rfl, fun h => by cases h⟩
theorem tyOK_26 : TyOK Try.prog 26 tyE26 := ⟨Try.underlying26, Try.t26, Try.type26, rfl, rfl, rfl, fun _ => ⟨by kernel_rfl, by kernel_rfl, by rintro _ ⟨⟩; rfl⟩⟩
theorem tyOK_27 : TyOK Try.prog 27 tyE27 := ⟨Try.underlying27, Try.t27, Try.type27, rfl, rfl, rfl, fun h => by cases h⟩
theorem tyOK_28 : TyOK Try.prog 28 tyE28 := ⟨Try.underlying28, Try.t28, Try.type28, rfl, rfl, rfl, fun h => by cases h⟩
theorem tyOK_29 : TyOK Try.prog 29 tyE29 := ⟨Try.underlying29, Try.t29, Try.type29, rfl, rfl, rfl, fun _ => ⟨by kernel_rfl, by kernel_rfl, by rintro _ ⟨⟩; rfl⟩⟩
theorem tyOK_32 : TyOK Try.prog 32 tyE32 := ⟨Try.underlying32, Try.t32, Try.type32, rfl, rfl, rfl, fun h => by cases h⟩
theorem tyOK_48 : TyOK Try.prog 48 tyE48 := ⟨Try.underlying48, Try.t48, Try.type48, rfl, rfl, rfl, fun h => by cases h⟩
theorem tyOK_49 : TyOK Try.prog 49 tyE49 := ⟨Try.underlying49, Try.t49, Try.type49, rfl, rfl, rfl, fun _ => ⟨by kernel_rfl, by kernel_rfl, by rintro _ ⟨⟩; rfl⟩⟩
theorem tyOK_60 : TyOK Try.prog 60 tyE60 := ⟨Try.underlying60, Try.t60, Try.type60, rfl, rfl, rfl, fun h => by cases h⟩
theorem tyOK_61 : TyOK Try.prog 61 tyE61 := ⟨Try.underlying61, Try.t61, Try.type61, rfl, rfl, rfl, fun h => by cases h⟩
theorem tyOK_62 : TyOK Try.prog 62 tyE62 := ⟨Try.underlying62, Try.t62, Try.type62, rfl, rfl, rfl, fun h => by cases h⟩
theorem tyOK_63 : TyOK Try.prog 63 tyE63 := ⟨Try.underlying63, Try.t63, Try.type63, rfl, rfl, rfl, fun _ => ⟨by kernel_rfl, by kernel_rfl, by rintro _ ⟨⟩; rfl⟩⟩
theorem tyOK_64 : TyOK Try.prog 64 tyE64 := ⟨Try.underlying64, Try.t64, Try.type64, rfl, rfl, rfl, fun h => by cases h⟩
theorem tyOK_71 : TyOK Try.prog 71 tyE71 := ⟨Try.underlying71, Try.t71, Try.type71, rfl, rfl, rfl, fun h => by cases h⟩
theorem tyOK_72 : TyOK Try.prog 72 tyE72 := ⟨Try.underlying72, Try.t72, Try.type72, rfl, rfl, rfl, fun _ => ⟨by kernel_rfl, by kernel_rfl, by rintro _ ⟨⟩; rfl⟩⟩
theorem tyOK_77 : TyOK Try.prog 77 tyE77 := ⟨Try.underlying77, Try.t77, Try.type77, rfl, rfl, rfl, fun h => by cases h⟩
theorem tyOK_78 : TyOK Try.prog 78 tyE78 := ⟨Try.underlying78, Try.t78, Try.type78, rfl, rfl, rfl, fun _ => ⟨by kernel_rfl, by kernel_rfl, by rintro _ ⟨⟩; rfl⟩⟩
theorem tyOK_79 : TyOK Try.prog 79 tyE79 := ⟨Try.underlying79, Try.t79, Try.type79, rfl, rfl, rfl, fun h => by cases h⟩
theorem tyOK_99 : TyOK Try.prog 99 tyE99 := ⟨Try.underlying99, Try.t99, Try.type99, rfl, rfl, rfl, fun h => by cases h⟩
theorem tyOK_100 : TyOK Try.prog 100 tyE100 := ⟨Try.underlying100, Try.t100, Try.type100, rfl, rfl, rfl, fun h => by cases h⟩
theorem tyOK_101 : TyOK Try.prog 101 tyE101 := ⟨Try.underlying101, Try.t101, Try.type101, rfl, rfl, rfl, fun _ => ⟨by kernel_rfl, by kernel_rfl, by rintro _ ⟨⟩; rfl⟩⟩
theorem tyOK_102 : TyOK Try.prog 102 tyE102 := ⟨Try.underlying102, Try.t102, Try.type102, rfl, rfl, rfl, fun h => by cases h⟩
theorem tyOK_109 : TyOK Try.prog 109 tyE109 := ⟨Try.underlying109, Try.t109, Try.type109, rfl, rfl, rfl, fun h => by cases h⟩
theorem tyOK_112 : TyOK Try.prog 112 tyE112 := ⟨Try.underlying112, Try.t112, Try.type112, rfl, rfl, rfl, fun h => by cases h⟩
theorem tyOK_134 : TyOK Try.prog 134 tyE134 := ⟨Try.underlying134, Try.t134, Try.type134, rfl, rfl, rfl, fun h => by cases h⟩
theorem tyOK_135 : TyOK Try.prog 135 tyE135 := ⟨Try.underlying135, Try.t135, Try.type135, rfl, rfl, rfl, fun h => by cases h⟩
theorem tyOK_136 : TyOK Try.prog 136 tyE136 := ⟨Try.underlying136, Try.t136, Try.type136, rfl, rfl, rfl, fun _ => ⟨by kernel_rfl, by kernel_rfl, by rintro _ ⟨⟩; rfl⟩⟩
theorem tyOK_137 : TyOK Try.prog 137 tyE137 := ⟨Try.underlying137, Try.t137, Try.type137, rfl, rfl, rfl, fun _ => ⟨by kernel_rfl, by kernel_rfl, by rintro _ ⟨⟩; rfl⟩⟩
theorem tyOK_157 : TyOK Try.prog 157 tyE157 := ⟨Try.underlying157, Try.t157, Try.type157, rfl, rfl, rfl, fun h => by cases h⟩
theorem tyOK_158 : TyOK Try.prog 158 tyE158 := ⟨Try.underlying158, Try.t158, Try.type158, rfl, rfl, rfl, fun _ => ⟨by kernel_rfl, by kernel_rfl, by rintro _ ⟨⟩; rfl⟩⟩
theorem tyOK_189 : TyOK Try.prog 189 tyE189 := ⟨Try.underlying189, Try.t189, Try.type189, rfl, rfl, rfl, fun h => by cases h⟩
theorem tyOK_190 : TyOK Try.prog 190 tyE190 := ⟨Try.underlying190, Try.t190, Try.type190, rfl, rfl, rfl, fun _ => ⟨by kernel_rfl, by kernel_rfl, by rintro _ ⟨⟩; rfl⟩⟩
theorem tyOK_195 : TyOK Try.prog 195 tyE195 := ⟨Try.underlying195, Try.t195, Try.type195, rfl, rfl, rfl, fun h => by cases h⟩
theorem tyOK_196 : TyOK Try.prog 196 tyE196 := ⟨Try.underlying196, Try.t196, Try.type196, rfl, rfl, rfl, fun _ => ⟨by kernel_rfl, by kernel_rfl, by rintro _ ⟨⟩; rfl⟩⟩
theorem tyOK_197 : TyOK Try.prog 197 tyE197 := ⟨Try.underlying197, Try.t197, Try.type197, rfl, rfl, rfl, fun h => by cases h⟩
theorem tyOK_198 : TyOK Try.prog 198 tyE198 := ⟨Try.underlying198, Try.t198, Try.type198, rfl, rfl, rfl, fun _ => ⟨by kernel_rfl, by kernel_rfl, by rintro _ ⟨⟩; rfl⟩⟩
theorem tyOK_200 : TyOK Try.prog 200 tyE200 := ⟨Try.underlying200, Try.t200, Try.type200, rfl, rfl, rfl, fun h => by cases h⟩
theorem tyOK_205 : TyOK Try.prog 205 tyE205 := ⟨Try.underlying205, Try.t205, Try.type205, rfl, rfl, rfl, fun h => by cases h⟩
theorem tyOK_206 : TyOK Try.prog 206 tyE206 := ⟨Try.underlying206, Try.t206, Try.type206, rfl, rfl, rfl, fun _ => ⟨by kernel_rfl, by kernel_rfl, by rintro _ ⟨⟩; rfl⟩⟩
theorem tyOK_231 : TyOK Try.prog 231 tyE231 := ⟨Try.underlying231, Try.t231, Try.type231, rfl, rfl, rfl, fun h => by cases h⟩
theorem tyOK_243 : TyOK Try.prog 243 tyE243 := ⟨Try.underlying243, Try.t243, Try.type243, rfl, rfl, rfl, fun h => by cases h⟩
theorem tyOK_256 : TyOK Try.prog 256 tyE256 := ⟨Try.underlying256, Try.t256, Try.type256, rfl, rfl, rfl, fun h => by cases h⟩
theorem tyOK_262 : TyOK Try.prog 262 tyE262 := ⟨Try.underlying262, Try.t262, Try.type262, rfl, rfl, rfl, fun h => by cases h⟩
theorem tyOK_274 : TyOK Try.prog 274 tyE274 := ⟨Try.underlying274, Try.t274, Try.type274, rfl, rfl, rfl, fun h => by cases h⟩
theorem tyOK_278 : TyOK Try.prog 278 tyE278 := ⟨Try.underlying278, Try.t278, Try.type278, rfl, rfl, rfl, fun h => by cases h⟩
theorem tyOK_282 : TyOK Try.prog 282 tyE282 := ⟨Try.underlying282, Try.t282, Try.type282, rfl, rfl, rfl, fun h => by cases h⟩
theorem tyOK_286 : TyOK Try.prog 286 tyE286 := ⟨Try.underlying286, Try.t286, Try.type286, rfl, rfl, rfl, fun h => by cases h⟩
theorem tyOK_289 : TyOK Try.prog 289 tyE289 := ⟨Try.underlying289, Try.t289, Try.type289, rfl, rfl, rfl, fun h => by cases h⟩
theorem tyOK_294 : TyOK Try.prog 294 tyE294 := ⟨Try.underlying294, Try.t294, Try.type294, rfl, rfl, rfl, fun h => by cases h⟩
theorem tyOK_297 : TyOK Try.prog 297 tyE297 := ⟨Try.underlying297, Try.t297, Try.type297, rfl, rfl, rfl, fun h => by cases h⟩
theorem tyOK_299 : TyOK Try.prog 299 tyE299 := ⟨Try.underlying299, Try.t299, Try.type299, rfl, rfl, rfl, fun h => by cases h⟩
theorem ty_ok : ∀ t x, ty t = some x → TyOK Try.prog t x := lookT_ok (allT_cons tyOK_2 (allT_cons tyOK_3 (allT_cons tyOK_4 (allT_cons tyOK_5 (allT_cons tyOK_7 (allT_cons tyOK_9 (allT_cons tyOK_12 (allT_cons tyOK_13 (allT_cons tyOK_15 (allT_cons tyOK_16 (allT_cons tyOK_17 (allT_cons tyOK_18 (allT_cons tyOK_21 (allT_cons tyOK_22 (allT_cons tyOK_24 (allT_cons tyOK_25 (allT_cons tyOK_26 (allT_cons tyOK_27 (allT_cons tyOK_28 (allT_cons tyOK_29 (allT_cons tyOK_32 (allT_cons tyOK_48 (allT_cons tyOK_49 (allT_cons tyOK_60 (allT_cons tyOK_61 (allT_cons tyOK_62 (allT_cons tyOK_63 (allT_cons tyOK_64 (allT_cons tyOK_71 (allT_cons tyOK_72 (allT_cons tyOK_77 (allT_cons tyOK_78 (allT_cons tyOK_79 (allT_cons tyOK_99 (allT_cons tyOK_100 (allT_cons tyOK_101 (allT_cons tyOK_102 (allT_cons tyOK_109 (allT_cons tyOK_112 (allT_cons tyOK_134 (allT_cons tyOK_135 (allT_cons tyOK_136 (allT_cons tyOK_137 (allT_cons tyOK_157 (allT_cons tyOK_158 (allT_cons tyOK_189 (allT_cons tyOK_190 (allT_cons tyOK_195 (allT_cons tyOK_196 (allT_cons tyOK_197 (allT_cons tyOK_198 (allT_cons tyOK_200 (allT_cons tyOK_205 (allT_cons tyOK_206 (allT_cons tyOK_231 (allT_cons tyOK_243 (allT_cons tyOK_256 (allT_cons tyOK_262 (allT_cons tyOK_274 (allT_cons tyOK_278 (allT_cons tyOK_282 (allT_cons tyOK_286 (allT_cons tyOK_289 (allT_cons tyOK_294 (allT_cons tyOK_297 (allT_cons tyOK_299 allT_nil))))))))))))))))))))))))))))))))))))))))))))))))))))))))))))))))))
end Go.Proofs.Ytepdapiceklppaa
