/- The types of the seat as a table. Made by program (genty.py). -/
import Derived.Test.YtdkphcbllgnefaaProg
import Derived.Test.YtdkphcbllgnefaaAbSpec
import Derived.KernelRfl
namespace Go.Proofs.Ytdkphcbllgnefaa
open Go Go.Ab
set_option maxRecDepth 100000

abbrev tyE2 : TyE := ⟨.int .i64, 1, 8, .int .i64 0, false⟩
abbrev tyE3 : TyE := ⟨.int .i64, 1, 8, .int .i64 0, false⟩
abbrev tyE4 : TyE := ⟨.bool, 1, 1, .bool false, false⟩
abbrev tyE5 : TyE := ⟨.int .u8, 1, 1, .int .u8 0, false⟩
abbrev tyE7 : TyE := ⟨.struct #[{ name := "x", type := 2, offset := 0, embedded := false, tag := "", pkgPath := "runtime", byteOffset := 0 }, { name := "y", type := 3, offset := 1, embedded := false, tag := "", pkgPath := "runtime", byteOffset := 8 }, { name := "signed", type := 4, offset := 2, embedded := false, tag := "", pkgPath := "runtime", byteOffset := 16 }, { name := "code", type := 6, offset := 3, embedded := false, tag := "", pkgPath := "runtime", byteOffset := 17 }], 4, 24, .agg #[.int .i64 0, .int .i64 0, .bool false, .int .u8 0], false⟩
abbrev tyE9 : TyE := ⟨.string, 1, 16, .string ByteArray.empty, false⟩
abbrev tyE12 : TyE := ⟨.int .u64, 1, 8, .int .u64 0, false⟩
abbrev tyE13 : TyE := ⟨.struct #[{ name := "msg", type := 9, offset := 0, embedded := false, tag := "", pkgPath := "runtime", byteOffset := 0 }, { name := "addr", type := 12, offset := 1, embedded := false, tag := "", pkgPath := "runtime", byteOffset := 16 }], 2, 24, .agg #[.string ByteArray.empty, .int .u64 0], false⟩
abbrev tyE15 : TyE := ⟨.pointer 170, 1, 8, .pointer none, false⟩
abbrev tyE16 : TyE := ⟨.pointer 173, 1, 8, .pointer none, false⟩
abbrev tyE17 : TyE := ⟨.pointer 181, 1, 8, .pointer none, false⟩
abbrev tyE18 : TyE := ⟨.struct #[{ name := "typ", type := 17, offset := 0, embedded := false, tag := "", pkgPath := "internal/runtime/maps", byteOffset := 0 }], 1, 8, .agg #[.pointer none], false⟩
abbrev tyE21 : TyE := ⟨.int .i32, 1, 4, .int .i32 0, false⟩
abbrev tyE22 : TyE := ⟨.slice 5, 1, 24, .slice none 0 0, false⟩
abbrev tyE24 : TyE := ⟨.slice 9, 1, 24, .slice none 0 0, false⟩
abbrev tyE25 : TyE := ⟨.slice 90, 1, 24, .slice none 0 0, false⟩
abbrev tyE26 : TyE := ⟨.struct #[{ name := "Stops", type := 24, offset := 0, embedded := false, tag := "", pkgPath := "", byteOffset := 0 }, { name := "Lines", type := 25, offset := 1, embedded := false, tag := "", pkgPath := "", byteOffset := 24 }], 2, 48, .agg #[.slice none 0 0, .slice none 0 0], false⟩
abbrev tyE27 : TyE := ⟨.struct #[{ name := "Stops", type := 24, offset := 0, embedded := false, tag := "", pkgPath := "", byteOffset := 0 }, { name := "Lines", type := 25, offset := 1, embedded := false, tag := "", pkgPath := "", byteOffset := 24 }], 2, 48, .agg #[.slice none 0 0, .slice none 0 0], true⟩
abbrev tyE28 : TyE := ⟨.slice 84, 1, 24, .slice none 0 0, false⟩
abbrev tyE29 : TyE := ⟨.struct #[{ name := "Network", type := 27, offset := 0, embedded := false, tag := "", pkgPath := "", byteOffset := 0 }, { name := "Trips", type := 28, offset := 2, embedded := false, tag := "", pkgPath := "", byteOffset := 48 }], 3, 72, .agg #[.slice none 0 0, .slice none 0 0, .slice none 0 0], false⟩
abbrev tyE30 : TyE := ⟨.struct #[{ name := "Network", type := 27, offset := 0, embedded := false, tag := "", pkgPath := "", byteOffset := 0 }, { name := "Trips", type := 28, offset := 2, embedded := false, tag := "", pkgPath := "", byteOffset := 48 }], 3, 72, .agg #[.slice none 0 0, .slice none 0 0, .slice none 0 0], true⟩
abbrev tyE31 : TyE := ⟨.slice 57, 1, 24, .slice none 0 0, false⟩
abbrev tyE34 : TyE := ⟨.slice 41, 1, 24, .slice none 0 0, false⟩
abbrev tyE37 : TyE := ⟨.slice 3, 1, 24, .slice none 0 0, false⟩
abbrev tyE40 : TyE := ⟨.struct #[{ name := "Id", type := 3, offset := 0, embedded := false, tag := "", pkgPath := "", byteOffset := 0 }, { name := "Stop", type := 3, offset := 1, embedded := false, tag := "", pkgPath := "", byteOffset := 8 }, { name := "Place", type := 3, offset := 2, embedded := false, tag := "", pkgPath := "", byteOffset := 16 }, { name := "Time", type := 3, offset := 3, embedded := false, tag := "", pkgPath := "", byteOffset := 24 }], 4, 32, .agg #[.int .i64 0, .int .i64 0, .int .i64 0, .int .i64 0], false⟩
abbrev tyE41 : TyE := ⟨.struct #[{ name := "Id", type := 3, offset := 0, embedded := false, tag := "", pkgPath := "", byteOffset := 0 }, { name := "Stop", type := 3, offset := 1, embedded := false, tag := "", pkgPath := "", byteOffset := 8 }, { name := "Place", type := 3, offset := 2, embedded := false, tag := "", pkgPath := "", byteOffset := 16 }, { name := "Time", type := 3, offset := 3, embedded := false, tag := "", pkgPath := "", byteOffset := 24 }], 4, 32, .agg #[.int .i64 0, .int .i64 0, .int .i64 0, .int .i64 0], true⟩
abbrev tyE44 : TyE := ⟨.slice 37, 1, 24, .slice none 0 0, false⟩
abbrev tyE56 : TyE := ⟨.struct #[{ name := "A", type := 3, offset := 0, embedded := false, tag := "", pkgPath := "", byteOffset := 0 }, { name := "B", type := 3, offset := 1, embedded := false, tag := "", pkgPath := "", byteOffset := 8 }, { name := "Minutes", type := 3, offset := 2, embedded := false, tag := "", pkgPath := "", byteOffset := 16 }], 3, 24, .agg #[.int .i64 0, .int .i64 0, .int .i64 0], false⟩
abbrev tyE57 : TyE := ⟨.struct #[{ name := "A", type := 3, offset := 0, embedded := false, tag := "", pkgPath := "", byteOffset := 0 }, { name := "B", type := 3, offset := 1, embedded := false, tag := "", pkgPath := "", byteOffset := 8 }, { name := "Minutes", type := 3, offset := 2, embedded := false, tag := "", pkgPath := "", byteOffset := 16 }], 3, 24, .agg #[.int .i64 0, .int .i64 0, .int .i64 0], true⟩
abbrev tyE62 : TyE := ⟨.slice 68, 1, 24, .slice none 0 0, false⟩
abbrev tyE67 : TyE := ⟨.struct #[{ name := "Id", type := 3, offset := 0, embedded := false, tag := "", pkgPath := "", byteOffset := 0 }, { name := "Minutes", type := 3, offset := 1, embedded := false, tag := "", pkgPath := "", byteOffset := 8 }], 2, 16, .agg #[.int .i64 0, .int .i64 0], false⟩
abbrev tyE68 : TyE := ⟨.struct #[{ name := "Id", type := 3, offset := 0, embedded := false, tag := "", pkgPath := "", byteOffset := 0 }, { name := "Minutes", type := 3, offset := 1, embedded := false, tag := "", pkgPath := "", byteOffset := 8 }], 2, 16, .agg #[.int .i64 0, .int .i64 0], true⟩
abbrev tyE75 : TyE := ⟨.pointer 78, 1, 8, .pointer none, false⟩
abbrev tyE76 : TyE := ⟨.int .u64, 1, 8, .int .u64 0, false⟩
abbrev tyE77 : TyE := ⟨.struct #[{ name := "code", type := 22, offset := 0, embedded := false, tag := "", pkgPath := "loop.example/g00900/spec", byteOffset := 0 }, { name := "at", type := 3, offset := 1, embedded := false, tag := "", pkgPath := "loop.example/g00900/spec", byteOffset := 24 }, { name := "seed", type := 76, offset := 2, embedded := false, tag := "", pkgPath := "loop.example/g00900/spec", byteOffset := 32 }], 3, 40, .agg #[.slice none 0 0, .int .i64 0, .int .u64 0], true⟩
abbrev tyE78 : TyE := ⟨.struct #[{ name := "code", type := 22, offset := 0, embedded := false, tag := "", pkgPath := "loop.example/g00900/spec", byteOffset := 0 }, { name := "at", type := 3, offset := 1, embedded := false, tag := "", pkgPath := "loop.example/g00900/spec", byteOffset := 24 }, { name := "seed", type := 76, offset := 2, embedded := false, tag := "", pkgPath := "loop.example/g00900/spec", byteOffset := 32 }], 3, 40, .agg #[.slice none 0 0, .int .i64 0, .int .u64 0], true⟩
abbrev tyE83 : TyE := ⟨.struct #[{ name := "Id", type := 3, offset := 0, embedded := false, tag := "", pkgPath := "", byteOffset := 0 }, { name := "Line", type := 3, offset := 1, embedded := false, tag := "", pkgPath := "", byteOffset := 8 }, { name := "Start", type := 3, offset := 2, embedded := false, tag := "", pkgPath := "", byteOffset := 16 }], 3, 24, .agg #[.int .i64 0, .int .i64 0, .int .i64 0], false⟩
abbrev tyE84 : TyE := ⟨.struct #[{ name := "Id", type := 3, offset := 0, embedded := false, tag := "", pkgPath := "", byteOffset := 0 }, { name := "Line", type := 3, offset := 1, embedded := false, tag := "", pkgPath := "", byteOffset := 8 }, { name := "Start", type := 3, offset := 2, embedded := false, tag := "", pkgPath := "", byteOffset := 16 }], 3, 24, .agg #[.int .i64 0, .int .i64 0, .int .i64 0], true⟩
abbrev tyE89 : TyE := ⟨.struct #[{ name := "Name", type := 9, offset := 0, embedded := false, tag := "", pkgPath := "", byteOffset := 0 }, { name := "Stops", type := 37, offset := 1, embedded := false, tag := "", pkgPath := "", byteOffset := 16 }, { name := "Runs", type := 37, offset := 2, embedded := false, tag := "", pkgPath := "", byteOffset := 40 }], 3, 64, .agg #[.string ByteArray.empty, .slice none 0 0, .slice none 0 0], false⟩
abbrev tyE90 : TyE := ⟨.struct #[{ name := "Name", type := 9, offset := 0, embedded := false, tag := "", pkgPath := "", byteOffset := 0 }, { name := "Stops", type := 37, offset := 1, embedded := false, tag := "", pkgPath := "", byteOffset := 16 }, { name := "Runs", type := 37, offset := 2, embedded := false, tag := "", pkgPath := "", byteOffset := 40 }], 3, 64, .agg #[.string ByteArray.empty, .slice none 0 0, .slice none 0 0], true⟩
abbrev tyE112 : TyE := ⟨.slice 115, 1, 24, .slice none 0 0, false⟩
abbrev tyE114 : TyE := ⟨.struct #[{ name := "trip", type := 84, offset := 0, embedded := false, tag := "", pkgPath := "loop.example/g00900/impl", byteOffset := 0 }, { name := "time", type := 3, offset := 3, embedded := false, tag := "", pkgPath := "loop.example/g00900/impl", byteOffset := 24 }, { name := "delay", type := 3, offset := 4, embedded := false, tag := "", pkgPath := "loop.example/g00900/impl", byteOffset := 32 }], 5, 40, .agg #[.int .i64 0, .int .i64 0, .int .i64 0, .int .i64 0, .int .i64 0], true⟩
abbrev tyE115 : TyE := ⟨.struct #[{ name := "trip", type := 84, offset := 0, embedded := false, tag := "", pkgPath := "loop.example/g00900/impl", byteOffset := 0 }, { name := "time", type := 3, offset := 3, embedded := false, tag := "", pkgPath := "loop.example/g00900/impl", byteOffset := 24 }, { name := "delay", type := 3, offset := 4, embedded := false, tag := "", pkgPath := "loop.example/g00900/impl", byteOffset := 32 }], 5, 40, .agg #[.int .i64 0, .int .i64 0, .int .i64 0, .int .i64 0, .int .i64 0], true⟩
abbrev tyE117 : TyE := ⟨.slice 119, 1, 24, .slice none 0 0, false⟩
abbrev tyE119 : TyE := ⟨.array 2 3, 2, 16, .agg #[.int .i64 0, .int .i64 0], false⟩
abbrev tyE139 : TyE := ⟨.int .u64, 1, 8, .int .u64 0, false⟩
abbrev tyE149 : TyE := ⟨.int .i64, 1, 8, .int .i64 0, false⟩
abbrev tyE157 : TyE := ⟨.int .u32, 1, 4, .int .u32 0, false⟩
abbrev tyE159 : TyE := ⟨.int .u64, 1, 8, .int .u64 0, false⟩
abbrev tyE163 : TyE := ⟨.pointer 3, 1, 8, .pointer none, false⟩
abbrev tyE165 : TyE := ⟨.pointer 159, 1, 8, .pointer none, false⟩
abbrev tyE169 : TyE := ⟨.struct #[{ name := "_interface", type := 17, offset := 0, embedded := false, tag := "", pkgPath := "runtime", byteOffset := 0 }, { name := "concrete", type := 17, offset := 1, embedded := false, tag := "", pkgPath := "runtime", byteOffset := 8 }, { name := "asserted", type := 17, offset := 2, embedded := false, tag := "", pkgPath := "runtime", byteOffset := 16 }, { name := "missingMethod", type := 9, offset := 3, embedded := false, tag := "", pkgPath := "runtime", byteOffset := 24 }], 4, 40, .agg #[.pointer none, .pointer none, .pointer none, .string ByteArray.empty], false⟩
abbrev tyE172 : TyE := ⟨.struct #[{ name := "_", type := 171, offset := 0, embedded := false, tag := "", pkgPath := "runtime", byteOffset := 0 }], 0, 0, .agg #[], false⟩
abbrev tyE177 : TyE := ⟨.pointer 5, 1, 8, .pointer none, false⟩
abbrev tyE180 : TyE := ⟨.struct #[{ name := "Size_", type := 12, offset := 0, embedded := false, tag := "", pkgPath := "", byteOffset := 0 }, { name := "PtrBytes", type := 12, offset := 1, embedded := false, tag := "", pkgPath := "", byteOffset := 8 }, { name := "Hash", type := 157, offset := 2, embedded := false, tag := "", pkgPath := "", byteOffset := 16 }, { name := "TFlag", type := 174, offset := 3, embedded := false, tag := "", pkgPath := "", byteOffset := 20 }, { name := "Align_", type := 5, offset := 4, embedded := false, tag := "", pkgPath := "", byteOffset := 21 }, { name := "FieldAlign_", type := 5, offset := 5, embedded := false, tag := "", pkgPath := "", byteOffset := 22 }, { name := "Kind_", type := 175, offset := 6, embedded := false, tag := "", pkgPath := "", byteOffset := 23 }, { name := "Equal", type := 176, offset := 7, embedded := false, tag := "", pkgPath := "", byteOffset := 24 }, { name := "GCData", type := 177, offset := 8, embedded := false, tag := "", pkgPath := "", byteOffset := 32 }, { name := "Str", type := 178, offset := 9, embedded := false, tag := "", pkgPath := "", byteOffset := 40 }, { name := "PtrToThis", type := 179, offset := 10, embedded := false, tag := "", pkgPath := "", byteOffset := 44 }], 11, 48, .agg #[.int .u64 0, .int .u64 0, .int .u32 0, .int .u8 0, .int .u8 0, .int .u8 0, .int .u8 0, .nilFunc, .pointer none, .int .i32 0, .int .i32 0], false⟩
abbrev tyE182 : TyE := ⟨.unsafePointer, 1, 8, .pointer none, false⟩
def tyL : List (Nat × TyE) := [(2, tyE2), (3, tyE3), (4, tyE4), (5, tyE5), (7, tyE7), (9, tyE9), (12, tyE12), (13, tyE13), (15, tyE15), (16, tyE16), (17, tyE17), (18, tyE18), (21, tyE21), (22, tyE22), (24, tyE24), (25, tyE25), (26, tyE26), (27, tyE27), (28, tyE28), (29, tyE29), (30, tyE30), (31, tyE31), (34, tyE34), (37, tyE37), (40, tyE40), (41, tyE41), (44, tyE44), (56, tyE56), (57, tyE57), (62, tyE62), (67, tyE67), (68, tyE68), (75, tyE75), (76, tyE76), (77, tyE77), (78, tyE78), (83, tyE83), (84, tyE84), (89, tyE89), (90, tyE90), (112, tyE112), (114, tyE114), (115, tyE115), (117, tyE117), (119, tyE119), (139, tyE139), (149, tyE149), (157, tyE157), (159, tyE159), (163, tyE163), (165, tyE165), (169, tyE169), (172, tyE172), (177, tyE177), (180, tyE180), (182, tyE182)]
def ty (t : TypeId) : Option TyE := lookT t tyL
@[simp] theorem ty_2 : ty 2 = some tyE2 := rfl
@[simp] theorem ty_3 : ty 3 = some tyE3 := rfl
@[simp] theorem ty_4 : ty 4 = some tyE4 := rfl
@[simp] theorem ty_5 : ty 5 = some tyE5 := rfl
@[simp] theorem ty_7 : ty 7 = some tyE7 := rfl
@[simp] theorem ty_9 : ty 9 = some tyE9 := rfl
@[simp] theorem ty_12 : ty 12 = some tyE12 := rfl
@[simp] theorem ty_13 : ty 13 = some tyE13 := rfl
@[simp] theorem ty_15 : ty 15 = some tyE15 := rfl
@[simp] theorem ty_16 : ty 16 = some tyE16 := rfl
@[simp] theorem ty_17 : ty 17 = some tyE17 := rfl
@[simp] theorem ty_18 : ty 18 = some tyE18 := rfl
@[simp] theorem ty_21 : ty 21 = some tyE21 := rfl
@[simp] theorem ty_22 : ty 22 = some tyE22 := rfl
@[simp] theorem ty_24 : ty 24 = some tyE24 := rfl
@[simp] theorem ty_25 : ty 25 = some tyE25 := rfl
@[simp] theorem ty_26 : ty 26 = some tyE26 := rfl
@[simp] theorem ty_27 : ty 27 = some tyE27 := rfl
@[simp] theorem ty_28 : ty 28 = some tyE28 := rfl
@[simp] theorem ty_29 : ty 29 = some tyE29 := rfl
@[simp] theorem ty_30 : ty 30 = some tyE30 := rfl
@[simp] theorem ty_31 : ty 31 = some tyE31 := rfl
@[simp] theorem ty_34 : ty 34 = some tyE34 := rfl
@[simp] theorem ty_37 : ty 37 = some tyE37 := rfl
@[simp] theorem ty_40 : ty 40 = some tyE40 := rfl
@[simp] theorem ty_41 : ty 41 = some tyE41 := rfl
@[simp] theorem ty_44 : ty 44 = some tyE44 := rfl
@[simp] theorem ty_56 : ty 56 = some tyE56 := rfl
@[simp] theorem ty_57 : ty 57 = some tyE57 := rfl
@[simp] theorem ty_62 : ty 62 = some tyE62 := rfl
@[simp] theorem ty_67 : ty 67 = some tyE67 := rfl
@[simp] theorem ty_68 : ty 68 = some tyE68 := rfl
@[simp] theorem ty_75 : ty 75 = some tyE75 := rfl
@[simp] theorem ty_76 : ty 76 = some tyE76 := rfl
@[simp] theorem ty_77 : ty 77 = some tyE77 := rfl
@[simp] theorem ty_78 : ty 78 = some tyE78 := rfl
@[simp] theorem ty_83 : ty 83 = some tyE83 := rfl
@[simp] theorem ty_84 : ty 84 = some tyE84 := rfl
@[simp] theorem ty_89 : ty 89 = some tyE89 := rfl
@[simp] theorem ty_90 : ty 90 = some tyE90 := rfl
@[simp] theorem ty_112 : ty 112 = some tyE112 := rfl
@[simp] theorem ty_114 : ty 114 = some tyE114 := rfl
@[simp] theorem ty_115 : ty 115 = some tyE115 := rfl
@[simp] theorem ty_117 : ty 117 = some tyE117 := rfl
@[simp] theorem ty_119 : ty 119 = some tyE119 := rfl
@[simp] theorem ty_139 : ty 139 = some tyE139 := rfl
@[simp] theorem ty_149 : ty 149 = some tyE149 := rfl
@[simp] theorem ty_157 : ty 157 = some tyE157 := rfl
@[simp] theorem ty_159 : ty 159 = some tyE159 := rfl
@[simp] theorem ty_163 : ty 163 = some tyE163 := rfl
@[simp] theorem ty_165 : ty 165 = some tyE165 := rfl
@[simp] theorem ty_169 : ty 169 = some tyE169 := rfl
@[simp] theorem ty_172 : ty 172 = some tyE172 := rfl
@[simp] theorem ty_177 : ty 177 = some tyE177 := rfl
@[simp] theorem ty_180 : ty 180 = some tyE180 := rfl
@[simp] theorem ty_182 : ty 182 = some tyE182 := rfl
theorem tyOK_2 : TyOK Try.prog 2 tyE2 := ⟨Try.underlying2, Try.t2, Try.type2, rfl, rfl, rfl, fun h => by cases h⟩
theorem tyOK_3 : TyOK Try.prog 3 tyE3 := ⟨Try.underlying3, Try.t3, Try.type3, rfl, rfl, rfl, fun h => by cases h⟩
theorem tyOK_4 : TyOK Try.prog 4 tyE4 := ⟨Try.underlying4, Try.t4, Try.type4, rfl, rfl, rfl, fun h => by cases h⟩
theorem tyOK_5 : TyOK Try.prog 5 tyE5 := ⟨Try.underlying5, Try.t5, Try.type5, rfl, rfl, rfl, fun h => by cases h⟩
theorem tyOK_7 : TyOK Try.prog 7 tyE7 := ⟨Try.underlying7, Try.t7, Try.type7, rfl, rfl, rfl, fun h => by cases h⟩
theorem tyOK_9 : TyOK Try.prog 9 tyE9 := ⟨Try.underlying9, Try.t9, Try.type9, rfl, rfl, rfl, fun h => by cases h⟩
theorem tyOK_12 : TyOK Try.prog 12 tyE12 := ⟨Try.underlying12, Try.t12, Try.type12, rfl, rfl, rfl, fun h => by cases h⟩
theorem tyOK_13 : TyOK Try.prog 13 tyE13 := ⟨Try.underlying13, Try.t13, Try.type13, rfl, rfl, rfl, fun h => by cases h⟩
theorem tyOK_15 : TyOK Try.prog 15 tyE15 := ⟨Try.underlying15, Try.t15, Try.type15, rfl, rfl, rfl, fun h => by cases h⟩
theorem tyOK_16 : TyOK Try.prog 16 tyE16 := ⟨Try.underlying16, Try.t16, Try.type16, rfl, rfl, rfl, fun h => by cases h⟩
theorem tyOK_17 : TyOK Try.prog 17 tyE17 := ⟨Try.underlying17, Try.t17, Try.type17, rfl, rfl, rfl, fun h => by cases h⟩
theorem tyOK_18 : TyOK Try.prog 18 tyE18 := ⟨Try.underlying18, Try.t18, Try.type18, rfl, rfl, rfl, fun h => by cases h⟩
theorem tyOK_21 : TyOK Try.prog 21 tyE21 := ⟨Try.underlying21, Try.t21, Try.type21, rfl, rfl, rfl, fun h => by cases h⟩
theorem tyOK_22 : TyOK Try.prog 22 tyE22 := ⟨Try.underlying22, Try.t22, Try.type22, rfl, rfl, rfl, fun h => by cases h⟩
theorem tyOK_24 : TyOK Try.prog 24 tyE24 := ⟨Try.underlying24, Try.t24, Try.type24, rfl, rfl, rfl, fun h => by cases h⟩
theorem tyOK_25 : TyOK Try.prog 25 tyE25 := ⟨Try.underlying25, Try.t25, Try.type25, rfl, rfl, rfl, fun h => by cases h⟩
theorem tyOK_26 : TyOK Try.prog 26 tyE26 := ⟨Try.underlying26, Try.t26, Try.type26, rfl, rfl, rfl, fun h => by cases h⟩
theorem tyOK_27 : TyOK Try.prog 27 tyE27 := ⟨Try.underlying27, Try.t27, Try.type27, rfl, rfl, rfl, fun _ => ⟨by kernel_rfl, by kernel_rfl, by rintro _ ⟨⟩; rfl⟩⟩
theorem tyOK_28 : TyOK Try.prog 28 tyE28 := ⟨Try.underlying28, Try.t28, Try.type28, rfl, rfl, rfl, fun h => by cases h⟩
theorem tyOK_29 : TyOK Try.prog 29 tyE29 := ⟨Try.underlying29, Try.t29, Try.type29, rfl, rfl, rfl, fun h => by cases h⟩
theorem tyOK_30 : TyOK Try.prog 30 tyE30 := ⟨Try.underlying30, Try.t30, Try.type30, rfl, rfl, rfl, fun _ => ⟨by kernel_rfl, by kernel_rfl, by rintro _ ⟨⟩; rfl⟩⟩
theorem tyOK_31 : TyOK Try.prog 31 tyE31 := ⟨Try.underlying31, Try.t31, Try.type31, rfl, rfl, rfl, fun h => by cases h⟩
theorem tyOK_34 : TyOK Try.prog 34 tyE34 := ⟨Try.underlying34, Try.t34, Try.type34, rfl, rfl, rfl, fun h => by cases h⟩
theorem tyOK_37 : TyOK Try.prog 37 tyE37 := ⟨Try.underlying37, Try.t37, Try.type37, rfl, rfl, rfl, fun h => by cases h⟩
theorem tyOK_40 : TyOK Try.prog 40 tyE40 := ⟨Try.underlying40, Try.t40, Try.type40, rfl, rfl, rfl, fun h => by cases h⟩
theorem tyOK_41 : TyOK Try.prog 41 tyE41 := ⟨Try.underlying41, Try.t41, Try.type41, rfl, rfl, rfl, fun _ => ⟨by kernel_rfl, by kernel_rfl, by rintro _ ⟨⟩; rfl⟩⟩
theorem tyOK_44 : TyOK Try.prog 44 tyE44 := ⟨Try.underlying44, Try.t44, Try.type44, rfl, rfl, rfl, fun h => by cases h⟩
theorem tyOK_56 : TyOK Try.prog 56 tyE56 := ⟨Try.underlying56, Try.t56, Try.type56, rfl, rfl, rfl, fun h => by cases h⟩
theorem tyOK_57 : TyOK Try.prog 57 tyE57 := ⟨Try.underlying57, Try.t57, Try.type57, rfl, rfl, rfl, fun _ => ⟨by kernel_rfl, by kernel_rfl, by rintro _ ⟨⟩; rfl⟩⟩
theorem tyOK_62 : TyOK Try.prog 62 tyE62 := ⟨Try.underlying62, Try.t62, Try.type62, rfl, rfl, rfl, fun h => by cases h⟩
theorem tyOK_67 : TyOK Try.prog 67 tyE67 := ⟨Try.underlying67, Try.t67, Try.type67, rfl, rfl, rfl, fun h => by cases h⟩
theorem tyOK_68 : TyOK Try.prog 68 tyE68 := ⟨Try.underlying68, Try.t68, Try.type68, rfl, rfl, rfl, fun _ => ⟨by kernel_rfl, by kernel_rfl, by rintro _ ⟨⟩; rfl⟩⟩
theorem tyOK_75 : TyOK Try.prog 75 tyE75 := ⟨Try.underlying75, Try.t75, Try.type75, rfl, rfl, rfl, fun h => by cases h⟩
theorem tyOK_76 : TyOK Try.prog 76 tyE76 := ⟨Try.underlying76, Try.t76, Try.type76, rfl, rfl, rfl, fun h => by cases h⟩
theorem tyOK_77 : TyOK Try.prog 77 tyE77 := ⟨Try.underlying77, Try.t77, Try.type77, rfl, rfl, rfl, fun _ => ⟨by kernel_rfl, by kernel_rfl, by rintro _ ⟨⟩; rfl⟩⟩
theorem tyOK_78 : TyOK Try.prog 78 tyE78 := ⟨Try.underlying78, Try.t78, Try.type78, rfl, rfl, rfl, fun _ => ⟨by kernel_rfl, by kernel_rfl, by rintro _ ⟨⟩; rfl⟩⟩
theorem tyOK_83 : TyOK Try.prog 83 tyE83 := ⟨Try.underlying83, Try.t83, Try.type83, rfl, rfl, rfl, fun h => by cases h⟩
theorem tyOK_84 : TyOK Try.prog 84 tyE84 := ⟨Try.underlying84, Try.t84, Try.type84, rfl, rfl, rfl, fun _ => ⟨by kernel_rfl, by kernel_rfl, by rintro _ ⟨⟩; rfl⟩⟩
theorem tyOK_89 : TyOK Try.prog 89 tyE89 := ⟨Try.underlying89, Try.t89, Try.type89, rfl, rfl, rfl, fun h => by cases h⟩
theorem tyOK_90 : TyOK Try.prog 90 tyE90 := ⟨Try.underlying90, Try.t90, Try.type90, rfl, rfl, rfl, fun _ => ⟨by kernel_rfl, by kernel_rfl, by rintro _ ⟨⟩; rfl⟩⟩
theorem tyOK_112 : TyOK Try.prog 112 tyE112 := ⟨Try.underlying112, Try.t112, Try.type112, rfl, rfl, rfl, fun h => by cases h⟩
theorem tyOK_114 : TyOK Try.prog 114 tyE114 := ⟨Try.underlying114, Try.t114, Try.type114, rfl, rfl, rfl, fun _ => ⟨by kernel_rfl, by kernel_rfl, by rintro _ ⟨⟩; rfl⟩⟩
theorem tyOK_115 : TyOK Try.prog 115 tyE115 := ⟨Try.underlying115, Try.t115, Try.type115, rfl, rfl, rfl, fun _ => ⟨by kernel_rfl, by kernel_rfl, by rintro _ ⟨⟩; rfl⟩⟩
theorem tyOK_117 : TyOK Try.prog 117 tyE117 := ⟨Try.underlying117, Try.t117, Try.type117, rfl, rfl, rfl, fun h => by cases h⟩
theorem tyOK_119 : TyOK Try.prog 119 tyE119 := ⟨Try.underlying119, Try.t119, Try.type119, rfl, rfl, rfl, fun h => by cases h⟩
theorem tyOK_139 : TyOK Try.prog 139 tyE139 := ⟨Try.underlying139, Try.t139, Try.type139, rfl, rfl, rfl, fun h => by cases h⟩
theorem tyOK_149 : TyOK Try.prog 149 tyE149 := ⟨Try.underlying149, Try.t149, Try.type149, rfl, rfl, rfl, fun h => by cases h⟩
theorem tyOK_157 : TyOK Try.prog 157 tyE157 := ⟨Try.underlying157, Try.t157, Try.type157, rfl, rfl, rfl, fun h => by cases h⟩
theorem tyOK_159 : TyOK Try.prog 159 tyE159 := ⟨Try.underlying159, Try.t159, Try.type159, rfl, rfl, rfl, fun h => by cases h⟩
theorem tyOK_163 : TyOK Try.prog 163 tyE163 := ⟨Try.underlying163, Try.t163, Try.type163, rfl, rfl, rfl, fun h => by cases h⟩
theorem tyOK_165 : TyOK Try.prog 165 tyE165 := ⟨Try.underlying165, Try.t165, Try.type165, rfl, rfl, rfl, fun h => by cases h⟩
theorem tyOK_169 : TyOK Try.prog 169 tyE169 := ⟨Try.underlying169, Try.t169, Try.type169, rfl, rfl, rfl, fun h => by cases h⟩
theorem tyOK_172 : TyOK Try.prog 172 tyE172 := ⟨Try.underlying172, Try.t172, Try.type172, rfl, rfl, rfl, fun h => by cases h⟩
theorem tyOK_177 : TyOK Try.prog 177 tyE177 := ⟨Try.underlying177, Try.t177, Try.type177, rfl, rfl, rfl, fun h => by cases h⟩
theorem tyOK_180 : TyOK Try.prog 180 tyE180 := ⟨Try.underlying180, Try.t180, Try.type180, rfl, rfl, rfl, fun h => by cases h⟩
theorem tyOK_182 : TyOK Try.prog 182 tyE182 := ⟨Try.underlying182, Try.t182, Try.type182, rfl, rfl, rfl, fun h => by cases h⟩
theorem ty_ok : ∀ t x, ty t = some x → TyOK Try.prog t x := lookT_ok (allT_cons tyOK_2 (allT_cons tyOK_3 (allT_cons tyOK_4 (allT_cons tyOK_5 (allT_cons tyOK_7 (allT_cons tyOK_9 (allT_cons tyOK_12 (allT_cons tyOK_13 (allT_cons tyOK_15 (allT_cons tyOK_16 (allT_cons tyOK_17 (allT_cons tyOK_18 (allT_cons tyOK_21 (allT_cons tyOK_22 (allT_cons tyOK_24 (allT_cons tyOK_25 (allT_cons tyOK_26 (allT_cons tyOK_27 (allT_cons tyOK_28 (allT_cons tyOK_29 (allT_cons tyOK_30 (allT_cons tyOK_31 (allT_cons tyOK_34 (allT_cons tyOK_37 (allT_cons tyOK_40 (allT_cons tyOK_41 (allT_cons tyOK_44 (allT_cons tyOK_56 (allT_cons tyOK_57 (allT_cons tyOK_62 (allT_cons tyOK_67 (allT_cons tyOK_68 (allT_cons tyOK_75 (allT_cons tyOK_76 (allT_cons tyOK_77 (allT_cons tyOK_78 (allT_cons tyOK_83 (allT_cons tyOK_84 (allT_cons tyOK_89 (allT_cons tyOK_90 (allT_cons tyOK_112 (allT_cons tyOK_114 (allT_cons tyOK_115 (allT_cons tyOK_117 (allT_cons tyOK_119 (allT_cons tyOK_139 (allT_cons tyOK_149 (allT_cons tyOK_157 (allT_cons tyOK_159 (allT_cons tyOK_163 (allT_cons tyOK_165 (allT_cons tyOK_169 (allT_cons tyOK_172 (allT_cons tyOK_177 (allT_cons tyOK_180 (allT_cons tyOK_182 allT_nil))))))))))))))))))))))))))))))))))))))))))))))))))))))))
end Go.Proofs.Ytdkphcbllgnefaa
