/- The types of the seat as a table. Made by program (genty.py). -/
import Derived.Test.YtmpgpfekekobfaaProg
import Derived.Test.YtmpgpfekekobfaaAbSpec
import Derived.KernelRfl
namespace Go.Proofs.Ytmpgpfekekobfaa
open Go Go.Ab
set_option maxRecDepth 100000

abbrev tyE2 : TyE := ⟨.int .i64, 1, 8, .int .i64 0, false⟩
abbrev tyE3 : TyE := ⟨.int .i64, 1, 8, .int .i64 0, false⟩
abbrev tyE4 : TyE := ⟨.bool, 1, 1, .bool false, false⟩
abbrev tyE5 : TyE := ⟨.int .u8, 1, 1, .int .u8 0, false⟩
abbrev tyE7 : TyE := ⟨.struct #[{ name := "x", type := 2, offset := 0, embedded := false, tag := "", pkgPath := "runtime", byteOffset := 0 }, { name := "y", type := 3, offset := 1, embedded := false, tag := "", pkgPath := "runtime", byteOffset := 8 }, { name := "signed", type := 4, offset := 2, embedded := false, tag := "", pkgPath := "runtime", byteOffset := 16 }, { name := "code", type := 6, offset := 3, embedded := false, tag := "", pkgPath := "runtime", byteOffset := 17 }], 4, 24, .agg #[.int .i64 0, .int .i64 0, .bool false, .int .u8 0], false⟩
abbrev tyE9 : TyE := ⟨.string, 1, 16, .string ByteArray.empty, false⟩
abbrev tyE12 : TyE := ⟨.int .u64, 1, 8, .int .u64 0, false⟩
abbrev tyE13 : TyE := ⟨.struct #[{ name := "msg", type := 9, offset := 0, embedded := false, tag := "", pkgPath := "runtime", byteOffset := 0 }, { name := "addr", type := 12, offset := 1, embedded := false, tag := "", pkgPath := "runtime", byteOffset := 16 }], 2, 24, .agg #[.string ByteArray.empty, .int .u64 0], false⟩
abbrev tyE15 : TyE := ⟨.pointer 139, 1, 8, .pointer none, false⟩
abbrev tyE16 : TyE := ⟨.pointer 142, 1, 8, .pointer none, false⟩
abbrev tyE17 : TyE := ⟨.pointer 151, 1, 8, .pointer none, false⟩
abbrev tyE18 : TyE := ⟨.struct #[{ name := "typ", type := 17, offset := 0, embedded := false, tag := "", pkgPath := "internal/runtime/maps", byteOffset := 0 }], 1, 8, .agg #[.pointer none], false⟩
abbrev tyE21 : TyE := ⟨.int .i32, 1, 4, .int .i32 0, false⟩
abbrev tyE22 : TyE := ⟨.slice 5, 1, 24, .slice none 0 0, false⟩
abbrev tyE24 : TyE := ⟨.slice 121, 1, 24, .slice none 0 0, false⟩
abbrev tyE25 : TyE := ⟨.struct #[{ name := "MinRest", type := 3, offset := 0, embedded := false, tag := "", pkgPath := "", byteOffset := 0 }, { name := "MaxRow", type := 3, offset := 1, embedded := false, tag := "", pkgPath := "", byteOffset := 8 }, { name := "MaxWeek", type := 3, offset := 2, embedded := false, tag := "", pkgPath := "", byteOffset := 16 }], 3, 24, .agg #[.int .i64 0, .int .i64 0, .int .i64 0], false⟩
abbrev tyE26 : TyE := ⟨.struct #[{ name := "MinRest", type := 3, offset := 0, embedded := false, tag := "", pkgPath := "", byteOffset := 0 }, { name := "MaxRow", type := 3, offset := 1, embedded := false, tag := "", pkgPath := "", byteOffset := 8 }, { name := "MaxWeek", type := 3, offset := 2, embedded := false, tag := "", pkgPath := "", byteOffset := 16 }], 3, 24, .agg #[.int .i64 0, .int .i64 0, .int .i64 0], true⟩
abbrev tyE27 : TyE := ⟨.slice 33, 1, 24, .slice none 0 0, false⟩
abbrev tyE28 : TyE := ⟨.struct #[{ name := "Shifts", type := 24, offset := 0, embedded := false, tag := "", pkgPath := "", byteOffset := 0 }, { name := "Rules", type := 26, offset := 1, embedded := false, tag := "", pkgPath := "", byteOffset := 24 }, { name := "Plan", type := 27, offset := 4, embedded := false, tag := "", pkgPath := "", byteOffset := 48 }], 5, 72, .agg #[.slice none 0 0, .int .i64 0, .int .i64 0, .int .i64 0, .slice none 0 0], false⟩
abbrev tyE29 : TyE := ⟨.struct #[{ name := "Shifts", type := 24, offset := 0, embedded := false, tag := "", pkgPath := "", byteOffset := 0 }, { name := "Rules", type := 26, offset := 1, embedded := false, tag := "", pkgPath := "", byteOffset := 24 }, { name := "Plan", type := 27, offset := 4, embedded := false, tag := "", pkgPath := "", byteOffset := 48 }], 5, 72, .agg #[.slice none 0 0, .int .i64 0, .int .i64 0, .int .i64 0, .slice none 0 0], true⟩
abbrev tyE33 : TyE := ⟨.slice 3, 1, 24, .slice none 0 0, false⟩
abbrev tyE46 : TyE := ⟨.struct #[{ name := "Zones", type := 33, offset := 0, embedded := false, tag := "", pkgPath := "", byteOffset := 0 }, { name := "Day", type := 3, offset := 1, embedded := false, tag := "", pkgPath := "", byteOffset := 24 }, { name := "Week", type := 3, offset := 2, embedded := false, tag := "", pkgPath := "", byteOffset := 32 }], 3, 40, .agg #[.slice none 0 0, .int .i64 0, .int .i64 0], false⟩
abbrev tyE47 : TyE := ⟨.struct #[{ name := "Zones", type := 33, offset := 0, embedded := false, tag := "", pkgPath := "", byteOffset := 0 }, { name := "Day", type := 3, offset := 1, embedded := false, tag := "", pkgPath := "", byteOffset := 24 }, { name := "Week", type := 3, offset := 2, embedded := false, tag := "", pkgPath := "", byteOffset := 32 }], 3, 40, .agg #[.slice none 0 0, .int .i64 0, .int .i64 0], true⟩
abbrev tyE48 : TyE := ⟨.slice 56, 1, 24, .slice none 0 0, false⟩
abbrev tyE55 : TyE := ⟨.struct #[{ name := "Day", type := 3, offset := 0, embedded := false, tag := "", pkgPath := "", byteOffset := 0 }, { name := "Time", type := 3, offset := 1, embedded := false, tag := "", pkgPath := "", byteOffset := 8 }, { name := "Fare", type := 3, offset := 2, embedded := false, tag := "", pkgPath := "", byteOffset := 16 }], 3, 24, .agg #[.int .i64 0, .int .i64 0, .int .i64 0], false⟩
abbrev tyE56 : TyE := ⟨.struct #[{ name := "Day", type := 3, offset := 0, embedded := false, tag := "", pkgPath := "", byteOffset := 0 }, { name := "Time", type := 3, offset := 1, embedded := false, tag := "", pkgPath := "", byteOffset := 8 }, { name := "Fare", type := 3, offset := 2, embedded := false, tag := "", pkgPath := "", byteOffset := 16 }], 3, 24, .agg #[.int .i64 0, .int .i64 0, .int .i64 0], true⟩
abbrev tyE63 : TyE := ⟨.slice 9, 1, 24, .slice none 0 0, false⟩
abbrev tyE64 : TyE := ⟨.slice 74, 1, 24, .slice none 0 0, false⟩
abbrev tyE65 : TyE := ⟨.struct #[{ name := "Stops", type := 63, offset := 0, embedded := false, tag := "", pkgPath := "", byteOffset := 0 }, { name := "Lines", type := 64, offset := 1, embedded := false, tag := "", pkgPath := "", byteOffset := 24 }], 2, 48, .agg #[.slice none 0 0, .slice none 0 0], false⟩
abbrev tyE66 : TyE := ⟨.struct #[{ name := "Stops", type := 63, offset := 0, embedded := false, tag := "", pkgPath := "", byteOffset := 0 }, { name := "Lines", type := 64, offset := 1, embedded := false, tag := "", pkgPath := "", byteOffset := 24 }], 2, 48, .agg #[.slice none 0 0, .slice none 0 0], true⟩
abbrev tyE73 : TyE := ⟨.struct #[{ name := "Name", type := 9, offset := 0, embedded := false, tag := "", pkgPath := "", byteOffset := 0 }, { name := "Stops", type := 33, offset := 1, embedded := false, tag := "", pkgPath := "", byteOffset := 16 }, { name := "Runs", type := 33, offset := 2, embedded := false, tag := "", pkgPath := "", byteOffset := 40 }], 3, 64, .agg #[.string ByteArray.empty, .slice none 0 0, .slice none 0 0], false⟩
abbrev tyE74 : TyE := ⟨.struct #[{ name := "Name", type := 9, offset := 0, embedded := false, tag := "", pkgPath := "", byteOffset := 0 }, { name := "Stops", type := 33, offset := 1, embedded := false, tag := "", pkgPath := "", byteOffset := 16 }, { name := "Runs", type := 33, offset := 2, embedded := false, tag := "", pkgPath := "", byteOffset := 40 }], 3, 64, .agg #[.string ByteArray.empty, .slice none 0 0, .slice none 0 0], true⟩
abbrev tyE88 : TyE := ⟨.pointer 91, 1, 8, .pointer none, false⟩
abbrev tyE89 : TyE := ⟨.int .u64, 1, 8, .int .u64 0, false⟩
abbrev tyE90 : TyE := ⟨.struct #[{ name := "code", type := 22, offset := 0, embedded := false, tag := "", pkgPath := "loop.example/g00900/spec", byteOffset := 0 }, { name := "at", type := 3, offset := 1, embedded := false, tag := "", pkgPath := "loop.example/g00900/spec", byteOffset := 24 }, { name := "seed", type := 89, offset := 2, embedded := false, tag := "", pkgPath := "loop.example/g00900/spec", byteOffset := 32 }], 3, 40, .agg #[.slice none 0 0, .int .i64 0, .int .u64 0], true⟩
abbrev tyE91 : TyE := ⟨.struct #[{ name := "code", type := 22, offset := 0, embedded := false, tag := "", pkgPath := "loop.example/g00900/spec", byteOffset := 0 }, { name := "at", type := 3, offset := 1, embedded := false, tag := "", pkgPath := "loop.example/g00900/spec", byteOffset := 24 }, { name := "seed", type := 89, offset := 2, embedded := false, tag := "", pkgPath := "loop.example/g00900/spec", byteOffset := 32 }], 3, 40, .agg #[.slice none 0 0, .int .i64 0, .int .u64 0], true⟩
abbrev tyE120 : TyE := ⟨.struct #[{ name := "From", type := 3, offset := 0, embedded := false, tag := "", pkgPath := "", byteOffset := 0 }, { name := "To", type := 3, offset := 1, embedded := false, tag := "", pkgPath := "", byteOffset := 8 }], 2, 16, .agg #[.int .i64 0, .int .i64 0], false⟩
abbrev tyE121 : TyE := ⟨.struct #[{ name := "From", type := 3, offset := 0, embedded := false, tag := "", pkgPath := "", byteOffset := 0 }, { name := "To", type := 3, offset := 1, embedded := false, tag := "", pkgPath := "", byteOffset := 8 }], 2, 16, .agg #[.int .i64 0, .int .i64 0], true⟩
abbrev tyE134 : TyE := ⟨.int .u64, 1, 8, .int .u64 0, false⟩
abbrev tyE138 : TyE := ⟨.struct #[{ name := "_interface", type := 17, offset := 0, embedded := false, tag := "", pkgPath := "runtime", byteOffset := 0 }, { name := "concrete", type := 17, offset := 1, embedded := false, tag := "", pkgPath := "runtime", byteOffset := 8 }, { name := "asserted", type := 17, offset := 2, embedded := false, tag := "", pkgPath := "runtime", byteOffset := 16 }, { name := "missingMethod", type := 9, offset := 3, embedded := false, tag := "", pkgPath := "runtime", byteOffset := 24 }], 4, 40, .agg #[.pointer none, .pointer none, .pointer none, .string ByteArray.empty], false⟩
abbrev tyE141 : TyE := ⟨.struct #[{ name := "_", type := 140, offset := 0, embedded := false, tag := "", pkgPath := "runtime", byteOffset := 0 }], 0, 0, .agg #[], false⟩
abbrev tyE143 : TyE := ⟨.int .u32, 1, 4, .int .u32 0, false⟩
abbrev tyE147 : TyE := ⟨.pointer 5, 1, 8, .pointer none, false⟩
abbrev tyE150 : TyE := ⟨.struct #[{ name := "Size_", type := 12, offset := 0, embedded := false, tag := "", pkgPath := "", byteOffset := 0 }, { name := "PtrBytes", type := 12, offset := 1, embedded := false, tag := "", pkgPath := "", byteOffset := 8 }, { name := "Hash", type := 143, offset := 2, embedded := false, tag := "", pkgPath := "", byteOffset := 16 }, { name := "TFlag", type := 144, offset := 3, embedded := false, tag := "", pkgPath := "", byteOffset := 20 }, { name := "Align_", type := 5, offset := 4, embedded := false, tag := "", pkgPath := "", byteOffset := 21 }, { name := "FieldAlign_", type := 5, offset := 5, embedded := false, tag := "", pkgPath := "", byteOffset := 22 }, { name := "Kind_", type := 145, offset := 6, embedded := false, tag := "", pkgPath := "", byteOffset := 23 }, { name := "Equal", type := 146, offset := 7, embedded := false, tag := "", pkgPath := "", byteOffset := 24 }, { name := "GCData", type := 147, offset := 8, embedded := false, tag := "", pkgPath := "", byteOffset := 32 }, { name := "Str", type := 148, offset := 9, embedded := false, tag := "", pkgPath := "", byteOffset := 40 }, { name := "PtrToThis", type := 149, offset := 10, embedded := false, tag := "", pkgPath := "", byteOffset := 44 }], 11, 48, .agg #[.int .u64 0, .int .u64 0, .int .u32 0, .int .u8 0, .int .u8 0, .int .u8 0, .int .u8 0, .nilFunc, .pointer none, .int .i32 0, .int .i32 0], false⟩
abbrev tyE152 : TyE := ⟨.unsafePointer, 1, 8, .pointer none, false⟩
def tyL : List (Nat × TyE) := [(2, tyE2), (3, tyE3), (4, tyE4), (5, tyE5), (7, tyE7), (9, tyE9), (12, tyE12), (13, tyE13), (15, tyE15), (16, tyE16), (17, tyE17), (18, tyE18), (21, tyE21), (22, tyE22), (24, tyE24), (25, tyE25), (26, tyE26), (27, tyE27), (28, tyE28), (29, tyE29), (33, tyE33), (46, tyE46), (47, tyE47), (48, tyE48), (55, tyE55), (56, tyE56), (63, tyE63), (64, tyE64), (65, tyE65), (66, tyE66), (73, tyE73), (74, tyE74), (88, tyE88), (89, tyE89), (90, tyE90), (91, tyE91), (120, tyE120), (121, tyE121), (134, tyE134), (138, tyE138), (141, tyE141), (143, tyE143), (147, tyE147), (150, tyE150), (152, tyE152)]
def ty (t : TypeId) : Option TyE := lookT t tyL
@[simp] theorem ty_2 : ty 2 = some tyE2 := rfl
@[simp] theorem ty_3 : ty 3 = some tyE3 := rfl
@[simp] theorem ty_4 : ty 4 = some tyE4 := rfl
@[simp] theorem ty_5 : ty 5 = some tyE5 := rfl
@[simp] theorem ty_7 : ty 7 = some tyE7 := rfl
@[simp] theorem ty_9 : ty 9 = some tyE9 := rfl
@[simp] theorem ty_12 : ty 12 = some tyE12 := rfl
@[simp] theorem ty_13 : ty 13 = some tyE13 := rfl
@[simp] theorem ty_15 : ty 15 = some tyE15 := rfl
@[simp] theorem ty_16 : ty 16 = some tyE16 := rfl
@[simp] theorem ty_17 : ty 17 = some tyE17 := rfl
@[simp] theorem ty_18 : ty 18 = some tyE18 := rfl
@[simp] theorem ty_21 : ty 21 = some tyE21 := rfl
@[simp] theorem ty_22 : ty 22 = some tyE22 := rfl
@[simp] theorem ty_24 : ty 24 = some tyE24 := rfl
@[simp] theorem ty_25 : ty 25 = some tyE25 := rfl
@[simp] theorem ty_26 : ty 26 = some tyE26 := rfl
@[simp] theorem ty_27 : ty 27 = some tyE27 := rfl
@[simp] theorem ty_28 : ty 28 = some tyE28 := rfl
@[simp] theorem ty_29 : ty 29 = some tyE29 := rfl
@[simp] theorem ty_33 : ty 33 = some tyE33 := rfl
@[simp] theorem ty_46 : ty 46 = some tyE46 := rfl
@[simp] theorem ty_47 : ty 47 = some tyE47 := rfl
@[simp] theorem ty_48 : ty 48 = some tyE48 := rfl
@[simp] theorem ty_55 : ty 55 = some tyE55 := rfl
@[simp] theorem ty_56 : ty 56 = some tyE56 := rfl
@[simp] theorem ty_63 : ty 63 = some tyE63 := rfl
@[simp] theorem ty_64 : ty 64 = some tyE64 := rfl
@[simp] theorem ty_65 : ty 65 = some tyE65 := rfl
@[simp] theorem ty_66 : ty 66 = some tyE66 := rfl
@[simp] theorem ty_73 : ty 73 = some tyE73 := rfl
@[simp] theorem ty_74 : ty 74 = some tyE74 := rfl
@[simp] theorem ty_88 : ty 88 = some tyE88 := rfl
@[simp] theorem ty_89 : ty 89 = some tyE89 := rfl
@[simp] theorem ty_90 : ty 90 = some tyE90 := rfl
@[simp] theorem ty_91 : ty 91 = some tyE91 := rfl
@[simp] theorem ty_120 : ty 120 = some tyE120 := rfl
@[simp] theorem ty_121 : ty 121 = some tyE121 := rfl
@[simp] theorem ty_134 : ty 134 = some tyE134 := rfl
@[simp] theorem ty_138 : ty 138 = some tyE138 := rfl
@[simp] theorem ty_141 : ty 141 = some tyE141 := rfl
@[simp] theorem ty_143 : ty 143 = some tyE143 := rfl
@[simp] theorem ty_147 : ty 147 = some tyE147 := rfl
@[simp] theorem ty_150 : ty 150 = some tyE150 := rfl
@[simp] theorem ty_152 : ty 152 = some tyE152 := rfl
theorem tyOK_2 : TyOK Try.prog 2 tyE2 := ⟨Try.underlying2, Try.t2, Try.type2, rfl, rfl, rfl, fun h => by cases h⟩
theorem tyOK_3 : TyOK Try.prog 3 tyE3 := ⟨Try.underlying3, Try.t3, Try.type3, rfl, rfl, rfl, fun h => by cases h⟩
theorem tyOK_4 : TyOK Try.prog 4 tyE4 := ⟨Try.underlying4, Try.t4, Try.type4, rfl, rfl, rfl, fun h => by cases h⟩
theorem tyOK_5 : TyOK Try.prog 5 tyE5 := ⟨Try.underlying5, Try.t5, Try.type5, rfl, rfl, rfl, fun h => by cases h⟩
theorem tyOK_7 : TyOK Try.prog 7 tyE7 := ⟨Try.underlying7, Try.t7, Try.type7, rfl, rfl, rfl, fun h => by cases h⟩
theorem tyOK_9 : TyOK Try.prog 9 tyE9 := ⟨Try.underlying9, Try.t9, Try.type9, rfl, rfl, rfl, fun h => by cases h⟩
theorem tyOK_12 : TyOK Try.prog 12 tyE12 := ⟨Try.underlying12, Try.t12, Try.type12, rfl, rfl, rfl, fun h => by cases h⟩
theorem tyOK_13 : TyOK Try.prog 13 tyE13 := ⟨Try.underlying13, Try.t13, Try.type13, rfl, rfl, rfl, fun h => by cases h⟩
theorem tyOK_15 : TyOK Try.prog 15 tyE15 := ⟨Try.underlying15, Try.t15, Try.type15, rfl, rfl, rfl, fun h => by cases h⟩
theorem tyOK_16 : TyOK Try.prog 16 tyE16 := ⟨Try.underlying16, Try.t16, Try.type16, rfl, rfl, rfl, fun h => by cases h⟩
theorem tyOK_17 : TyOK Try.prog 17 tyE17 := ⟨Try.underlying17, Try.t17, Try.type17, rfl, rfl, rfl, fun h => by cases h⟩
theorem tyOK_18 : TyOK Try.prog 18 tyE18 := ⟨Try.underlying18, Try.t18, Try.type18, rfl, rfl, rfl, fun h => by cases h⟩
theorem tyOK_21 : TyOK Try.prog 21 tyE21 := ⟨Try.underlying21, Try.t21, Try.type21, rfl, rfl, rfl, fun h => by cases h⟩
theorem tyOK_22 : TyOK Try.prog 22 tyE22 := ⟨Try.underlying22, Try.t22, Try.type22, rfl, rfl, rfl, fun h => by cases h⟩
theorem tyOK_24 : TyOK Try.prog 24 tyE24 := ⟨Try.underlying24, Try.t24, Try.type24, rfl, rfl, rfl, fun h => by cases h⟩
theorem tyOK_25 : TyOK Try.prog 25 tyE25 := ⟨Try.underlying25, Try.t25, Try.type25, rfl, rfl, rfl, fun h => by cases h⟩
theorem tyOK_26 : TyOK Try.prog 26 tyE26 := ⟨Try.underlying26, Try.t26, Try.type26, rfl, rfl, rfl, fun _ => ⟨by kernel_rfl, by kernel_rfl, by rintro _ ⟨⟩; rfl⟩⟩
theorem tyOK_27 : TyOK Try.prog 27 tyE27 := ⟨Try.underlying27, Try.t27, Try.type27, rfl, rfl, rfl, fun h => by cases h⟩
theorem tyOK_28 : TyOK Try.prog 28 tyE28 := ⟨Try.underlying28, Try.t28, Try.type28, rfl, rfl, rfl, fun h => by cases h⟩
theorem tyOK_29 : TyOK Try.prog 29 tyE29 := ⟨Try.underlying29, Try.t29, Try.type29, rfl, rfl, rfl, fun _ => ⟨by kernel_rfl, by kernel_rfl, by rintro _ ⟨⟩; rfl⟩⟩
theorem tyOK_33 : TyOK Try.prog 33 tyE33 := ⟨Try.underlying33, Try.t33, Try.type33, rfl, rfl, rfl, fun h => by cases h⟩
theorem tyOK_46 : TyOK Try.prog 46 tyE46 := ⟨Try.underlying46, Try.t46, Try.type46, rfl, rfl, rfl, fun h => by cases h⟩
theorem tyOK_47 : TyOK Try.prog 47 tyE47 := ⟨Try.underlying47, Try.t47, Try.type47, rfl, rfl, rfl, fun _ => ⟨by kernel_rfl, by kernel_rfl, by rintro _ ⟨⟩; rfl⟩⟩
theorem tyOK_48 : TyOK Try.prog 48 tyE48 := ⟨Try.underlying48, Try.t48, Try.type48, rfl, rfl, rfl, fun h => by cases h⟩
theorem tyOK_55 : TyOK Try.prog 55 tyE55 := ⟨Try.underlying55, Try.t55, Try.type55, rfl, rfl, rfl, fun h => by cases h⟩
theorem tyOK_56 : TyOK Try.prog 56 tyE56 := ⟨Try.underlying56, Try.t56, Try.type56, rfl, rfl, rfl, fun _ => ⟨by kernel_rfl, by kernel_rfl, by rintro _ ⟨⟩; rfl⟩⟩
theorem tyOK_63 : TyOK Try.prog 63 tyE63 := ⟨Try.underlying63, Try.t63, Try.type63, rfl, rfl, rfl, fun h => by cases h⟩
theorem tyOK_64 : TyOK Try.prog 64 tyE64 := ⟨Try.underlying64, Try.t64, Try.type64, rfl, rfl, rfl, fun h => by cases h⟩
theorem tyOK_65 : TyOK Try.prog 65 tyE65 := ⟨Try.underlying65, Try.t65, Try.type65, rfl, rfl, rfl, fun h => by cases h⟩
theorem tyOK_66 : TyOK Try.prog 66 tyE66 := ⟨Try.underlying66, Try.t66, Try.type66, rfl, rfl, rfl, fun _ => ⟨by kernel_rfl, by kernel_rfl, by rintro _ ⟨⟩; rfl⟩⟩
theorem tyOK_73 : TyOK Try.prog 73 tyE73 := ⟨Try.underlying73, Try.t73, Try.type73, rfl, rfl, rfl, fun h => by cases h⟩
theorem tyOK_74 : TyOK Try.prog 74 tyE74 := ⟨Try.underlying74, Try.t74, Try.type74, rfl, rfl, rfl, fun _ => ⟨by kernel_rfl, by kernel_rfl, by rintro _ ⟨⟩; rfl⟩⟩
theorem tyOK_88 : TyOK Try.prog 88 tyE88 := ⟨Try.underlying88, Try.t88, Try.type88, rfl, rfl, rfl, fun h => by cases h⟩
theorem tyOK_89 : TyOK Try.prog 89 tyE89 := ⟨Try.underlying89, Try.t89, Try.type89, rfl, rfl, rfl, fun h => by cases h⟩
theorem tyOK_90 : TyOK Try.prog 90 tyE90 := ⟨Try.underlying90, Try.t90, Try.type90, rfl, rfl, rfl, fun _ => ⟨by kernel_rfl, by kernel_rfl, by rintro _ ⟨⟩; rfl⟩⟩
theorem tyOK_91 : TyOK Try.prog 91 tyE91 := ⟨Try.underlying91, Try.t91, Try.type91, rfl, rfl, rfl, fun _ => ⟨by kernel_rfl, by kernel_rfl, by rintro _ ⟨⟩; rfl⟩⟩
theorem tyOK_120 : TyOK Try.prog 120 tyE120 := ⟨Try.underlying120, Try.t120, Try.type120, rfl, rfl, rfl, fun h => by cases h⟩
theorem tyOK_121 : TyOK Try.prog 121 tyE121 := ⟨Try.underlying121, Try.t121, Try.type121, rfl, rfl, rfl, fun _ => ⟨by kernel_rfl, by kernel_rfl, by rintro _ ⟨⟩; rfl⟩⟩
theorem tyOK_134 : TyOK Try.prog 134 tyE134 := ⟨Try.underlying134, Try.t134, Try.type134, rfl, rfl, rfl, fun h => by cases h⟩
theorem tyOK_138 : TyOK Try.prog 138 tyE138 := ⟨Try.underlying138, Try.t138, Try.type138, rfl, rfl, rfl, fun h => by cases h⟩
theorem tyOK_141 : TyOK Try.prog 141 tyE141 := ⟨Try.underlying141, Try.t141, Try.type141, rfl, rfl, rfl, fun h => by cases h⟩
theorem tyOK_143 : TyOK Try.prog 143 tyE143 := ⟨Try.underlying143, Try.t143, Try.type143, rfl, rfl, rfl, fun h => by cases h⟩
theorem tyOK_147 : TyOK Try.prog 147 tyE147 := ⟨Try.underlying147, Try.t147, Try.type147, rfl, rfl, rfl, fun h => by cases h⟩
theorem tyOK_150 : TyOK Try.prog 150 tyE150 := ⟨Try.underlying150, Try.t150, Try.type150, rfl, rfl, rfl, fun h => by cases h⟩
theorem tyOK_152 : TyOK Try.prog 152 tyE152 := ⟨Try.underlying152, Try.t152, Try.type152, rfl, rfl, rfl, fun h => by cases h⟩
theorem ty_ok : ∀ t x, ty t = some x → TyOK Try.prog t x := lookT_ok (allT_cons tyOK_2 (allT_cons tyOK_3 (allT_cons tyOK_4 (allT_cons tyOK_5 (allT_cons tyOK_7 (allT_cons tyOK_9 (allT_cons tyOK_12 (allT_cons tyOK_13 (allT_cons tyOK_15 (allT_cons tyOK_16 (allT_cons tyOK_17 (allT_cons tyOK_18 (allT_cons tyOK_21 (allT_cons tyOK_22 (allT_cons tyOK_24 (allT_cons tyOK_25 (allT_cons tyOK_26 (allT_cons tyOK_27 (allT_cons tyOK_28 (allT_cons tyOK_29 (allT_cons tyOK_33 (allT_cons tyOK_46 (allT_cons tyOK_47 (allT_cons tyOK_48 (allT_cons tyOK_55 (allT_cons tyOK_56 (allT_cons tyOK_63 (allT_cons tyOK_64 (allT_cons tyOK_65 (allT_cons tyOK_66 (allT_cons tyOK_73 (allT_cons tyOK_74 (allT_cons tyOK_88 (allT_cons tyOK_89 (allT_cons tyOK_90 (allT_cons tyOK_91 (allT_cons tyOK_120 (allT_cons tyOK_121 (allT_cons tyOK_134 (allT_cons tyOK_138 (allT_cons tyOK_141 (allT_cons tyOK_143 (allT_cons tyOK_147 (allT_cons tyOK_150 (allT_cons tyOK_152 allT_nil)))))))))))))))))))))))))))))))))))))))))))))
end Go.Proofs.Ytmpgpfekekobfaa
