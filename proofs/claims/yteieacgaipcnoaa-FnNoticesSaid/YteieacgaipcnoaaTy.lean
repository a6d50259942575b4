/- The types of the seat as a table. Made by program (genty.py). -/
import Derived.Test.YteieacgaipcnoaaProg
import Derived.Test.YteieacgaipcnoaaAbSpec
import Derived.KernelRfl
namespace Go.Proofs.Yteieacgaipcnoaa
open Go Go.Ab
set_option maxRecDepth 100000

abbrev tyE2 : TyE := ⟨.int .i64, 1, 8, .int .i64 0, false⟩
abbrev tyE3 : TyE := ⟨.int .i64, 1, 8, .int .i64 0, false⟩
abbrev tyE4 : TyE := ⟨.bool, 1, 1, .bool false, false⟩
abbrev tyE5 : TyE := ⟨.int .u8, 1, 1, .int .u8 0, false⟩
abbrev tyE7 : TyE := ⟨.struct #[{ name := "x", type := 2, offset := 0, embedded := false, tag := "", pkgPath := "runtime", byteOffset := 0 }, { name := "y", type := 3, offset := 1, embedded := false, tag := "", pkgPath := "runtime", byteOffset := 8 }, { name := "signed", type := 4, offset := 2, embedded := false, tag := "", pkgPath := "runtime", byteOffset := 16 }, { name := "code", type := 6, offset := 3, embedded := false, tag := "", pkgPath := "runtime", byteOffset := 17 }], 4, 24, .agg #[.int .i64 0, .int .i64 0, .bool false, .int .u8 0], false⟩
abbrev tyE9 : TyE := ⟨.string, 1, 16, .string ByteArray.empty, false⟩
abbrev tyE12 : TyE := ⟨.int .u64, 1, 8, .int .u64 0, false⟩
abbrev tyE13 : TyE := ⟨.struct #[{ name := "msg", type := 9, offset := 0, embedded := false, tag := "", pkgPath := "runtime", byteOffset := 0 }, { name := "addr", type := 12, offset := 1, embedded := false, tag := "", pkgPath := "runtime", byteOffset := 16 }], 2, 24, .agg #[.string ByteArray.empty, .int .u64 0], false⟩
abbrev tyE15 : TyE := ⟨.pointer 168, 1, 8, .pointer none, false⟩
abbrev tyE16 : TyE := ⟨.pointer 171, 1, 8, .pointer none, false⟩
abbrev tyE17 : TyE := ⟨.pointer 179, 1, 8, .pointer none, false⟩
abbrev tyE18 : TyE := ⟨.struct #[{ name := "typ", type := 17, offset := 0, embedded := false, tag := "", pkgPath := "internal/runtime/maps", byteOffset := 0 }], 1, 8, .agg #[.pointer none], false⟩
abbrev tyE21 : TyE := ⟨.int .i32, 1, 4, .int .i32 0, false⟩
abbrev tyE22 : TyE := ⟨.slice 5, 1, 24, .slice none 0 0, false⟩
abbrev tyE24 : TyE := ⟨.slice 76, 1, 24, .slice none 0 0, false⟩
abbrev tyE32 : TyE := ⟨.slice 3, 1, 24, .slice none 0 0, false⟩
abbrev tyE39 : TyE := ⟨.slice 9, 1, 24, .slice none 0 0, false⟩
abbrev tyE40 : TyE := ⟨.slice 91, 1, 24, .slice none 0 0, false⟩
abbrev tyE41 : TyE := ⟨.struct #[{ name := "Stops", type := 39, offset := 0, embedded := false, tag := "", pkgPath := "", byteOffset := 0 }, { name := "Lines", type := 40, offset := 1, embedded := false, tag := "", pkgPath := "", byteOffset := 24 }], 2, 48, .agg #[.slice none 0 0, .slice none 0 0], false⟩
abbrev tyE42 : TyE := ⟨.struct #[{ name := "Stops", type := 39, offset := 0, embedded := false, tag := "", pkgPath := "", byteOffset := 0 }, { name := "Lines", type := 40, offset := 1, embedded := false, tag := "", pkgPath := "", byteOffset := 24 }], 2, 48, .agg #[.slice none 0 0, .slice none 0 0], true⟩
abbrev tyE43 : TyE := ⟨.slice 93, 1, 24, .slice none 0 0, false⟩
abbrev tyE44 : TyE := ⟨.struct #[{ name := "Network", type := 42, offset := 0, embedded := false, tag := "", pkgPath := "", byteOffset := 0 }, { name := "Trips", type := 43, offset := 2, embedded := false, tag := "", pkgPath := "", byteOffset := 48 }], 3, 72, .agg #[.slice none 0 0, .slice none 0 0, .slice none 0 0], false⟩
abbrev tyE45 : TyE := ⟨.struct #[{ name := "Network", type := 42, offset := 0, embedded := false, tag := "", pkgPath := "", byteOffset := 0 }, { name := "Trips", type := 43, offset := 2, embedded := false, tag := "", pkgPath := "", byteOffset := 48 }], 3, 72, .agg #[.slice none 0 0, .slice none 0 0, .slice none 0 0], true⟩
abbrev tyE46 : TyE := ⟨.slice 119, 1, 24, .slice none 0 0, false⟩
abbrev tyE50 : TyE := ⟨.slice 56, 1, 24, .slice none 0 0, false⟩
abbrev tyE55 : TyE := ⟨.struct #[{ name := "Line", type := 3, offset := 0, embedded := false, tag := "", pkgPath := "", byteOffset := 0 }, { name := "Offset", type := 3, offset := 1, embedded := false, tag := "", pkgPath := "", byteOffset := 8 }], 2, 16, .agg #[.int .i64 0, .int .i64 0], false⟩
abbrev tyE56 : TyE := ⟨.struct #[{ name := "Line", type := 3, offset := 0, embedded := false, tag := "", pkgPath := "", byteOffset := 0 }, { name := "Offset", type := 3, offset := 1, embedded := false, tag := "", pkgPath := "", byteOffset := 8 }], 2, 16, .agg #[.int .i64 0, .int .i64 0], true⟩
abbrev tyE69 : TyE := ⟨.pointer 72, 1, 8, .pointer none, false⟩
abbrev tyE70 : TyE := ⟨.int .u64, 1, 8, .int .u64 0, false⟩
abbrev tyE71 : TyE := ⟨.struct #[{ name := "code", type := 22, offset := 0, embedded := false, tag := "", pkgPath := "loop.example/g00900/spec", byteOffset := 0 }, { name := "at", type := 3, offset := 1, embedded := false, tag := "", pkgPath := "loop.example/g00900/spec", byteOffset := 24 }, { name := "seed", type := 70, offset := 2, embedded := false, tag := "", pkgPath := "loop.example/g00900/spec", byteOffset := 32 }], 3, 40, .agg #[.slice none 0 0, .int .i64 0, .int .u64 0], true⟩
abbrev tyE72 : TyE := ⟨.struct #[{ name := "code", type := 22, offset := 0, embedded := false, tag := "", pkgPath := "loop.example/g00900/spec", byteOffset := 0 }, { name := "at", type := 3, offset := 1, embedded := false, tag := "", pkgPath := "loop.example/g00900/spec", byteOffset := 24 }, { name := "seed", type := 70, offset := 2, embedded := false, tag := "", pkgPath := "loop.example/g00900/spec", byteOffset := 32 }], 3, 40, .agg #[.slice none 0 0, .int .i64 0, .int .u64 0], true⟩
abbrev tyE75 : TyE := ⟨.struct #[{ name := "Kind", type := 3, offset := 0, embedded := false, tag := "", pkgPath := "", byteOffset := 0 }, { name := "Line", type := 9, offset := 1, embedded := false, tag := "", pkgPath := "", byteOffset := 8 }, { name := "Stop", type := 9, offset := 2, embedded := false, tag := "", pkgPath := "", byteOffset := 24 }, { name := "From", type := 3, offset := 3, embedded := false, tag := "", pkgPath := "", byteOffset := 40 }, { name := "To", type := 3, offset := 4, embedded := false, tag := "", pkgPath := "", byteOffset := 48 }, { name := "Minutes", type := 3, offset := 5, embedded := false, tag := "", pkgPath := "", byteOffset := 56 }], 6, 64, .agg #[.int .i64 0, .string ByteArray.empty, .string ByteArray.empty, .int .i64 0, .int .i64 0, .int .i64 0], false⟩
abbrev tyE76 : TyE := ⟨.struct #[{ name := "Kind", type := 3, offset := 0, embedded := false, tag := "", pkgPath := "", byteOffset := 0 }, { name := "Line", type := 9, offset := 1, embedded := false, tag := "", pkgPath := "", byteOffset := 8 }, { name := "Stop", type := 9, offset := 2, embedded := false, tag := "", pkgPath := "", byteOffset := 24 }, { name := "From", type := 3, offset := 3, embedded := false, tag := "", pkgPath := "", byteOffset := 40 }, { name := "To", type := 3, offset := 4, embedded := false, tag := "", pkgPath := "", byteOffset := 48 }, { name := "Minutes", type := 3, offset := 5, embedded := false, tag := "", pkgPath := "", byteOffset := 56 }], 6, 64, .agg #[.int .i64 0, .string ByteArray.empty, .string ByteArray.empty, .int .i64 0, .int .i64 0, .int .i64 0], true⟩
abbrev tyE90 : TyE := ⟨.struct #[{ name := "Name", type := 9, offset := 0, embedded := false, tag := "", pkgPath := "", byteOffset := 0 }, { name := "Stops", type := 32, offset := 1, embedded := false, tag := "", pkgPath := "", byteOffset := 16 }, { name := "Runs", type := 32, offset := 2, embedded := false, tag := "", pkgPath := "", byteOffset := 40 }], 3, 64, .agg #[.string ByteArray.empty, .slice none 0 0, .slice none 0 0], false⟩
abbrev tyE91 : TyE := ⟨.struct #[{ name := "Name", type := 9, offset := 0, embedded := false, tag := "", pkgPath := "", byteOffset := 0 }, { name := "Stops", type := 32, offset := 1, embedded := false, tag := "", pkgPath := "", byteOffset := 16 }, { name := "Runs", type := 32, offset := 2, embedded := false, tag := "", pkgPath := "", byteOffset := 40 }], 3, 64, .agg #[.string ByteArray.empty, .slice none 0 0, .slice none 0 0], true⟩
abbrev tyE92 : TyE := ⟨.struct #[{ name := "Id", type := 3, offset := 0, embedded := false, tag := "", pkgPath := "", byteOffset := 0 }, { name := "Line", type := 3, offset := 1, embedded := false, tag := "", pkgPath := "", byteOffset := 8 }, { name := "Start", type := 3, offset := 2, embedded := false, tag := "", pkgPath := "", byteOffset := 16 }], 3, 24, .agg #[.int .i64 0, .int .i64 0, .int .i64 0], false⟩
abbrev tyE93 : TyE := ⟨.struct #[{ name := "Id", type := 3, offset := 0, embedded := false, tag := "", pkgPath := "", byteOffset := 0 }, { name := "Line", type := 3, offset := 1, embedded := false, tag := "", pkgPath := "", byteOffset := 8 }, { name := "Start", type := 3, offset := 2, embedded := false, tag := "", pkgPath := "", byteOffset := 16 }], 3, 24, .agg #[.int .i64 0, .int .i64 0, .int .i64 0], true⟩
abbrev tyE113 : TyE := ⟨.slice 24, 1, 24, .slice none 0 0, false⟩
abbrev tyE118 : TyE := ⟨.struct #[{ name := "Id", type := 3, offset := 0, embedded := false, tag := "", pkgPath := "", byteOffset := 0 }, { name := "Minutes", type := 3, offset := 1, embedded := false, tag := "", pkgPath := "", byteOffset := 8 }], 2, 16, .agg #[.int .i64 0, .int .i64 0], false⟩
abbrev tyE119 : TyE := ⟨.struct #[{ name := "Id", type := 3, offset := 0, embedded := false, tag := "", pkgPath := "", byteOffset := 0 }, { name := "Minutes", type := 3, offset := 1, embedded := false, tag := "", pkgPath := "", byteOffset := 8 }], 2, 16, .agg #[.int .i64 0, .int .i64 0], true⟩
abbrev tyE128 : TyE := ⟨.int .u64, 1, 8, .int .u64 0, false⟩
abbrev tyE147 : TyE := ⟨.int .i64, 1, 8, .int .i64 0, false⟩
abbrev tyE155 : TyE := ⟨.int .u32, 1, 4, .int .u32 0, false⟩
abbrev tyE158 : TyE := ⟨.int .u64, 1, 8, .int .u64 0, false⟩
abbrev tyE162 : TyE := ⟨.pointer 3, 1, 8, .pointer none, false⟩
abbrev tyE164 : TyE := ⟨.pointer 158, 1, 8, .pointer none, false⟩
abbrev tyE167 : TyE := ⟨.struct #[{ name := "_interface", type := 17, offset := 0, embedded := false, tag := "", pkgPath := "runtime", byteOffset := 0 }, { name := "concrete", type := 17, offset := 1, embedded := false, tag := "", pkgPath := "runtime", byteOffset := 8 }, { name := "asserted", type := 17, offset := 2, embedded := false, tag := "", pkgPath := "runtime", byteOffset := 16 }, { name := "missingMethod", type := 9, offset := 3, embedded := false, tag := "", pkgPath := "runtime", byteOffset := 24 }], 4, 40, .agg #[.pointer none, .pointer none, .pointer none, .string ByteArray.empty], false⟩
abbrev tyE170 : TyE := ⟨.struct #[{ name := "_", type := 169, offset := 0, embedded := false, tag := "", pkgPath := "runtime", byteOffset := 0 }], 0, 0, .agg #[], false⟩
abbrev tyE175 : TyE := ⟨.pointer 5, 1, 8, .pointer none, false⟩
abbrev tyE178 : TyE := ⟨.struct #[{ name := "Size_", type := 12, offset := 0, embedded := false, tag := "", pkgPath := "", byteOffset := 0 }, { name := "PtrBytes", type := 12, offset := 1, embedded := false, tag := "", pkgPath := "", byteOffset := 8 }, { name := "Hash", type := 155, offset := 2, embedded := false, tag := "", pkgPath := "", byteOffset := 16 }, { name := "TFlag", type := 172, offset := 3, embedded := false, tag := "", pkgPath := "", byteOffset := 20 }, { name := "Align_", type := 5, offset := 4, embedded := false, tag := "", pkgPath := "", byteOffset := 21 }, { name := "FieldAlign_", type := 5, offset := 5, embedded := false, tag := "", pkgPath := "", byteOffset := 22 }, { name := "Kind_", type := 173, offset := 6, embedded := false, tag := "", pkgPath := "", byteOffset := 23 }, { name := "Equal", type := 174, offset := 7, embedded := false, tag := "", pkgPath := "", byteOffset := 24 }, { name := "GCData", type := 175, offset := 8, embedded := false, tag := "", pkgPath := "", byteOffset := 32 }, { name := "Str", type := 176, offset := 9, embedded := false, tag := "", pkgPath := "", byteOffset := 40 }, { name := "PtrToThis", type := 177, offset := 10, embedded := false, tag := "", pkgPath := "", byteOffset := 44 }], 11, 48, .agg #[.int .u64 0, .int .u64 0, .int .u32 0, .int .u8 0, .int .u8 0, .int .u8 0, .int .u8 0, .nilFunc, .pointer none, .int .i32 0, .int .i32 0], false⟩
abbrev tyE180 : TyE := ⟨.unsafePointer, 1, 8, .pointer none, false⟩
def tyL : List (Nat × TyE) := [(2, tyE2), (3, tyE3), (4, tyE4), (5, tyE5), (7, tyE7), (9, tyE9), (12, tyE12), (13, tyE13), (15, tyE15), (16, tyE16), (17, tyE17), (18, tyE18), (21, tyE21), (22, tyE22), (24, tyE24), (32, tyE32), (39, tyE39), (40, tyE40), (41, tyE41), (42, tyE42), (43, tyE43), (44, tyE44), (45, tyE45), (46, tyE46), (50, tyE50), (55, tyE55), (56, tyE56), (69, tyE69), (70, tyE70), (71, tyE71), (72, tyE72), (75, tyE75), (76, tyE76), (90, tyE90), (91, tyE91), (92, tyE92), (93, tyE93), (113, tyE113), (118, tyE118), (119, tyE119), (128, tyE128), (147, tyE147), (155, tyE155), (158, tyE158), (162, tyE162), (164, tyE164), (167, tyE167), (170, tyE170), (175, tyE175), (178, tyE178), (180, tyE180)]
def ty (t : TypeId) : Option TyE := lookT t tyL
@[simp] theorem ty_2 : ty 2 = some tyE2 := rfl
@[simp] theorem ty_3 : ty 3 = some tyE3 := rfl
@[simp] theorem ty_4 : ty 4 = some tyE4 := rfl
@[simp] theorem ty_5 : ty 5 = some tyE5 := rfl
@[simp] theorem ty_7 : ty 7 = some tyE7 := rfl
@[simp] theorem ty_9 : ty 9 = some tyE9 := rfl
@[simp] theorem ty_12 : ty 12 = some tyE12 := rfl
@[simp] theorem ty_13 : ty 13 = some tyE13 := rfl
@[simp] theorem ty_15 : ty 15 = some tyE15 := rfl
@[simp] theorem ty_16 : ty 16 = some tyE16 := rfl
@[simp] theorem ty_17 : ty 17 = some tyE17 := rfl
@[simp] theorem ty_18 : ty 18 = some tyE18 := rfl
@[simp] theorem ty_21 : ty 21 = some tyE21 := rfl
@[simp] theorem ty_22 : ty 22 = some tyE22 := rfl
@[simp] theorem ty_24 : ty 24 = some tyE24 := rfl
@[simp] theorem ty_32 : ty 32 = some tyE32 := rfl
@[simp] theorem ty_39 : ty 39 = some tyE39 := rfl
@[simp] theorem ty_40 : ty 40 = some tyE40 := rfl
@[simp] theorem ty_41 : ty 41 = some tyE41 := rfl
@[simp] theorem ty_42 : ty 42 = some tyE42 := rfl
@[simp] theorem ty_43 : ty 43 = some tyE43 := rfl
@[simp] theorem ty_44 : ty 44 = some tyE44 := rfl
@[simp] theorem ty_45 : ty 45 = some tyE45 := rfl
@[simp] theorem ty_46 : ty 46 = some tyE46 := rfl
@[simp] theorem ty_50 : ty 50 = some tyE50 := rfl
@[simp] theorem ty_55 : ty 55 = some tyE55 := rfl
@[simp] theorem ty_56 : ty 56 = some tyE56 := rfl
@[simp] theorem ty_69 : ty 69 = some tyE69 := rfl
@[simp] theorem ty_70 : ty 70 = some tyE70 := rfl
@[simp] theorem ty_71 : ty 71 = some tyE71 := rfl
@[simp] theorem ty_72 : ty 72 = some tyE72 := rfl
@[simp] theorem ty_75 : ty 75 = some tyE75 := rfl
@[simp] theorem ty_76 : ty 76 = some tyE76 := rfl
@[simp] theorem ty_90 : ty 90 = some tyE90 := rfl
@[simp] theorem ty_91 : ty 91 = some tyE91 := rfl
@[simp] theorem ty_92 : ty 92 = some tyE92 := rfl
@[simp] theorem ty_93 : ty 93 = some tyE93 := rfl
@[simp] theorem ty_113 : ty 113 = some tyE113 := rfl
@[simp] theorem ty_118 : ty 118 = some tyE118 := rfl
@[simp] theorem ty_119 : ty 119 = some tyE119 := rfl
@[simp] theorem ty_128 : ty 128 = some tyE128 := rfl
@[simp] theorem ty_147 : ty 147 = some tyE147 := rfl
@[simp] theorem ty_155 : ty 155 = some tyE155 := rfl
@[simp] theorem ty_158 : ty 158 = some tyE158 := rfl
@[simp] theorem ty_162 : ty 162 = some tyE162 := rfl
@[simp] theorem ty_164 : ty 164 = some tyE164 := rfl
@[simp] theorem ty_167 : ty 167 = some tyE167 := rfl
@[simp] theorem ty_170 : ty 170 = some tyE170 := rfl
@[simp] theorem ty_175 : ty 175 = some tyE175 := rfl
@[simp] theorem ty_178 : ty 178 = some tyE178 := rfl
@[simp] theorem ty_180 : ty 180 = some tyE180 := rfl
theorem tyOK_2 : TyOK Try.prog 2 tyE2 := ⟨Try.underlying2, Try.t2, Try.type2, rfl, rfl, rfl, fun h => by cases h⟩
theorem tyOK_3 : TyOK Try.prog 3 tyE3 := ⟨Try.underlying3, Try.t3, Try.type3, rfl, rfl, rfl, fun h => by cases h⟩
theorem tyOK_4 : TyOK Try.prog 4 tyE4 := ⟨Try.underlying4, Try.t4, Try.type4, rfl, rfl, rfl, fun h => by cases h⟩
theorem tyOK_5 : TyOK Try.prog 5 tyE5 := ⟨Try.underlying5, Try.t5, Try.type5, rfl, rfl, rfl, fun h => by cases h⟩
theorem tyOK_7 : TyOK Try.prog 7 tyE7 := ⟨Try.underlying7, Try.t7, Try.type7, rfl, rfl, rfl, fun h => by cases h⟩
theorem tyOK_9 : TyOK Try.prog 9 tyE9 := ⟨Try.underlying9, Try.t9, Try.type9, rfl, rfl, rfl, fun h => by cases h⟩
theorem tyOK_12 : TyOK Try.prog 12 tyE12 := ⟨Try.underlying12, Try.t12, Try.type12, rfl, rfl, rfl, fun h => by cases h⟩
theorem tyOK_13 : TyOK Try.prog 13 tyE13 := ⟨Try.underlying13, Try.t13, Try.type13, rfl, rfl, rfl, fun h => by cases h⟩
theorem tyOK_15 : TyOK Try.prog 15 tyE15 := ⟨Try.underlying15, Try.t15, Try.type15, rfl, rfl, rfl, fun h => by cases h⟩
theorem tyOK_16 : TyOK Try.prog 16 tyE16 := ⟨Try.underlying16, Try.t16, Try.type16, rfl, rfl, rfl, fun h => by cases h⟩
theorem tyOK_17 : TyOK Try.prog 17 tyE17 := ⟨Try.underlying17, Try.t17, Try.type17, rfl, rfl, rfl, fun h => by cases h⟩
theorem tyOK_18 : TyOK Try.prog 18 tyE18 := ⟨Try.underlying18, Try.t18, Try.type18, rfl, rfl, rfl, fun h => by cases h⟩
theorem tyOK_21 : TyOK Try.prog 21 tyE21 := ⟨Try.underlying21, Try.t21, Try.type21, rfl, rfl, rfl, fun h => by cases h⟩
theorem tyOK_22 : TyOK Try.prog 22 tyE22 := ⟨Try.underlying22, Try.t22, Try.type22, rfl, rfl, rfl, fun h => by cases h⟩
theorem tyOK_24 : TyOK Try.prog 24 tyE24 := ⟨Try.underlying24, Try.t24, Try.type24, rfl, rfl, rfl, fun h => by cases h⟩
theorem tyOK_32 : TyOK Try.prog 32 tyE32 := ⟨Try.underlying32, Try.t32, Try.type32, rfl, rfl, rfl, fun h => by cases h⟩
theorem tyOK_39 : TyOK Try.prog 39 tyE39 := ⟨Try.underlying39, Try.t39, Try.type39, rfl, rfl, rfl, fun h => by cases h⟩
theorem tyOK_40 : TyOK Try.prog 40 tyE40 := ⟨Try.underlying40, Try.t40, Try.type40, rfl, rfl, rfl, fun h => by cases h⟩
theorem tyOK_41 : TyOK Try.prog 41 tyE41 := ⟨Try.underlying41, Try.t41, Try.type41, rfl, rfl, rfl, fun h => by cases h⟩
theorem tyOK_42 : TyOK Try.prog 42 tyE42 := ⟨Try.underlying42, Try.t42, Try.type42, rfl, rfl, rfl, fun _ => ⟨by kernel_rfl, by kernel_rfl, by rintro _ ⟨⟩; rfl⟩⟩
theorem tyOK_43 : TyOK Try.prog 43 tyE43 := ⟨Try.underlying43, Try.t43, Try.type43, rfl, rfl, rfl, fun h => by cases h⟩
theorem tyOK_44 : TyOK Try.prog 44 tyE44 := ⟨Try.underlying44, Try.t44, Try.type44, rfl, rfl, rfl, fun h => by cases h⟩
theorem tyOK_45 : TyOK Try.prog 45 tyE45 := ⟨Try.underlying45, Try.t45, Try.type45, rfl, rfl, rfl, fun _ => ⟨by kernel_rfl, by kernel_rfl, by rintro _ ⟨⟩; rfl⟩⟩
theorem tyOK_46 : TyOK Try.prog 46 tyE46 := ⟨Try.underlying46, Try.t46, Try.type46, rfl, rfl, rfl, fun h => by cases h⟩
theorem tyOK_50 : TyOK Try.prog 50 tyE50 := ⟨Try.underlying50, Try.t50, Try.type50, rfl, rfl, rfl, fun h => by cases h⟩
theorem tyOK_55 : TyOK Try.prog 55 tyE55 := ⟨Try.underlying55, Try.t55, Try.type55, rfl, rfl, rfl, fun h => by cases h⟩
theorem tyOK_56 : TyOK Try.prog 56 tyE56 := ⟨Try.underlying56, Try.t56, Try.type56, rfl, rfl, rfl, fun _ => ⟨by kernel_rfl, by kernel_rfl, by rintro _ ⟨⟩; rfl⟩⟩
theorem tyOK_69 : TyOK Try.prog 69 tyE69 := ⟨Try.underlying69, Try.t69, Try.type69, rfl, rfl, rfl, fun h => by cases h⟩
theorem tyOK_70 : TyOK Try.prog 70 tyE70 := ⟨Try.underlying70, Try.t70, Try.type70, rfl, rfl, rfl, fun h => by cases h⟩
theorem tyOK_71 : TyOK Try.prog 71 tyE71 := ⟨Try.underlying71, Try.t71, Try.type71, rfl, rfl, rfl, fun _ => ⟨by kernel_rfl, by kernel_rfl, by rintro _ ⟨⟩; rfl⟩⟩
theorem tyOK_72 : TyOK Try.prog 72 tyE72 := ⟨Try.underlying72, Try.t72, Try.type72, rfl, rfl, rfl, fun _ => ⟨by kernel_rfl, by kernel_rfl, by rintro _ ⟨⟩; rfl⟩⟩
theorem tyOK_75 : TyOK Try.prog 75 tyE75 := ⟨Try.underlying75, Try.t75, Try.type75, rfl, rfl, rfl, fun h => by cases h⟩
theorem tyOK_76 : TyOK Try.prog 76 tyE76 := ⟨Try.underlying76, Try.t76, Try.type76, rfl, rfl, rfl, fun _ => ⟨by kernel_rfl, by kernel_rfl, by rintro _ ⟨⟩; rfl⟩⟩
theorem tyOK_90 : TyOK Try.prog 90 tyE90 := ⟨Try.underlying90, Try.t90, Try.type90, rfl, rfl, rfl, fun h => by cases h⟩
theorem tyOK_91 : TyOK Try.prog 91 tyE91 := ⟨Try.underlying91, Try.t91, Try.type91, rfl, rfl, rfl, fun _ => ⟨by kernel_rfl, by kernel_rfl, by rintro _ ⟨⟩; rfl⟩⟩
theorem tyOK_92 : TyOK Try.prog 92 tyE92 := ⟨Try.underlying92, Try.t92, Try.type92, rfl, rfl, rfl, fun h => by cases h⟩
theorem tyOK_93 : TyOK Try.prog 93 tyE93 := ⟨Try.underlying93, Try.t93, Try.type93, rfl, rfl, rfl, fun _ => ⟨by kernel_rfl, by kernel_rfl, by rintro _ ⟨⟩; rfl⟩⟩
theorem tyOK_113 : TyOK Try.prog 113 tyE113 := ⟨Try.underlying113, Try.t113, Try.type113, rfl, rfl, rfl, fun h => by cases h⟩
theorem tyOK_118 : TyOK Try.prog 118 tyE118 := ⟨Try.underlying118, Try.t118, Try.type118, rfl, rfl, rfl, fun h => by cases h⟩
theorem tyOK_119 : TyOK Try.prog 119 tyE119 := ⟨Try.underlying119, Try.t119, Try.type119, rfl, rfl, rfl, fun _ => ⟨by kernel_rfl, by kernel_rfl, by rintro _ ⟨⟩; rfl⟩⟩
theorem tyOK_128 : TyOK Try.prog 128 tyE128 := ⟨Try.underlying128, Try.t128, Try.type128, rfl, rfl, rfl, fun h => by cases h⟩
theorem tyOK_147 : TyOK Try.prog 147 tyE147 := ⟨Try.underlying147, Try.t147, Try.type147, rfl, rfl, rfl, fun h => by cases h⟩
theorem tyOK_155 : TyOK Try.prog 155 tyE155 := ⟨Try.underlying155, Try.t155, Try.type155, rfl, rfl, rfl, fun h => by cases h⟩
theorem tyOK_158 : TyOK Try.prog 158 tyE158 := ⟨Try.underlying158, Try.t158, Try.type158, rfl, rfl, rfl, fun h => by cases h⟩
theorem tyOK_162 : TyOK Try.prog 162 tyE162 := ⟨Try.underlying162, Try.t162, Try.type162, rfl, rfl, rfl, fun h => by cases h⟩
theorem tyOK_164 : TyOK Try.prog 164 tyE164 := ⟨Try.underlying164, Try.t164, Try.type164, rfl, rfl, rfl, fun h => by cases h⟩
theorem tyOK_167 : TyOK Try.prog 167 tyE167 := ⟨Try.underlying167, Try.t167, Try.type167, rfl, rfl, rfl, fun h => by cases h⟩
theorem tyOK_170 : TyOK Try.prog 170 tyE170 := ⟨Try.underlying170, Try.t170, Try.type170, rfl, rfl, rfl, fun h => by cases h⟩
theorem tyOK_175 : TyOK Try.prog 175 tyE175 := ⟨Try.underlying175, Try.t175, Try.type175, rfl, rfl, rfl, fun h => by cases h⟩
theorem tyOK_178 : TyOK Try.prog 178 tyE178 := ⟨Try.underlying178, Try.t178, Try.type178, rfl, rfl, rfl, fun h => by cases h⟩
theorem tyOK_180 : TyOK Try.prog 180 tyE180 := ⟨Try.underlying180, Try.t180, Try.type180, rfl, rfl, rfl, fun h => by cases h⟩
theorem ty_ok : ∀ t x, ty t = some x → TyOK Try.prog t x := lookT_ok (allT_cons tyOK_2 (allT_cons tyOK_3 (allT_cons tyOK_4 (allT_cons tyOK_5 (allT_cons tyOK_7 (allT_cons tyOK_9 (allT_cons tyOK_12 (allT_cons tyOK_13 (allT_cons tyOK_15 (allT_cons tyOK_16 (allT_cons tyOK_17 (allT_cons tyOK_18 (allT_cons tyOK_21 (allT_cons tyOK_22 (allT_cons tyOK_24 (allT_cons tyOK_32 (allT_cons tyOK_39 (allT_cons tyOK_40 (allT_cons tyOK_41 (allT_cons tyOK_42 (allT_cons tyOK_43 (allT_cons tyOK_44 (allT_cons tyOK_45 (allT_cons tyOK_46 (allT_cons tyOK_50 (allT_cons tyOK_55 (allT_cons tyOK_56 (allT_cons tyOK_69 (allT_cons tyOK_70 (allT_cons tyOK_71 (allT_cons tyOK_72 (allT_cons tyOK_75 (allT_cons tyOK_76 (allT_cons tyOK_90 (allT_cons tyOK_91 (allT_cons tyOK_92 (allT_cons tyOK_93 (allT_cons tyOK_113 (allT_cons tyOK_118 (allT_cons tyOK_119 (allT_cons tyOK_128 (allT_cons tyOK_147 (allT_cons tyOK_155 (allT_cons tyOK_158 (allT_cons tyOK_162 (allT_cons tyOK_164 (allT_cons tyOK_167 (allT_cons tyOK_170 (allT_cons tyOK_175 (allT_cons tyOK_178 (allT_cons tyOK_180 allT_nil)))))))))))))))))))))))))))))))))))))))))))))))))))
end Go.Proofs.Yteieacgaipcnoaa
