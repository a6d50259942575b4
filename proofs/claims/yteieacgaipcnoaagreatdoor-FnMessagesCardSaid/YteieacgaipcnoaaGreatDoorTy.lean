/- The types of the seat as a table. Made by program (genty.py). -/
import Derived.Test.YteieacgaipcnoaaGreatDoorProg
import Derived.Test.YteieacgaipcnoaaGreatDoorAbSpec
import Derived.KernelRfl
namespace Go.Proofs.YteieacgaipcnoaaGreatDoor
open Go Go.Ab
set_option maxRecDepth 100000

abbrev tyE2 : TyE := ⟨.int .i64, 1, 8, .int .i64 0, false⟩
abbrev tyE3 : TyE := ⟨.int .i64, 1, 8, .int .i64 0, false⟩
abbrev tyE4 : TyE := ⟨.bool, 1, 1, .bool false, false⟩
abbrev tyE5 : TyE := ⟨.int .u8, 1, 1, .int .u8 0, false⟩
abbrev tyE7 : TyE := ⟨.struct #[{ name := "x", type := 2, offset := 0, embedded := false, tag := "", pkgPath := "runtime", byteOffset := 0 }, { name := "y", type := 3, offset := 1, embedded := false, tag := "", pkgPath := "runtime", byteOffset := 8 }, { name := "signed", type := 4, offset := 2, embedded := false, tag := "", pkgPath := "runtime", byteOffset := 16 }, { name := "code", type := 6, offset := 3, embedded := false, tag := "", pkgPath := "runtime", byteOffset := 17 }], 4, 24, .agg #[.int .i64 0, .int .i64 0, .bool false, .int .u8 0], false⟩
abbrev tyE9 : TyE := ⟨.string, 1, 16, .string ByteArray.empty, false⟩
abbrev tyE12 : TyE := ⟨.int .u64, 1, 8, .int .u64 0, false⟩
abbrev tyE13 : TyE := ⟨.struct #[{ name := "msg", type := 9, offset := 0, embedded := false, tag := "", pkgPath := "runtime", byteOffset := 0 }, { name := "addr", type := 12, offset := 1, embedded := false, tag := "", pkgPath := "runtime", byteOffset := 16 }], 2, 24, .agg #[.string ByteArray.empty, .int .u64 0], false⟩
abbrev tyE15 : TyE := ⟨.pointer 122, 1, 8, .pointer none, false⟩
abbrev tyE16 : TyE := ⟨.pointer 125, 1, 8, .pointer none, false⟩
abbrev tyE17 : TyE := ⟨.pointer 132, 1, 8, .pointer none, false⟩
abbrev tyE18 : TyE := ⟨.struct #[{ name := "typ", type := 17, offset := 0, embedded := false, tag := "", pkgPath := "internal/runtime/maps", byteOffset := 0 }], 1, 8, .agg #[.pointer none], false⟩
abbrev tyE21 : TyE := ⟨.int .i32, 1, 4, .int .i32 0, false⟩
abbrev tyE22 : TyE := ⟨.slice 5, 1, 24, .slice none 0 0, false⟩
abbrev tyE24 : TyE := ⟨.struct #[{ name := "Kind", type := 3, offset := 0, embedded := false, tag := "", pkgPath := "", byteOffset := 0 }, { name := "Line", type := 9, offset := 1, embedded := false, tag := "", pkgPath := "", byteOffset := 8 }, { name := "Stop", type := 9, offset := 2, embedded := false, tag := "", pkgPath := "", byteOffset := 24 }, { name := "From", type := 3, offset := 3, embedded := false, tag := "", pkgPath := "", byteOffset := 40 }, { name := "To", type := 3, offset := 4, embedded := false, tag := "", pkgPath := "", byteOffset := 48 }, { name := "Minutes", type := 3, offset := 5, embedded := false, tag := "", pkgPath := "", byteOffset := 56 }], 6, 64, .agg #[.int .i64 0, .string ByteArray.empty, .string ByteArray.empty, .int .i64 0, .int .i64 0, .int .i64 0], false⟩
abbrev tyE25 : TyE := ⟨.struct #[{ name := "Kind", type := 3, offset := 0, embedded := false, tag := "", pkgPath := "", byteOffset := 0 }, { name := "Line", type := 9, offset := 1, embedded := false, tag := "", pkgPath := "", byteOffset := 8 }, { name := "Stop", type := 9, offset := 2, embedded := false, tag := "", pkgPath := "", byteOffset := 24 }, { name := "From", type := 3, offset := 3, embedded := false, tag := "", pkgPath := "", byteOffset := 40 }, { name := "To", type := 3, offset := 4, embedded := false, tag := "", pkgPath := "", byteOffset := 48 }, { name := "Minutes", type := 3, offset := 5, embedded := false, tag := "", pkgPath := "", byteOffset := 56 }], 6, 64, .agg #[.int .i64 0, .string ByteArray.empty, .string ByteArray.empty, .int .i64 0, .int .i64 0, .int .i64 0], true⟩
abbrev tyE33 : TyE := ⟨.slice 25, 1, 24, .slice none 0 0, false⟩
abbrev tyE44 : TyE := ⟨.pointer 47, 1, 8, .pointer none, false⟩
abbrev tyE45 : TyE := ⟨.int .u64, 1, 8, .int .u64 0, false⟩
abbrev tyE46 : TyE := ⟨.struct #[{ name := "code", type := 22, offset := 0, embedded := false, tag := "", pkgPath := "loop.example/g00900/spec", byteOffset := 0 }, { name := "at", type := 3, offset := 1, embedded := false, tag := "", pkgPath := "loop.example/g00900/spec", byteOffset := 24 }, { name := "seed", type := 45, offset := 2, embedded := false, tag := "", pkgPath := "loop.example/g00900/spec", byteOffset := 32 }], 3, 40, .agg #[.slice none 0 0, .int .i64 0, .int .u64 0], true⟩
abbrev tyE47 : TyE := ⟨.struct #[{ name := "code", type := 22, offset := 0, embedded := false, tag := "", pkgPath := "loop.example/g00900/spec", byteOffset := 0 }, { name := "at", type := 3, offset := 1, embedded := false, tag := "", pkgPath := "loop.example/g00900/spec", byteOffset := 24 }, { name := "seed", type := 45, offset := 2, embedded := false, tag := "", pkgPath := "loop.example/g00900/spec", byteOffset := 32 }], 3, 40, .agg #[.slice none 0 0, .int .i64 0, .int .u64 0], true⟩
abbrev tyE50 : TyE := ⟨.pointer 52, 1, 8, .pointer none, false⟩
abbrev tyE51 : TyE := ⟨.struct #[{ name := "s", type := 9, offset := 0, embedded := false, tag := "", pkgPath := "loop.example/g00900/spec", byteOffset := 0 }, { name := "at", type := 3, offset := 1, embedded := false, tag := "", pkgPath := "loop.example/g00900/spec", byteOffset := 16 }, { name := "bad", type := 4, offset := 2, embedded := false, tag := "", pkgPath := "loop.example/g00900/spec", byteOffset := 24 }], 3, 32, .agg #[.string ByteArray.empty, .int .i64 0, .bool false], true⟩
abbrev tyE52 : TyE := ⟨.struct #[{ name := "s", type := 9, offset := 0, embedded := false, tag := "", pkgPath := "loop.example/g00900/spec", byteOffset := 0 }, { name := "at", type := 3, offset := 1, embedded := false, tag := "", pkgPath := "loop.example/g00900/spec", byteOffset := 16 }, { name := "bad", type := 4, offset := 2, embedded := false, tag := "", pkgPath := "loop.example/g00900/spec", byteOffset := 24 }], 3, 32, .agg #[.string ByteArray.empty, .int .i64 0, .bool false], true⟩
abbrev tyE55 : TyE := ⟨.slice 9, 1, 24, .slice none 0 0, false⟩
abbrev tyE67 : TyE := ⟨.slice 3, 1, 24, .slice none 0 0, false⟩
abbrev tyE72 : TyE := ⟨.pointer 74, 1, 8, .pointer none, false⟩
abbrev tyE73 : TyE := ⟨.struct #[{ name := "addr", type := 72, offset := 0, embedded := false, tag := "", pkgPath := "strings", byteOffset := 0 }, { name := "buf", type := 22, offset := 1, embedded := false, tag := "", pkgPath := "strings", byteOffset := 8 }], 2, 32, .agg #[.pointer none, .slice none 0 0], false⟩
abbrev tyE74 : TyE := ⟨.struct #[{ name := "addr", type := 72, offset := 0, embedded := false, tag := "", pkgPath := "strings", byteOffset := 0 }, { name := "buf", type := 22, offset := 1, embedded := false, tag := "", pkgPath := "strings", byteOffset := 8 }], 2, 32, .agg #[.pointer none, .slice none 0 0], false⟩
abbrev tyE87 : TyE := ⟨.array 4 3, 4, 32, .agg #[.int .i64 0, .int .i64 0, .int .i64 0, .int .i64 0], false⟩
abbrev tyE89 : TyE := ⟨.pointer 5, 1, 8, .pointer none, false⟩
abbrev tyE93 : TyE := ⟨.int .u64, 1, 8, .int .u64 0, false⟩
abbrev tyE94 : TyE := ⟨.unsafePointer, 1, 8, .pointer none, false⟩
abbrev tyE101 : TyE := ⟨.array 24 5, 24, 24, .agg #[.int .u8 0, .int .u8 0, .int .u8 0, .int .u8 0, .int .u8 0, .int .u8 0, .int .u8 0, .int .u8 0, .int .u8 0, .int .u8 0, .int .u8 0, .int .u8 0, .int .u8 0, .int .u8 0, .int .u8 0, .int .u8 0, .int .u8 0, .int .u8 0, .int .u8 0, .int .u8 0, .int .u8 0, .int .u8 0, .int .u8 0, .int .u8 0], false⟩
abbrev tyE108 : TyE := ⟨.array 20 45, 20, 160, .agg #[.int .u64 0, .int .u64 0, .int .u64 0, .int .u64 0, .int .u64 0, .int .u64 0, .int .u64 0, .int .u64 0, .int .u64 0, .int .u64 0, .int .u64 0, .int .u64 0, .int .u64 0, .int .u64 0, .int .u64 0, .int .u64 0, .int .u64 0, .int .u64 0, .int .u64 0, .int .u64 0], false⟩
abbrev tyE109 : TyE := ⟨.int .u32, 1, 4, .int .u32 0, false⟩
abbrev tyE110 : TyE := ⟨.array 65 5, 65, 65, .agg #[.int .u8 0, .int .u8 0, .int .u8 0, .int .u8 0, .int .u8 0, .int .u8 0, .int .u8 0, .int .u8 0, .int .u8 0, .int .u8 0, .int .u8 0, .int .u8 0, .int .u8 0, .int .u8 0, .int .u8 0, .int .u8 0, .int .u8 0, .int .u8 0, .int .u8 0, .int .u8 0, .int .u8 0, .int .u8 0, .int .u8 0, .int .u8 0, .int .u8 0, .int .u8 0, .int .u8 0, .int .u8 0, .int .u8 0, .int .u8 0, .int .u8 0, .int .u8 0, .int .u8 0, .int .u8 0, .int .u8 0, .int .u8 0, .int .u8 0, .int .u8 0, .int .u8 0, .int .u8 0, .int .u8 0, .int .u8 0, .int .u8 0, .int .u8 0, .int .u8 0, .int .u8 0, .int .u8 0, .int .u8 0, .int .u8 0, .int .u8 0, .int .u8 0, .int .u8 0, .int .u8 0, .int .u8 0, .int .u8 0, .int .u8 0, .int .u8 0, .int .u8 0, .int .u8 0, .int .u8 0, .int .u8 0, .int .u8 0, .int .u8 0, .int .u8 0, .int .u8 0], false⟩
abbrev tyE113 : TyE := ⟨.struct #[{ name := "lo", type := 5, offset := 0, embedded := false, tag := "", pkgPath := "unicode/utf8", byteOffset := 0 }, { name := "hi", type := 5, offset := 1, embedded := false, tag := "", pkgPath := "unicode/utf8", byteOffset := 1 }], 2, 2, .agg #[.int .u8 0, .int .u8 0], false⟩
abbrev tyE114 : TyE := ⟨.struct #[{ name := "lo", type := 5, offset := 0, embedded := false, tag := "", pkgPath := "unicode/utf8", byteOffset := 0 }, { name := "hi", type := 5, offset := 1, embedded := false, tag := "", pkgPath := "unicode/utf8", byteOffset := 1 }], 2, 2, .agg #[.int .u8 0, .int .u8 0], false⟩
abbrev tyE115 : TyE := ⟨.array 16 114, 32, 32, .agg #[.int .u8 0, .int .u8 0, .int .u8 0, .int .u8 0, .int .u8 0, .int .u8 0, .int .u8 0, .int .u8 0, .int .u8 0, .int .u8 0, .int .u8 0, .int .u8 0, .int .u8 0, .int .u8 0, .int .u8 0, .int .u8 0, .int .u8 0, .int .u8 0, .int .u8 0, .int .u8 0, .int .u8 0, .int .u8 0, .int .u8 0, .int .u8 0, .int .u8 0, .int .u8 0, .int .u8 0, .int .u8 0, .int .u8 0, .int .u8 0, .int .u8 0, .int .u8 0], false⟩
abbrev tyE119 : TyE := ⟨.array 32 5, 32, 32, .agg #[.int .u8 0, .int .u8 0, .int .u8 0, .int .u8 0, .int .u8 0, .int .u8 0, .int .u8 0, .int .u8 0, .int .u8 0, .int .u8 0, .int .u8 0, .int .u8 0, .int .u8 0, .int .u8 0, .int .u8 0, .int .u8 0, .int .u8 0, .int .u8 0, .int .u8 0, .int .u8 0, .int .u8 0, .int .u8 0, .int .u8 0, .int .u8 0, .int .u8 0, .int .u8 0, .int .u8 0, .int .u8 0, .int .u8 0, .int .u8 0, .int .u8 0, .int .u8 0], false⟩
abbrev tyE120 : TyE := ⟨.array 64 5, 64, 64, .agg #[.int .u8 0, .int .u8 0, .int .u8 0, .int .u8 0, .int .u8 0, .int .u8 0, .int .u8 0, .int .u8 0, .int .u8 0, .int .u8 0, .int .u8 0, .int .u8 0, .int .u8 0, .int .u8 0, .int .u8 0, .int .u8 0, .int .u8 0, .int .u8 0, .int .u8 0, .int .u8 0, .int .u8 0, .int .u8 0, .int .u8 0, .int .u8 0, .int .u8 0, .int .u8 0, .int .u8 0, .int .u8 0, .int .u8 0, .int .u8 0, .int .u8 0, .int .u8 0, .int .u8 0, .int .u8 0, .int .u8 0, .int .u8 0, .int .u8 0, .int .u8 0, .int .u8 0, .int .u8 0, .int .u8 0, .int .u8 0, .int .u8 0, .int .u8 0, .int .u8 0, .int .u8 0, .int .u8 0, .int .u8 0, .int .u8 0, .int .u8 0, .int .u8 0, .int .u8 0, .int .u8 0, .int .u8 0, .int .u8 0, .int .u8 0, .int .u8 0, .int .u8 0, .int .u8 0, .int .u8 0, .int .u8 0, .int .u8 0, .int .u8 0, .int .u8 0], false⟩
abbrev tyE121 : TyE := ⟨.struct #[{ name := "_interface", type := 17, offset := 0, embedded := false, tag := "", pkgPath := "runtime", byteOffset := 0 }, { name := "concrete", type := 17, offset := 1, embedded := false, tag := "", pkgPath := "runtime", byteOffset := 8 }, { name := "asserted", type := 17, offset := 2, embedded := false, tag := "", pkgPath := "runtime", byteOffset := 16 }, { name := "missingMethod", type := 9, offset := 3, embedded := false, tag := "", pkgPath := "runtime", byteOffset := 24 }], 4, 40, .agg #[.pointer none, .pointer none, .pointer none, .string ByteArray.empty], false⟩
abbrev tyE124 : TyE := ⟨.struct #[{ name := "_", type := 123, offset := 0, embedded := false, tag := "", pkgPath := "runtime", byteOffset := 0 }], 0, 0, .agg #[], false⟩
abbrev tyE131 : TyE := ⟨.struct #[{ name := "Size_", type := 12, offset := 0, embedded := false, tag := "", pkgPath := "", byteOffset := 0 }, { name := "PtrBytes", type := 12, offset := 1, embedded := false, tag := "", pkgPath := "", byteOffset := 8 }, { name := "Hash", type := 109, offset := 2, embedded := false, tag := "", pkgPath := "", byteOffset := 16 }, { name := "TFlag", type := 126, offset := 3, embedded := false, tag := "", pkgPath := "", byteOffset := 20 }, { name := "Align_", type := 5, offset := 4, embedded := false, tag := "", pkgPath := "", byteOffset := 21 }, { name := "FieldAlign_", type := 5, offset := 5, embedded := false, tag := "", pkgPath := "", byteOffset := 22 }, { name := "Kind_", type := 127, offset := 6, embedded := false, tag := "", pkgPath := "", byteOffset := 23 }, { name := "Equal", type := 128, offset := 7, embedded := false, tag := "", pkgPath := "", byteOffset := 24 }, { name := "GCData", type := 89, offset := 8, embedded := false, tag := "", pkgPath := "", byteOffset := 32 }, { name := "Str", type := 129, offset := 9, embedded := false, tag := "", pkgPath := "", byteOffset := 40 }, { name := "PtrToThis", type := 130, offset := 10, embedded := false, tag := "", pkgPath := "", byteOffset := 44 }], 11, 48, .agg #[.int .u64 0, .int .u64 0, .int .u32 0, .int .u8 0, .int .u8 0, .int .u8 0, .int .u8 0, .nilFunc, .pointer none, .int .i32 0, .int .i32 0], false⟩
def tyL : List (Nat × TyE) := [(2, tyE2), (3, tyE3), (4, tyE4), (5, tyE5), (7, tyE7), (9, tyE9), (12, tyE12), (13, tyE13), (15, tyE15), (16, tyE16), (17, tyE17), (18, tyE18), (21, tyE21), (22, tyE22), (24, tyE24), (25, tyE25), (33, tyE33), (44, tyE44), (45, tyE45), (46, tyE46), (47, tyE47), (50, tyE50), (51, tyE51), (52, tyE52), (55, tyE55), (67, tyE67), (72, tyE72), (73, tyE73), (74, tyE74), (87, tyE87), (89, tyE89), (93, tyE93), (94, tyE94), (101, tyE101), (108, tyE108), (109, tyE109), (110, tyE110), (113, tyE113), (114, tyE114), (115, tyE115), (119, tyE119), (120, tyE120), (121, tyE121), (124, tyE124), (131, tyE131)]
def ty (t : TypeId) : Option TyE := lookT t tyL
@[simp] theorem ty_2 : ty 2 = some tyE2 := rfl
@[simp] theorem ty_3 : ty 3 = some tyE3 := rfl
@[simp] theorem ty_4 : ty 4 = some tyE4 := rfl
@[simp] theorem ty_5 : ty 5 = some tyE5 := rfl
@[simp] theorem ty_7 : ty 7 = some tyE7 := rfl
@[simp] theorem ty_9 : ty 9 = some tyE9 := rfl
@[simp] theorem ty_12 : ty 12 = some tyE12 := rfl
@[simp] theorem ty_13 : ty 13 = some tyE13 := rfl
@[simp] theorem ty_15 : ty 15 = some tyE15 := rfl
@[simp] theorem ty_16 : ty 16 = some tyE16 := rfl
@[simp] theorem ty_17 : ty 17 = some tyE17 := rfl
@[simp] theorem ty_18 : ty 18 = some tyE18 := rfl
@[simp] theorem ty_21 : ty 21 = some tyE21 := rfl
@[simp] theorem ty_22 : ty 22 = some tyE22 := rfl
@[simp] theorem ty_24 : ty 24 = some tyE24 := rfl
@[simp] theorem ty_25 : ty 25 = some tyE25 := rfl
@[simp] theorem ty_33 : ty 33 = some tyE33 := rfl
@[simp] theorem ty_44 : ty 44 = some tyE44 := rfl
@[simp] theorem ty_45 : ty 45 = some tyE45 := rfl
@[simp] theorem ty_46 : ty 46 = some tyE46 := rfl
@[simp] theorem ty_47 : ty 47 = some tyE47 := rfl
@[simp] theorem ty_50 : ty 50 = some tyE50 := rfl
@[simp] theorem ty_51 : ty 51 = some tyE51 := rfl
@[simp] theorem ty_52 : ty 52 = some tyE52 := rfl
@[simp] theorem ty_55 : ty 55 = some tyE55 := rfl
@[simp] theorem ty_67 : ty 67 = some tyE67 := rfl
@[simp] theorem ty_72 : ty 72 = some tyE72 := rfl
@[simp] theorem ty_73 : ty 73 = some tyE73 := rfl
@[simp] theorem ty_74 : ty 74 = some tyE74 := rfl
@[simp] theorem ty_87 : ty 87 = some tyE87 := rfl
@[simp] theorem ty_89 : ty 89 = some tyE89 := rfl
@[simp] theorem ty_93 : ty 93 = some tyE93 := rfl
@[simp] theorem ty_94 : ty 94 = some tyE94 := rfl
@[simp] theorem ty_101 : ty 101 = some tyE101 := rfl
@[simp] theorem ty_108 : ty 108 = some tyE108 := rfl
@[simp] theorem ty_109 : ty 109 = some tyE109 := rfl
@[simp] theorem ty_110 : ty 110 = some tyE110 := rfl
@[simp] theorem ty_113 : ty 113 = some tyE113 := rfl
@[simp] theorem ty_114 : ty 114 = some tyE114 := rfl
@[simp] theorem ty_115 : ty 115 = some tyE115 := rfl
@[simp] theorem ty_119 : ty 119 = some tyE119 := rfl
@[simp] theorem ty_120 : ty 120 = some tyE120 := rfl
@[simp] theorem ty_121 : ty 121 = some tyE121 := rfl
@[simp] theorem ty_124 : ty 124 = some tyE124 := rfl
@[simp] theorem ty_131 : ty 131 = some tyE131 := rfl
theorem tyOK_2 : TyOK Tryz.prog 2 tyE2 := ⟨Tryz.underlying2, Tryz.t2, Tryz.type2, rfl, rfl, rfl, fun h => by cases h⟩
theorem tyOK_3 : TyOK Tryz.prog 3 tyE3 := ⟨Tryz.underlying3, Tryz.t3, Tryz.type3, rfl, rfl, rfl, fun h => by cases h⟩
theorem tyOK_4 : TyOK Tryz.prog 4 tyE4 := ⟨Tryz.underlying4, Tryz.t4, Tryz.type4, rfl, rfl, rfl, fun h => by cases h⟩
theorem tyOK_5 : TyOK Tryz.prog 5 tyE5 := ⟨Tryz.underlying5, Tryz.t5, Tryz.type5, rfl, rfl, rfl, fun h => by cases h⟩
theorem tyOK_7 : TyOK Tryz.prog 7 tyE7 := ⟨Tryz.underlying7, Tryz.t7, Tryz.type7, rfl, rfl, rfl, fun h => by cases h⟩
theorem tyOK_9 : TyOK Tryz.prog 9 tyE9 := ⟨Tryz.underlying9, Tryz.t9, Tryz.type9, rfl, rfl, rfl, fun h => by cases h⟩
theorem tyOK_12 : TyOK Tryz.prog 12 tyE12 := ⟨Tryz.underlying12, Tryz.t12, Tryz.type12, rfl, rfl, rfl, fun h => by cases h⟩
theorem tyOK_13 : TyOK Tryz.prog 13 tyE13 := ⟨Tryz.underlying13, Tryz.t13, Tryz.type13, rfl, rfl, rfl, fun h => by cases h⟩
theorem tyOK_15 : TyOK Tryz.prog 15 tyE15 := ⟨Tryz.underlying15, Tryz.t15, Tryz.type15, rfl, rfl, rfl, fun h => by cases h⟩
theorem tyOK_16 : TyOK Tryz.prog 16 tyE16 := ⟨Tryz.underlying16, Tryz.t16, Tryz.type16, rfl, rfl, rfl, fun h => by cases h⟩
theorem tyOK_17 : TyOK Tryz.prog 17 tyE17 := ⟨Tryz.underlying17, Tryz.t17, Tryz.type17, rfl, rfl, rfl, fun h => by cases h⟩
theorem tyOK_18 : TyOK Tryz.prog 18 tyE18 := ⟨Tryz.underlying18, Tryz.t18, Tryz.type18, rfl, rfl, rfl, fun h => by cases h⟩
theorem tyOK_21 : TyOK Tryz.prog 21 tyE21 := ⟨Tryz.underlying21, Tryz.t21, Tryz.type21, rfl, rfl, rfl, fun h => by cases h⟩
theorem tyOK_22 : TyOK Tryz.prog 22 tyE22 := ⟨Tryz.underlying22, Tryz.t22, Tryz.type22, rfl, rfl, rfl, fun h => by cases h⟩
theorem tyOK_24 : TyOK Tryz.prog 24 tyE24 := ⟨Tryz.underlying24, Tryz.t24, Tryz.type24, rfl, rfl, rfl, fun h => by cases h⟩
theorem tyOK_25 : TyOK Tryz.prog 25 tyE25 := ⟨Tryz.underlying25, Tryz.t25, Tryz.type25, rfl, rfl, rfl, fun _ => ⟨by kernel_rfl, by kernel_rfl, by rintro _ ⟨⟩; rfl⟩⟩
theorem tyOK_33 : TyOK Tryz.prog 33 tyE33 := ⟨Tryz.underlying33, Tryz.t33, Tryz.type33, rfl, rfl, rfl, fun h => by cases h⟩
theorem tyOK_44 : TyOK Tryz.prog 44 tyE44 := ⟨Tryz.underlying44, Tryz.t44, Tryz.type44, rfl, rfl, rfl, fun h => by cases h⟩
theorem tyOK_45 : TyOK Tryz.prog 45 tyE45 := ⟨Tryz.underlying45, Tryz.t45, Tryz.type45, rfl, rfl, rfl, fun h => by cases h⟩
theorem tyOK_46 : TyOK Tryz.prog 46 tyE46 := ⟨Tryz.underlying46, Tryz.t46, Tryz.type46, rfl, rfl, rfl, fun _ => ⟨by kernel_rfl, by kernel_rfl, by rintro _ ⟨⟩; rfl⟩⟩
theorem tyOK_47 : TyOK Tryz.prog 47 tyE47 := ⟨Tryz.underlying47, Tryz.t47, Tryz.type47, rfl, rfl, rfl, fun _ => ⟨by kernel_rfl, by kernel_rfl, by rintro _ ⟨⟩; rfl⟩⟩
theorem tyOK_50 : TyOK Tryz.prog 50 tyE50 := ⟨Tryz.underlying50, Tryz.t50, Tryz.type50, rfl, rfl, rfl, fun h => by cases h⟩
theorem tyOK_51 : TyOK Tryz.prog 51 tyE51 := ⟨Tryz.underlying51, Tryz.t51, Tryz.type51, rfl, rfl, rfl, fun _ => ⟨by kernel_rfl, by kernel_rfl, by rintro _ ⟨⟩; rfl⟩⟩
theorem tyOK_52 : TyOK Tryz.prog 52 tyE52 := ⟨Tryz.underlying52, Tryz.t52, Tryz.type52, rfl, rfl, rfl, fun _ => ⟨by kernel_rfl, by kernel_rfl, by rintro _ ⟨⟩; rfl⟩⟩
theorem tyOK_55 : TyOK Tryz.prog 55 tyE55 := ⟨Tryz.underlying55, Tryz.t55, Tryz.type55, rfl, rfl, rfl, fun h => by cases h⟩
theorem tyOK_67 : TyOK Tryz.prog 67 tyE67 := ⟨Tryz.underlying67, Tryz.t67, Tryz.type67, rfl, rfl, rfl, fun h => by cases h⟩
theorem tyOK_72 : TyOK Tryz.prog 72 tyE72 := ⟨Tryz.underlying72, Tryz.t72, Tryz.type72, rfl, rfl, rfl, fun h => by cases h⟩
theorem tyOK_73 : TyOK Tryz.prog 73 tyE73 := ⟨Tryz.underlying73, Tryz.t73, Tryz.type73, rfl, rfl, rfl, fun h => by cases h⟩
theorem tyOK_74 : TyOK Tryz.prog 74 tyE74 := ⟨Tryz.underlying74, Tryz.t74, Tryz.type74, rfl, rfl, rfl, fun h => by cases h⟩
theorem tyOK_87 : TyOK Tryz.prog 87 tyE87 := ⟨Tryz.underlying87, Tryz.t87, Tryz.type87, rfl, rfl, rfl, fun h => by cases h⟩
theorem tyOK_89 : TyOK Tryz.prog 89 tyE89 := ⟨Tryz.underlying89, Tryz.t89, Tryz.type89, rfl, rfl, rfl, fun h => by cases h⟩
theorem tyOK_93 : TyOK Tryz.prog 93 tyE93 := ⟨Tryz.underlying93, Tryz.t93, Tryz.type93, rfl, rfl, rfl, fun h => by cases h⟩
theorem tyOK_94 : TyOK Tryz.prog 94 tyE94 := ⟨Tryz.underlying94, Tryz.t94, Tryz.type94, rfl, rfl, rfl, fun h => by cases h⟩
theorem tyOK_101 : TyOK Tryz.prog 101 tyE101 := ⟨Tryz.underlying101, Tryz.t101, Tryz.type101, rfl, rfl, rfl, fun h => by cases h⟩
theorem tyOK_108 : TyOK Tryz.prog 108 tyE108 := ⟨Tryz.underlying108, Tryz.t108, Tryz.type108, rfl, rfl, rfl, fun h => by cases h⟩
theorem tyOK_109 : TyOK Tryz.prog 109 tyE109 := ⟨Tryz.underlying109, Tryz.t109, Tryz.type109, rfl, rfl, rfl, fun h => by cases h⟩
theorem tyOK_110 : TyOK Tryz.prog 110 tyE110 := ⟨Tryz.underlying110, Tryz.t110, Tryz.type110, rfl, rfl, rfl, fun h => by cases h⟩
theorem tyOK_113 : TyOK Tryz.prog 113 tyE113 := ⟨Tryz.underlying113, Tryz.t113, Tryz.type113, rfl, rfl, rfl, fun h => by cases h⟩
theorem tyOK_114 : TyOK Tryz.prog 114 tyE114 := ⟨Tryz.underlying114, Tryz.t114, Tryz.type114, rfl, rfl, rfl, fun h => by cases h⟩
theorem tyOK_115 : TyOK Tryz.prog 115 tyE115 := ⟨Tryz.underlying115, Tryz.t115, Tryz.type115, rfl, rfl, rfl, fun h => by cases h⟩
theorem tyOK_119 : TyOK Tryz.prog 119 tyE119 := ⟨Tryz.underlying119, Tryz.t119, Tryz.type119, rfl, rfl, rfl, fun h => by cases h⟩
theorem tyOK_120 : TyOK Tryz.prog 120 tyE120 := ⟨Tryz.underlying120, Tryz.t120, Tryz.type120, rfl, rfl, rfl, fun h => by cases h⟩
theorem tyOK_121 : TyOK Tryz.prog 121 tyE121 := ⟨Tryz.underlying121, Tryz.t121, Tryz.type121, rfl, rfl, rfl, fun h => by cases h⟩
theorem tyOK_124 : TyOK Tryz.prog 124 tyE124 := ⟨Tryz.underlying124, Tryz.t124, Tryz.type124, rfl, rfl, rfl, fun h => by cases h⟩
theorem tyOK_131 : TyOK Tryz.prog 131 tyE131 := ⟨Tryz.underlying131, Tryz.t131, Tryz.type131, rfl, rfl, rfl, fun h => by cases h⟩
theorem ty_ok : ∀ t x, ty t = some x → TyOK Tryz.prog t x := lookT_ok (allT_cons tyOK_2 (allT_cons tyOK_3 (allT_cons tyOK_4 (allT_cons tyOK_5 (allT_cons tyOK_7 (allT_cons tyOK_9 (allT_cons tyOK_12 (allT_cons tyOK_13 (allT_cons tyOK_15 (allT_cons tyOK_16 (allT_cons tyOK_17 (allT_cons tyOK_18 (allT_cons tyOK_21 (allT_cons tyOK_22 (allT_cons tyOK_24 (allT_cons tyOK_25 (allT_cons tyOK_33 (allT_cons tyOK_44 (allT_cons tyOK_45 (allT_cons tyOK_46 (allT_cons tyOK_47 (allT_cons tyOK_50 (allT_cons tyOK_51 (allT_cons tyOK_52 (allT_cons tyOK_55 (allT_cons tyOK_67 (allT_cons tyOK_72 (allT_cons tyOK_73 (allT_cons tyOK_74 (allT_cons tyOK_87 (allT_cons tyOK_89 (allT_cons tyOK_93 (allT_cons tyOK_94 (allT_cons tyOK_101 (allT_cons tyOK_108 (allT_cons tyOK_109 (allT_cons tyOK_110 (allT_cons tyOK_113 (allT_cons tyOK_114 (allT_cons tyOK_115 (allT_cons tyOK_119 (allT_cons tyOK_120 (allT_cons tyOK_121 (allT_cons tyOK_124 (allT_cons tyOK_131 allT_nil)))))))))))))))))))))))))))))))))))))))))))))
end Go.Proofs.YteieacgaipcnoaaGreatDoor
