/- The types of the seat as a table. Made by program (genty.py). -/
import Derived.Test.YtbedhobglodjbaaDoorProg
import Derived.Test.YtbedhobglodjbaaDoorAbSpec
import Derived.KernelRfl
namespace Go.Proofs.YtbedhobglodjbaaDoor
open Go Go.Ab
set_option maxRecDepth 100000

abbrev tyE2 : TyE := ⟨.int .i64, 1, 8, .int .i64 0, false⟩
abbrev tyE3 : TyE := ⟨.int .i64, 1, 8, .int .i64 0, false⟩
abbrev tyE4 : TyE := ⟨.bool, 1, 1, .bool false, false⟩
abbrev tyE5 : TyE := ⟨.int .u8, 1, 1, .int .u8 0, false⟩
abbrev tyE7 : TyE := ⟨.struct #[{ name := "x", type := 2, offset := 0, embedded := false, tag := "", pkgPath := "runtime", byteOffset := 0 }, { name := "y", type := 3, offset := 1, embedded := false, tag := "", pkgPath := "runtime", byteOffset := 8 }, { name := "signed", type := 4, offset := 2, embedded := false, tag := "", pkgPath := "runtime", byteOffset := 16 }, { name := "code", type := 6, offset := 3, embedded := false, tag := "", pkgPath := "runtime", byteOffset := 17 }], 4, 24, .agg #[.int .i64 0, .int .i64 0, .bool false, .int .u8 0], false⟩
abbrev tyE9 : TyE := ⟨.string, 1, 16, .string ByteArray.empty, false⟩
abbrev tyE12 : TyE := ⟨.int .u64, 1, 8, .int .u64 0, false⟩
abbrev tyE13 : TyE := ⟨.struct #[{ name := "msg", type := 9, offset := 0, embedded := false, tag := "", pkgPath := "runtime", byteOffset := 0 }, { name := "addr", type := 12, offset := 1, embedded := false, tag := "", pkgPath := "runtime", byteOffset := 16 }], 2, 24, .agg #[.string ByteArray.empty, .int .u64 0], false⟩
abbrev tyE15 : TyE := ⟨.pointer 192, 1, 8, .pointer none, false⟩
abbrev tyE16 : TyE := ⟨.pointer 195, 1, 8, .pointer none, false⟩
abbrev tyE17 : TyE := ⟨.pointer 202, 1, 8, .pointer none, false⟩
abbrev tyE18 : TyE := ⟨.struct #[{ name := "typ", type := 17, offset := 0, embedded := false, tag := "", pkgPath := "internal/runtime/maps", byteOffset := 0 }], 1, 8, .agg #[.pointer none], false⟩
abbrev tyE21 : TyE := ⟨.int .i32, 1, 4, .int .i32 0, false⟩
abbrev tyE22 : TyE := ⟨.slice 5, 1, 24, .slice none 0 0, false⟩
abbrev tyE26 : TyE := ⟨.slice 9, 1, 24, .slice none 0 0, false⟩
abbrev tyE41 : TyE := ⟨.struct #[{ name := "Durable", type := 9, offset := 0, embedded := false, tag := "", pkgPath := "", byteOffset := 0 }, { name := "Pending", type := 9, offset := 1, embedded := false, tag := "", pkgPath := "", byteOffset := 16 }, { name := "Count", type := 3, offset := 2, embedded := false, tag := "", pkgPath := "", byteOffset := 32 }], 3, 40, .agg #[.string ByteArray.empty, .string ByteArray.empty, .int .i64 0], false⟩
abbrev tyE42 : TyE := ⟨.struct #[{ name := "Durable", type := 9, offset := 0, embedded := false, tag := "", pkgPath := "", byteOffset := 0 }, { name := "Pending", type := 9, offset := 1, embedded := false, tag := "", pkgPath := "", byteOffset := 16 }, { name := "Count", type := 3, offset := 2, embedded := false, tag := "", pkgPath := "", byteOffset := 32 }], 3, 40, .agg #[.string ByteArray.empty, .string ByteArray.empty, .int .i64 0], true⟩
abbrev tyE43 : TyE := ⟨.struct #[{ name := "Command", type := 9, offset := 0, embedded := false, tag := "", pkgPath := "", byteOffset := 0 }, { name := "Reply", type := 9, offset := 1, embedded := false, tag := "", pkgPath := "", byteOffset := 16 }], 2, 32, .agg #[.string ByteArray.empty, .string ByteArray.empty], false⟩
abbrev tyE44 : TyE := ⟨.struct #[{ name := "Command", type := 9, offset := 0, embedded := false, tag := "", pkgPath := "", byteOffset := 0 }, { name := "Reply", type := 9, offset := 1, embedded := false, tag := "", pkgPath := "", byteOffset := 16 }], 2, 32, .agg #[.string ByteArray.empty, .string ByteArray.empty], true⟩
abbrev tyE51 : TyE := ⟨.slice 44, 1, 24, .slice none 0 0, false⟩
abbrev tyE63 : TyE := ⟨.struct #[{ name := "Kind", type := 3, offset := 0, embedded := false, tag := "", pkgPath := "", byteOffset := 0 }, { name := "Line", type := 9, offset := 1, embedded := false, tag := "", pkgPath := "", byteOffset := 8 }, { name := "Stop", type := 9, offset := 2, embedded := false, tag := "", pkgPath := "", byteOffset := 24 }, { name := "From", type := 3, offset := 3, embedded := false, tag := "", pkgPath := "", byteOffset := 40 }, { name := "To", type := 3, offset := 4, embedded := false, tag := "", pkgPath := "", byteOffset := 48 }, { name := "Minutes", type := 3, offset := 5, embedded := false, tag := "", pkgPath := "", byteOffset := 56 }], 6, 64, .agg #[.int .i64 0, .string ByteArray.empty, .string ByteArray.empty, .int .i64 0, .int .i64 0, .int .i64 0], false⟩
abbrev tyE64 : TyE := ⟨.struct #[{ name := "Kind", type := 3, offset := 0, embedded := false, tag := "", pkgPath := "", byteOffset := 0 }, { name := "Line", type := 9, offset := 1, embedded := false, tag := "", pkgPath := "", byteOffset := 8 }, { name := "Stop", type := 9, offset := 2, embedded := false, tag := "", pkgPath := "", byteOffset := 24 }, { name := "From", type := 3, offset := 3, embedded := false, tag := "", pkgPath := "", byteOffset := 40 }, { name := "To", type := 3, offset := 4, embedded := false, tag := "", pkgPath := "", byteOffset := 48 }, { name := "Minutes", type := 3, offset := 5, embedded := false, tag := "", pkgPath := "", byteOffset := 56 }], 6, 64, .agg #[.int .i64 0, .string ByteArray.empty, .string ByteArray.empty, .int .i64 0, .int .i64 0, .int .i64 0], true⟩
abbrev tyE69 : TyE := ⟨.slice 64, 1, 24, .slice none 0 0, false⟩
abbrev tyE74 : TyE := ⟨.slice 3, 1, 24, .slice none 0 0, false⟩
abbrev tyE75 : TyE := ⟨.struct #[{ name := "From", type := 3, offset := 0, embedded := false, tag := "", pkgPath := "", byteOffset := 0 }, { name := "To", type := 3, offset := 1, embedded := false, tag := "", pkgPath := "", byteOffset := 8 }, { name := "Weekdays", type := 3, offset := 2, embedded := false, tag := "", pkgPath := "", byteOffset := 16 }, { name := "Added", type := 74, offset := 3, embedded := false, tag := "", pkgPath := "", byteOffset := 24 }, { name := "Removed", type := 74, offset := 4, embedded := false, tag := "", pkgPath := "", byteOffset := 48 }], 5, 72, .agg #[.int .i64 0, .int .i64 0, .int .i64 0, .slice none 0 0, .slice none 0 0], false⟩
abbrev tyE76 : TyE := ⟨.struct #[{ name := "From", type := 3, offset := 0, embedded := false, tag := "", pkgPath := "", byteOffset := 0 }, { name := "To", type := 3, offset := 1, embedded := false, tag := "", pkgPath := "", byteOffset := 8 }, { name := "Weekdays", type := 3, offset := 2, embedded := false, tag := "", pkgPath := "", byteOffset := 16 }, { name := "Added", type := 74, offset := 3, embedded := false, tag := "", pkgPath := "", byteOffset := 24 }, { name := "Removed", type := 74, offset := 4, embedded := false, tag := "", pkgPath := "", byteOffset := 48 }], 5, 72, .agg #[.int .i64 0, .int .i64 0, .int .i64 0, .slice none 0 0, .slice none 0 0], true⟩
abbrev tyE87 : TyE := ⟨.pointer 90, 1, 8, .pointer none, false⟩
abbrev tyE88 : TyE := ⟨.int .u64, 1, 8, .int .u64 0, false⟩
abbrev tyE89 : TyE := ⟨.struct #[{ name := "code", type := 22, offset := 0, embedded := false, tag := "", pkgPath := "loop.example/g00900/spec", byteOffset := 0 }, { name := "at", type := 3, offset := 1, embedded := false, tag := "", pkgPath := "loop.example/g00900/spec", byteOffset := 24 }, { name := "seed", type := 88, offset := 2, embedded := false, tag := "", pkgPath := "loop.example/g00900/spec", byteOffset := 32 }], 3, 40, .agg #[.slice none 0 0, .int .i64 0, .int .u64 0], true⟩
abbrev tyE90 : TyE := ⟨.struct #[{ name := "code", type := 22, offset := 0, embedded := false, tag := "", pkgPath := "loop.example/g00900/spec", byteOffset := 0 }, { name := "at", type := 3, offset := 1, embedded := false, tag := "", pkgPath := "loop.example/g00900/spec", byteOffset := 24 }, { name := "seed", type := 88, offset := 2, embedded := false, tag := "", pkgPath := "loop.example/g00900/spec", byteOffset := 32 }], 3, 40, .agg #[.slice none 0 0, .int .i64 0, .int .u64 0], true⟩
abbrev tyE116 : TyE := ⟨.pointer 118, 1, 8, .pointer none, false⟩
abbrev tyE117 : TyE := ⟨.struct #[{ name := "s", type := 9, offset := 0, embedded := false, tag := "", pkgPath := "loop.example/g00900/spec", byteOffset := 0 }, { name := "at", type := 3, offset := 1, embedded := false, tag := "", pkgPath := "loop.example/g00900/spec", byteOffset := 16 }, { name := "bad", type := 4, offset := 2, embedded := false, tag := "", pkgPath := "loop.example/g00900/spec", byteOffset := 24 }], 3, 32, .agg #[.string ByteArray.empty, .int .i64 0, .bool false], true⟩
abbrev tyE118 : TyE := ⟨.struct #[{ name := "s", type := 9, offset := 0, embedded := false, tag := "", pkgPath := "loop.example/g00900/spec", byteOffset := 0 }, { name := "at", type := 3, offset := 1, embedded := false, tag := "", pkgPath := "loop.example/g00900/spec", byteOffset := 16 }, { name := "bad", type := 4, offset := 2, embedded := false, tag := "", pkgPath := "loop.example/g00900/spec", byteOffset := 24 }], 3, 32, .agg #[.string ByteArray.empty, .int .i64 0, .bool false], true⟩
abbrev tyE136 : TyE := ⟨.int .u64, 1, 8, .int .u64 0, false⟩
abbrev tyE140 : TyE := ⟨.pointer 142, 1, 8, .pointer none, false⟩
abbrev tyE141 : TyE := ⟨.struct #[{ name := "addr", type := 140, offset := 0, embedded := false, tag := "", pkgPath := "strings", byteOffset := 0 }, { name := "buf", type := 22, offset := 1, embedded := false, tag := "", pkgPath := "strings", byteOffset := 8 }], 2, 32, .agg #[.pointer none, .slice none 0 0], false⟩
abbrev tyE142 : TyE := ⟨.struct #[{ name := "addr", type := 140, offset := 0, embedded := false, tag := "", pkgPath := "strings", byteOffset := 0 }, { name := "buf", type := 22, offset := 1, embedded := false, tag := "", pkgPath := "strings", byteOffset := 8 }], 2, 32, .agg #[.pointer none, .slice none 0 0], false⟩
abbrev tyE160 : TyE := ⟨.pointer 5, 1, 8, .pointer none, false⟩
abbrev tyE162 : TyE := ⟨.array 4 3, 4, 32, .agg #[.int .i64 0, .int .i64 0, .int .i64 0, .int .i64 0], false⟩
abbrev tyE168 : TyE := ⟨.unsafePointer, 1, 8, .pointer none, false⟩
abbrev tyE171 : TyE := ⟨.array 24 5, 24, 24, .agg #[.int .u8 0, .int .u8 0, .int .u8 0, .int .u8 0, .int .u8 0, .int .u8 0, .int .u8 0, .int .u8 0, .int .u8 0, .int .u8 0, .int .u8 0, .int .u8 0, .int .u8 0, .int .u8 0, .int .u8 0, .int .u8 0, .int .u8 0, .int .u8 0, .int .u8 0, .int .u8 0, .int .u8 0, .int .u8 0, .int .u8 0, .int .u8 0], false⟩
abbrev tyE176 : TyE := ⟨.int .u32, 1, 4, .int .u32 0, false⟩
abbrev tyE180 : TyE := ⟨.array 20 88, 20, 160, .agg #[.int .u64 0, .int .u64 0, .int .u64 0, .int .u64 0, .int .u64 0, .int .u64 0, .int .u64 0, .int .u64 0, .int .u64 0, .int .u64 0, .int .u64 0, .int .u64 0, .int .u64 0, .int .u64 0, .int .u64 0, .int .u64 0, .int .u64 0, .int .u64 0, .int .u64 0, .int .u64 0], false⟩
abbrev tyE181 : TyE := ⟨.array 65 5, 65, 65, .agg #[.int .u8 0, .int .u8 0, .int .u8 0, .int .u8 0, .int .u8 0, .int .u8 0, .int .u8 0, .int .u8 0, .int .u8 0, .int .u8 0, .int .u8 0, .int .u8 0, .int .u8 0, .int .u8 0, .int .u8 0, .int .u8 0, .int .u8 0, .int .u8 0, .int .u8 0, .int .u8 0, .int .u8 0, .int .u8 0, .int .u8 0, .int .u8 0, .int .u8 0, .int .u8 0, .int .u8 0, .int .u8 0, .int .u8 0, .int .u8 0, .int .u8 0, .int .u8 0, .int .u8 0, .int .u8 0, .int .u8 0, .int .u8 0, .int .u8 0, .int .u8 0, .int .u8 0, .int .u8 0, .int .u8 0, .int .u8 0, .int .u8 0, .int .u8 0, .int .u8 0, .int .u8 0, .int .u8 0, .int .u8 0, .int .u8 0, .int .u8 0, .int .u8 0, .int .u8 0, .int .u8 0, .int .u8 0, .int .u8 0, .int .u8 0, .int .u8 0, .int .u8 0, .int .u8 0, .int .u8 0, .int .u8 0, .int .u8 0, .int .u8 0, .int .u8 0, .int .u8 0], false⟩
abbrev tyE185 : TyE := ⟨.struct #[{ name := "lo", type := 5, offset := 0, embedded := false, tag := "", pkgPath := "unicode/utf8", byteOffset := 0 }, { name := "hi", type := 5, offset := 1, embedded := false, tag := "", pkgPath := "unicode/utf8", byteOffset := 1 }], 2, 2, .agg #[.int .u8 0, .int .u8 0], false⟩
abbrev tyE186 : TyE := ⟨.struct #[{ name := "lo", type := 5, offset := 0, embedded := false, tag := "", pkgPath := "unicode/utf8", byteOffset := 0 }, { name := "hi", type := 5, offset := 1, embedded := false, tag := "", pkgPath := "unicode/utf8", byteOffset := 1 }], 2, 2, .agg #[.int .u8 0, .int .u8 0], false⟩
abbrev tyE187 : TyE := ⟨.array 16 186, 32, 32, .agg #[.int .u8 0, .int .u8 0, .int .u8 0, .int .u8 0, .int .u8 0, .int .u8 0, .int .u8 0, .int .u8 0, .int .u8 0, .int .u8 0, .int .u8 0, .int .u8 0, .int .u8 0, .int .u8 0, .int .u8 0, .int .u8 0, .int .u8 0, .int .u8 0, .int .u8 0, .int .u8 0, .int .u8 0, .int .u8 0, .int .u8 0, .int .u8 0, .int .u8 0, .int .u8 0, .int .u8 0, .int .u8 0, .int .u8 0, .int .u8 0, .int .u8 0, .int .u8 0], false⟩
abbrev tyE189 : TyE := ⟨.array 32 5, 32, 32, .agg #[.int .u8 0, .int .u8 0, .int .u8 0, .int .u8 0, .int .u8 0, .int .u8 0, .int .u8 0, .int .u8 0, .int .u8 0, .int .u8 0, .int .u8 0, .int .u8 0, .int .u8 0, .int .u8 0, .int .u8 0, .int .u8 0, .int .u8 0, .int .u8 0, .int .u8 0, .int .u8 0, .int .u8 0, .int .u8 0, .int .u8 0, .int .u8 0, .int .u8 0, .int .u8 0, .int .u8 0, .int .u8 0, .int .u8 0, .int .u8 0, .int .u8 0, .int .u8 0], false⟩
abbrev tyE190 : TyE := ⟨.array 64 5, 64, 64, .agg #[.int .u8 0, .int .u8 0, .int .u8 0, .int .u8 0, .int .u8 0, .int .u8 0, .int .u8 0, .int .u8 0, .int .u8 0, .int .u8 0, .int .u8 0, .int .u8 0, .int .u8 0, .int .u8 0, .int .u8 0, .int .u8 0, .int .u8 0, .int .u8 0, .int .u8 0, .int .u8 0, .int .u8 0, .int .u8 0, .int .u8 0, .int .u8 0, .int .u8 0, .int .u8 0, .int .u8 0, .int .u8 0, .int .u8 0, .int .u8 0, .int .u8 0, .int .u8 0, .int .u8 0, .int .u8 0, .int .u8 0, .int .u8 0, .int .u8 0, .int .u8 0, .int .u8 0, .int .u8 0, .int .u8 0, .int .u8 0, .int .u8 0, .int .u8 0, .int .u8 0, .int .u8 0, .int .u8 0, .int .u8 0, .int .u8 0, .int .u8 0, .int .u8 0, .int .u8 0, .int .u8 0, .int .u8 0, .int .u8 0, .int .u8 0, .int .u8 0, .int .u8 0, .int .u8 0, .int .u8 0, .int .u8 0, .int .u8 0, .int .u8 0, .int .u8 0], false⟩
abbrev tyE191 : TyE := ⟨.struct #[{ name := "_interface", type := 17, offset := 0, embedded := false, tag := "", pkgPath := "runtime", byteOffset := 0 }, { name := "concrete", type := 17, offset := 1, embedded := false, tag := "", pkgPath := "runtime", byteOffset := 8 }, { name := "asserted", type := 17, offset := 2, embedded := false, tag := "", pkgPath := "runtime", byteOffset := 16 }, { name := "missingMethod", type := 9, offset := 3, embedded := false, tag := "", pkgPath := "runtime", byteOffset := 24 }], 4, 40, .agg #[.pointer none, .pointer none, .pointer none, .string ByteArray.empty], false⟩
abbrev tyE194 : TyE := ⟨.struct #[{ name := "_", type := 193, offset := 0, embedded := false, tag := "", pkgPath := "runtime", byteOffset := 0 }], 0, 0, .agg #[], false⟩
abbrev tyE201 : TyE := ⟨.struct #[{ name := "Size_", type := 12, offset := 0, embedded := false, tag := "", pkgPath := "", byteOffset := 0 }, { name := "PtrBytes", type := 12, offset := 1, embedded := false, tag := "", pkgPath := "", byteOffset := 8 }, { name := "Hash", type := 176, offset := 2, embedded := false, tag := "", pkgPath := "", byteOffset := 16 }, { name := "TFlag", type := 196, offset := 3, embedded := false, tag := "", pkgPath := "", byteOffset := 20 }, { name := "Align_", type := 5, offset := 4, embedded := false, tag := "", pkgPath := "", byteOffset := 21 }, { name := "FieldAlign_", type := 5, offset := 5, embedded := false, tag := "", pkgPath := "", byteOffset := 22 }, { name := "Kind_", type := 197, offset := 6, embedded := false, tag := "", pkgPath := "", byteOffset := 23 }, { name := "Equal", type := 198, offset := 7, embedded := false, tag := "", pkgPath := "", byteOffset := 24 }, { name := "GCData", type := 160, offset := 8, embedded := false, tag := "", pkgPath := "", byteOffset := 32 }, { name := "Str", type := 199, offset := 9, embedded := false, tag := "", pkgPath := "", byteOffset := 40 }, { name := "PtrToThis", type := 200, offset := 10, embedded := false, tag := "", pkgPath := "", byteOffset := 44 }], 11, 48, .agg #[.int .u64 0, .int .u64 0, .int .u32 0, .int .u8 0, .int .u8 0, .int .u8 0, .int .u8 0, .nilFunc, .pointer none, .int .i32 0, .int .i32 0], false⟩
def tyL : List (Nat × TyE) := [(2, tyE2), (3, tyE3), (4, tyE4), (5, tyE5), (7, tyE7), (9, tyE9), (12, tyE12), (13, tyE13), (15, tyE15), (16, tyE16), (17, tyE17), (18, tyE18), (21, tyE21), (22, tyE22), (26, tyE26), (41, tyE41), (42, tyE42), (43, tyE43), (44, tyE44), (51, tyE51), (63, tyE63), (64, tyE64), (69, tyE69), (74, tyE74), (75, tyE75), (76, tyE76), (87, tyE87), (88, tyE88), (89, tyE89), (90, tyE90), (116, tyE116), (117, tyE117), (118, tyE118), (136, tyE136), (140, tyE140), (141, tyE141), (142, tyE142), (160, tyE160), (162, tyE162), (168, tyE168), (171, tyE171), (176, tyE176), (180, tyE180), (181, tyE181), (185, tyE185), (186, tyE186), (187, tyE187), (189, tyE189), (190, tyE190), (191, tyE191), (194, tyE194), (201, tyE201)]
def ty (t : TypeId) : Option TyE := lookT t tyL
@[simp] theorem ty_2 : ty 2 = some tyE2 := rfl
@[simp] theorem ty_3 : ty 3 = some tyE3 := rfl
@[simp] theorem ty_4 : ty 4 = some tyE4 := rfl
@[simp] theorem ty_5 : ty 5 = some tyE5 := rfl
@[simp] theorem ty_7 : ty 7 = some tyE7 := rfl
@[simp] theorem ty_9 : ty 9 = some tyE9 := rfl
@[simp] theorem ty_12 : ty 12 = some tyE12 := rfl
@[simp] theorem ty_13 : ty 13 = some tyE13 := rfl
@[simp] theorem ty_15 : ty 15 = some tyE15 := rfl
@[simp] theorem ty_16 : ty 16 = some tyE16 := rfl
@[simp] theorem ty_17 : ty 17 = some tyE17 := rfl
@[simp] theorem ty_18 : ty 18 = some tyE18 := rfl
@[simp] theorem ty_21 : ty 21 = some tyE21 := rfl
@[simp] theorem ty_22 : ty 22 = some tyE22 := rfl
@[simp] theorem ty_26 : ty 26 = some tyE26 := rfl
@[simp] theorem ty_41 : ty 41 = some tyE41 := rfl
@[simp] theorem ty_42 : ty 42 = some tyE42 := rfl
@[simp] theorem ty_43 : ty 43 = some tyE43 := rfl
@[simp] theorem ty_44 : ty 44 = some tyE44 := rfl
@[simp] theorem ty_51 : ty 51 = some tyE51 := rfl
@[simp] theorem ty_63 : ty 63 = some tyE63 := rfl
@[simp] theorem ty_64 : ty 64 = some tyE64 := rfl
@[simp] theorem ty_69 : ty 69 = some tyE69 := rfl
@[simp] theorem ty_74 : ty 74 = some tyE74 := rfl
@[simp] theorem ty_75 : ty 75 = some tyE75 := rfl
@[simp] theorem ty_76 : ty 76 = some tyE76 := rfl
@[simp] theorem ty_87 : ty 87 = some tyE87 := rfl
@[simp] theorem ty_88 : ty 88 = some tyE88 := rfl
@[simp] theorem ty_89 : ty 89 = some tyE89 := rfl
@[simp] theorem ty_90 : ty 90 = some tyE90 := rfl
@[simp] theorem ty_116 : ty 116 = some tyE116 := rfl
@[simp] theorem ty_117 : ty 117 = some tyE117 := rfl
@[simp] theorem ty_118 : ty 118 = some tyE118 := rfl
@[simp] theorem ty_136 : ty 136 = some tyE136 := rfl
@[simp] theorem ty_140 : ty 140 = some tyE140 := rfl
@[simp] theorem ty_141 : ty 141 = some tyE141 := rfl
@[simp] theorem ty_142 : ty 142 = some tyE142 := rfl
@[simp] theorem ty_160 : ty 160 = some tyE160 := rfl
@[simp] theorem ty_162 : ty 162 = some tyE162 := rfl
@[simp] theorem ty_168 : ty 168 = some tyE168 := rfl
@[simp] theorem ty_171 : ty 171 = some tyE171 := rfl
@[simp] theorem ty_176 : ty 176 = some tyE176 := rfl
@[simp] theorem ty_180 : ty 180 = some tyE180 := rfl
@[simp] theorem ty_181 : ty 181 = some tyE181 := rfl
@[simp] theorem ty_185 : ty 185 = some tyE185 := rfl
@[simp] theorem ty_186 : ty 186 = some tyE186 := rfl
@[simp] theorem ty_187 : ty 187 = some tyE187 := rfl
@[simp] theorem ty_189 : ty 189 = some tyE189 := rfl
@[simp] theorem ty_190 : ty 190 = some tyE190 := rfl
@[simp] theorem ty_191 : ty 191 = some tyE191 := rfl
@[simp] theorem ty_194 : ty 194 = some tyE194 := rfl
@[simp] theorem ty_201 : ty 201 = some tyE201 := rfl
theorem tyOK_2 : TyOK Tryd.prog 2 tyE2 := ⟨Tryd.underlying2, Tryd.t2, Tryd.type2, rfl, rfl, rfl, fun h => by cases h⟩
theorem tyOK_3 : TyOK Tryd.prog 3 tyE3 := ⟨Tryd.underlying3, Tryd.t3, Tryd.type3, rfl, rfl, rfl, fun h => by cases h⟩
theorem tyOK_4 : TyOK Tryd.prog 4 tyE4 := ⟨Tryd.underlying4, Tryd.t4, Tryd.type4, rfl, rfl, rfl, fun h => by cases h⟩
theorem tyOK_5 : TyOK Tryd.prog 5 tyE5 := ⟨Tryd.underlying5, Tryd.t5, Tryd.type5, rfl, rfl, rfl, fun h => by cases h⟩
theorem tyOK_7 : TyOK Tryd.prog 7 tyE7 := ⟨Tryd.underlying7, Tryd.t7, Tryd.type7, rfl, rfl, rfl, fun h => by cases h⟩
theorem tyOK_9 : TyOK Tryd.prog 9 tyE9 := ⟨Tryd.underlying9, Tryd.t9, Tryd.type9, rfl, rfl, rfl, fun h => by cases h⟩
theorem tyOK_12 : TyOK Tryd.prog 12 tyE12 := ⟨Tryd.underlying12, Tryd.t12, Tryd.type12, rfl, rfl, rfl, fun h => by cases h⟩
theorem tyOK_13 : TyOK Tryd.prog 13 tyE13 := ⟨Tryd.underlying13, Tryd.t13, Tryd.type13, rfl, rfl, rfl, fun h => by cases h⟩
theorem tyOK_15 : TyOK Tryd.prog 15 tyE15 := ⟨Tryd.underlying15, Tryd.t15, Tryd.type15, rfl, rfl, rfl, fun h => by cases h⟩
theorem tyOK_16 : TyOK Tryd.prog 16 tyE16 := ⟨Tryd.underlying16, Tryd.t16, Tryd.type16, rfl, rfl, rfl, fun h => by cases h⟩
theorem tyOK_17 : TyOK Tryd.prog 17 tyE17 := ⟨Tryd.underlying17, Tryd.t17, Tryd.type17, rfl, rfl, rfl, fun h => by cases h⟩
theorem tyOK_18 : TyOK Tryd.prog 18 tyE18 := ⟨Tryd.underlying18, Tryd.t18, Tryd.type18, rfl, rfl, rfl, fun h => by cases h⟩
theorem tyOK_21 : TyOK Tryd.prog 21 tyE21 := ⟨Tryd.underlying21, Tryd.t21, Tryd.type21, rfl, rfl, rfl, fun h => by cases h⟩
theorem tyOK_22 : TyOK Tryd.prog 22 tyE22 := ⟨Tryd.underlying22, Tryd.t22, Tryd.type22, rfl, rfl, rfl, fun h => by cases h⟩
theorem tyOK_26 : TyOK Tryd.prog 26 tyE26 := ⟨Tryd.underlying26, Tryd.t26, Tryd.type26, rfl, rfl, rfl, fun h => by cases h⟩
theorem tyOK_41 : TyOK Tryd.prog 41 tyE41 := ⟨Tryd.underlying41, Tryd.t41, Tryd.type41, rfl, rfl, rfl, fun h => by cases h⟩
theorem tyOK_42 : TyOK Tryd.prog 42 tyE42 := ⟨Tryd.underlying42, Tryd.t42, Tryd.type42, rfl, rfl, rfl, fun _ => ⟨by kernel_rfl, by kernel_rfl, by rintro _ ⟨⟩; rfl⟩⟩
theorem tyOK_43 : TyOK Tryd.prog 43 tyE43 := ⟨Tryd.underlying43, Tryd.t43, Tryd.type43, rfl, rfl, rfl, fun h => by cases h⟩
theorem tyOK_44 : TyOK Tryd.prog 44 tyE44 := ⟨Tryd.underlying44, Tryd.t44, Tryd.type44, rfl, rfl, rfl, fun _ => ⟨by kernel_rfl, by kernel_rfl, by rintro _ ⟨⟩; rfl⟩⟩
theorem tyOK_51 : TyOK Tryd.prog 51 tyE51 := ⟨Tryd.underlying51, Tryd.t51, Tryd.type51, rfl, rfl, rfl, fun h => by cases h⟩
theorem tyOK_63 : TyOK Tryd.prog 63 tyE63 := ⟨Tryd.underlying63, Tryd.t63, Tryd.type63, rfl, rfl, rfl, fun h => by cases h⟩
theorem tyOK_64 : TyOK Tryd.prog 64 tyE64 := ⟨Tryd.underlying64, Tryd.t64, Tryd.type64, rfl, rfl, rfl, fun _ => ⟨by kernel_rfl, by kernel_rfl, by rintro _ ⟨⟩; rfl⟩⟩
theorem tyOK_69 : TyOK Tryd.prog 69 tyE69 := ⟨Tryd.underlying69, Tryd.t69, Tryd.type69, rfl, rfl, rfl, fun h => by cases h⟩
theorem tyOK_74 : TyOK Tryd.prog 74 tyE74 := ⟨Tryd.underlying74, Tryd.t74, Tryd.type74, rfl, rfl, rfl, fun h => by cases h⟩
theorem tyOK_75 : TyOK Tryd.prog 75 tyE75 := ⟨Tryd.underlying75, Tryd.t75, Tryd.type75, rfl, rfl, rfl, fun h => by cases h⟩
theorem tyOK_76 : TyOK Tryd.prog 76 tyE76 := ⟨Tryd.underlying76, Tryd.t76, Tryd.type76, rfl, rfl, rfl, fun _ => ⟨by kernel_rfl, by kernel_rfl, by rintro _ ⟨⟩; rfl⟩⟩
theorem tyOK_87 : TyOK Tryd.prog 87 tyE87 := ⟨Tryd.underlying87, Tryd.t87, Tryd.type87, rfl, rfl, rfl, fun h => by cases h⟩
theorem tyOK_88 : TyOK Tryd.prog 88 tyE88 := ⟨Tryd.underlying88, Tryd.t88, Tryd.type88, rfl, rfl, rfl, fun h => by cases h⟩
theorem tyOK_89 : TyOK Tryd.prog 89 tyE89 := ⟨Tryd.underlying89, Tryd.t89, Tryd.type89, rfl, rfl, rfl, fun _ => ⟨by kernel_rfl, by kernel_rfl, by rintro _ ⟨⟩; rfl⟩⟩
theorem tyOK_90 : TyOK Tryd.prog 90 tyE90 := ⟨Tryd.underlying90, Tryd.t90, Tryd.type90, rfl, rfl, rfl, fun _ => ⟨by kernel_rfl, by kernel_rfl, by rintro _ ⟨⟩; rfl⟩⟩
theorem tyOK_116 : TyOK Tryd.prog 116 tyE116 := ⟨Tryd.underlying116, Tryd.t116, Tryd.type116, rfl, rfl, rfl, fun h => by cases h⟩
theorem tyOK_117 : TyOK Tryd.prog 117 tyE117 := ⟨Tryd.underlying117, Tryd.t117, Tryd.type117, rfl, rfl, rfl, fun _ => ⟨by kernel_rfl, by kernel_rfl, by rintro _ ⟨⟩; rfl⟩⟩
theorem tyOK_118 : TyOK Tryd.prog 118 tyE118 := ⟨Tryd.underlying118, Tryd.t118, Tryd.type118, rfl, rfl, rfl, fun _ => ⟨by kernel_rfl, by kernel_rfl, by rintro _ ⟨⟩; rfl⟩⟩
theorem tyOK_136 : TyOK Tryd.prog 136 tyE136 := ⟨Tryd.underlying136, Tryd.t136, Tryd.type136, rfl, rfl, rfl, fun h => by cases h⟩
theorem tyOK_140 : TyOK Tryd.prog 140 tyE140 := ⟨Tryd.underlying140, Tryd.t140, Tryd.type140, rfl, rfl, rfl, fun h => by cases h⟩
theorem tyOK_141 : TyOK Tryd.prog 141 tyE141 := ⟨Tryd.underlying141, Tryd.t141, Tryd.type141, rfl, rfl, rfl, fun h => by cases h⟩
theorem tyOK_142 : TyOK Tryd.prog 142 tyE142 := ⟨Tryd.underlying142, Tryd.t142, Tryd.type142, rfl, rfl, rfl, fun h => by cases h⟩
theorem tyOK_160 : TyOK Tryd.prog 160 tyE160 := ⟨Tryd.underlying160, Tryd.t160, Tryd.type160, rfl, rfl, rfl, fun h => by cases h⟩
theorem tyOK_162 : TyOK Tryd.prog 162 tyE162 := ⟨Tryd.underlying162, Tryd.t162, Tryd.type162, rfl, rfl, rfl, fun h => by cases h⟩
theorem tyOK_168 : TyOK Tryd.prog 168 tyE168 := ⟨Tryd.underlying168, Tryd.t168, Tryd.type168, rfl, rfl, rfl, fun h => by cases h⟩
theorem tyOK_171 : TyOK Tryd.prog 171 tyE171 := ⟨Tryd.underlying171, Tryd.t171, Tryd.type171, rfl, rfl, rfl, fun h => by cases h⟩
theorem tyOK_176 : TyOK Tryd.prog 176 tyE176 := ⟨Tryd.underlying176, Tryd.t176, Tryd.type176, rfl, rfl, rfl, fun h => by cases h⟩
theorem tyOK_180 : TyOK Tryd.prog 180 tyE180 := ⟨Tryd.underlying180, Tryd.t180, Tryd.type180, rfl, rfl, rfl, fun h => by cases h⟩
theorem tyOK_181 : TyOK Tryd.prog 181 tyE181 := ⟨Tryd.underlying181, Tryd.t181, Tryd.type181, rfl, rfl, rfl, fun h => by cases h⟩
theorem tyOK_185 : TyOK Tryd.prog 185 tyE185 := ⟨Tryd.underlying185, Tryd.t185, Tryd.type185, rfl, rfl, rfl, fun h => by cases h⟩
theorem tyOK_186 : TyOK Tryd.prog 186 tyE186 := ⟨Tryd.underlying186, Tryd.t186, Tryd.type186, rfl, rfl, rfl, fun h => by cases h⟩
theorem tyOK_187 : TyOK Tryd.prog 187 tyE187 := ⟨Tryd.underlying187, Tryd.t187, Tryd.type187, rfl, rfl, rfl, fun h => by cases h⟩
theorem tyOK_189 : TyOK Tryd.prog 189 tyE189 := ⟨Tryd.underlying189, Tryd.t189, Tryd.type189, rfl, rfl, rfl, fun h => by cases h⟩
theorem tyOK_190 : TyOK Tryd.prog 190 tyE190 := ⟨Tryd.underlying190, Tryd.t190, Tryd.type190, rfl, rfl, rfl, fun h => by cases h⟩
theorem tyOK_191 : TyOK Tryd.prog 191 tyE191 := ⟨Tryd.underlying191, Tryd.t191, Tryd.type191, rfl, rfl, rfl, fun h => by cases h⟩
theorem tyOK_194 : TyOK Tryd.prog 194 tyE194 := ⟨Tryd.underlying194, Tryd.t194, Tryd.type194, rfl, rfl, rfl, fun h => by cases h⟩
theorem tyOK_201 : TyOK Tryd.prog 201 tyE201 := ⟨Tryd.underlying201, Tryd.t201, Tryd.type201, rfl, rfl, rfl, fun h => by cases h⟩
theorem ty_ok : ∀ t x, ty t = some x → TyOK Tryd.prog t x := lookT_ok (allT_cons tyOK_2 (allT_cons tyOK_3 (allT_cons tyOK_4 (allT_cons tyOK_5 (allT_cons tyOK_7 (allT_cons tyOK_9 (allT_cons tyOK_12 (allT_cons tyOK_13 (allT_cons tyOK_15 (allT_cons tyOK_16 (allT_cons tyOK_17 (allT_cons tyOK_18 (allT_cons tyOK_21 (allT_cons tyOK_22 (allT_cons tyOK_26 (allT_cons tyOK_41 (allT_cons tyOK_42 (allT_cons tyOK_43 (allT_cons tyOK_44 (allT_cons tyOK_51 (allT_cons tyOK_63 (allT_cons tyOK_64 (allT_cons tyOK_69 (allT_cons tyOK_74 (allT_cons tyOK_75 (allT_cons tyOK_76 (allT_cons tyOK_87 (allT_cons tyOK_88 (allT_cons tyOK_89 (allT_cons tyOK_90 (allT_cons tyOK_116 (allT_cons tyOK_117 (allT_cons tyOK_118 (allT_cons tyOK_136 (allT_cons tyOK_140 (allT_cons tyOK_141 (allT_cons tyOK_142 (allT_cons tyOK_160 (allT_cons tyOK_162 (allT_cons tyOK_168 (allT_cons tyOK_171 (allT_cons tyOK_176 (allT_cons tyOK_180 (allT_cons tyOK_181 (allT_cons tyOK_185 (allT_cons tyOK_186 (allT_cons tyOK_187 (allT_cons tyOK_189 (allT_cons tyOK_190 (allT_cons tyOK_191 (allT_cons tyOK_194 (allT_cons tyOK_201 allT_nil))))))))))))))))))))))))))))))))))))))))))))))))))))
end Go.Proofs.YtbedhobglodjbaaDoor
