/- The types of the seat as a table. Made by program (genty.py). -/
import Derived.Test.YtgminbcbkcacnaaProg
import Derived.Test.YtgminbcbkcacnaaAbSpec
import Derived.KernelRfl
namespace Go.Proofs.Ytgminbcbkcacnaa
open Go Go.Ab
set_option maxRecDepth 100000

abbrev tyE2 : TyE := ⟨.int .i64, 1, 8, .int .i64 0, false⟩
abbrev tyE3 : TyE := ⟨.int .i64, 1, 8, .int .i64 0, false⟩
abbrev tyE4 : TyE := ⟨.bool, 1, 1, .bool false, false⟩
abbrev tyE5 : TyE := ⟨.int .u8, 1, 1, .int .u8 0, false⟩
abbrev tyE7 : TyE := ⟨.struct #[{ name := "x", type := 2, offset := 0, embedded := false, tag := "", pkgPath := "runtime", byteOffset := 0 }, { name := "y", type := 3, offset := 1, embedded := false, tag := "", pkgPath := "runtime", byteOffset := 8 }, { name := "signed", type := 4, offset := 2, embedded := false, tag := "", pkgPath := "runtime", byteOffset := 16 }, { name := "code", type := 6, offset := 3, embedded := false, tag := "", pkgPath := "runtime", byteOffset := 17 }], 4, 24, .agg #[.int .i64 0, .int .i64 0, .bool false, .int .u8 0], false⟩
abbrev tyE9 : TyE := ⟨.string, 1, 16, .string ByteArray.empty, false⟩
abbrev tyE12 : TyE := ⟨.int .u64, 1, 8, .int .u64 0, false⟩
abbrev tyE13 : TyE := ⟨.struct #[{ name := "msg", type := 9, offset := 0, embedded := false, tag := "", pkgPath := "runtime", byteOffset := 0 }, { name := "addr", type := 12, offset := 1, embedded := false, tag := "", pkgPath := "runtime", byteOffset := 16 }], 2, 24, .agg #[.string ByteArray.empty, .int .u64 0], false⟩
abbrev tyE15 : TyE := ⟨.pointer 291, 1, 8, .pointer none, false⟩
abbrev tyE16 : TyE := ⟨.pointer 294, 1, 8, .pointer none, false⟩
abbrev tyE17 : TyE := ⟨.pointer 302, 1, 8, .pointer none, false⟩
abbrev tyE18 : TyE := ⟨.struct #[{ name := "typ", type := 17, offset := 0, embedded := false, tag := "", pkgPath := "internal/runtime/maps", byteOffset := 0 }], 1, 8, .agg #[.pointer none], false⟩
abbrev tyE21 : TyE := ⟨.int .i32, 1, 4, .int .i32 0, false⟩
abbrev tyE22 : TyE := ⟨.slice 5, 1, 24, .slice none 0 0, false⟩
abbrev tyE24 : TyE := ⟨.slice 9, 1, 24, .slice none 0 0, false⟩
abbrev tyE25 : TyE := ⟨.slice 150, 1, 24, .slice none 0 0, false⟩
abbrev tyE26 : TyE := ⟨.struct #[{ name := "Stops", type := 24, offset := 0, embedded := false, tag := "", pkgPath := "", byteOffset := 0 }, { name := "Lines", type := 25, offset := 1, embedded := false, tag := "", pkgPath := "", byteOffset := 24 }], 2, 48, .agg #[.slice none 0 0, .slice none 0 0], false⟩
abbrev tyE27 : TyE := ⟨.struct #[{ name := "Stops", type := 24, offset := 0, embedded := false, tag := "", pkgPath := "", byteOffset := 0 }, { name := "Lines", type := 25, offset := 1, embedded := false, tag := "", pkgPath := "", byteOffset := 24 }], 2, 48, .agg #[.slice none 0 0, .slice none 0 0], true⟩
abbrev tyE28 : TyE := ⟨.slice 55, 1, 24, .slice none 0 0, false⟩
abbrev tyE29 : TyE := ⟨.struct #[{ name := "Network", type := 27, offset := 0, embedded := false, tag := "", pkgPath := "", byteOffset := 0 }, { name := "Trips", type := 28, offset := 2, embedded := false, tag := "", pkgPath := "", byteOffset := 48 }], 3, 72, .agg #[.slice none 0 0, .slice none 0 0, .slice none 0 0], false⟩
abbrev tyE30 : TyE := ⟨.struct #[{ name := "Network", type := 27, offset := 0, embedded := false, tag := "", pkgPath := "", byteOffset := 0 }, { name := "Trips", type := 28, offset := 2, embedded := false, tag := "", pkgPath := "", byteOffset := 48 }], 3, 72, .agg #[.slice none 0 0, .slice none 0 0, .slice none 0 0], true⟩
abbrev tyE31 : TyE := ⟨.slice 40, 1, 24, .slice none 0 0, false⟩
abbrev tyE36 : TyE := ⟨.slice 3, 1, 24, .slice none 0 0, false⟩
abbrev tyE39 : TyE := ⟨.struct #[{ name := "Trip", type := 3, offset := 0, embedded := false, tag := "", pkgPath := "", byteOffset := 0 }, { name := "From", type := 3, offset := 1, embedded := false, tag := "", pkgPath := "", byteOffset := 8 }, { name := "To", type := 3, offset := 2, embedded := false, tag := "", pkgPath := "", byteOffset := 16 }, { name := "Depart", type := 3, offset := 3, embedded := false, tag := "", pkgPath := "", byteOffset := 24 }, { name := "Arrive", type := 3, offset := 4, embedded := false, tag := "", pkgPath := "", byteOffset := 32 }], 5, 40, .agg #[.int .i64 0, .int .i64 0, .int .i64 0, .int .i64 0, .int .i64 0], false⟩
abbrev tyE40 : TyE := ⟨.struct #[{ name := "Trip", type := 3, offset := 0, embedded := false, tag := "", pkgPath := "", byteOffset := 0 }, { name := "From", type := 3, offset := 1, embedded := false, tag := "", pkgPath := "", byteOffset := 8 }, { name := "To", type := 3, offset := 2, embedded := false, tag := "", pkgPath := "", byteOffset := 16 }, { name := "Depart", type := 3, offset := 3, embedded := false, tag := "", pkgPath := "", byteOffset := 24 }, { name := "Arrive", type := 3, offset := 4, embedded := false, tag := "", pkgPath := "", byteOffset := 32 }], 5, 40, .agg #[.int .i64 0, .int .i64 0, .int .i64 0, .int .i64 0, .int .i64 0], true⟩
abbrev tyE50 : TyE := ⟨.slice 31, 1, 24, .slice none 0 0, false⟩
abbrev tyE54 : TyE := ⟨.struct #[{ name := "Id", type := 3, offset := 0, embedded := false, tag := "", pkgPath := "", byteOffset := 0 }, { name := "Line", type := 3, offset := 1, embedded := false, tag := "", pkgPath := "", byteOffset := 8 }, { name := "Start", type := 3, offset := 2, embedded := false, tag := "", pkgPath := "", byteOffset := 16 }], 3, 24, .agg #[.int .i64 0, .int .i64 0, .int .i64 0], false⟩
abbrev tyE55 : TyE := ⟨.struct #[{ name := "Id", type := 3, offset := 0, embedded := false, tag := "", pkgPath := "", byteOffset := 0 }, { name := "Line", type := 3, offset := 1, embedded := false, tag := "", pkgPath := "", byteOffset := 8 }, { name := "Start", type := 3, offset := 2, embedded := false, tag := "", pkgPath := "", byteOffset := 16 }], 3, 24, .agg #[.int .i64 0, .int .i64 0, .int .i64 0], true⟩
abbrev tyE67 : TyE := ⟨.slice 168, 1, 24, .slice none 0 0, false⟩
abbrev tyE80 : TyE := ⟨.slice 233, 1, 24, .slice none 0 0, false⟩
abbrev tyE84 : TyE := ⟨.slice 87, 1, 24, .slice none 0 0, false⟩
abbrev tyE87 : TyE := ⟨.array 2 3, 2, 16, .agg #[.int .i64 0, .int .i64 0], false⟩
abbrev tyE91 : TyE := ⟨.slice 114, 1, 24, .slice none 0 0, false⟩
abbrev tyE100 : TyE := ⟨.slice 108, 1, 24, .slice none 0 0, false⟩
abbrev tyE107 : TyE := ⟨.struct #[{ name := "Trip", type := 3, offset := 0, embedded := false, tag := "", pkgPath := "", byteOffset := 0 }, { name := "From", type := 3, offset := 1, embedded := false, tag := "", pkgPath := "", byteOffset := 8 }, { name := "To", type := 3, offset := 2, embedded := false, tag := "", pkgPath := "", byteOffset := 16 }, { name := "Hold", type := 3, offset := 3, embedded := false, tag := "", pkgPath := "", byteOffset := 24 }], 4, 32, .agg #[.int .i64 0, .int .i64 0, .int .i64 0, .int .i64 0], false⟩
abbrev tyE108 : TyE := ⟨.struct #[{ name := "Trip", type := 3, offset := 0, embedded := false, tag := "", pkgPath := "", byteOffset := 0 }, { name := "From", type := 3, offset := 1, embedded := false, tag := "", pkgPath := "", byteOffset := 8 }, { name := "To", type := 3, offset := 2, embedded := false, tag := "", pkgPath := "", byteOffset := 16 }, { name := "Hold", type := 3, offset := 3, embedded := false, tag := "", pkgPath := "", byteOffset := 24 }], 4, 32, .agg #[.int .i64 0, .int .i64 0, .int .i64 0, .int .i64 0], true⟩
abbrev tyE113 : TyE := ⟨.struct #[{ name := "Line", type := 3, offset := 0, embedded := false, tag := "", pkgPath := "", byteOffset := 0 }, { name := "Offset", type := 3, offset := 1, embedded := false, tag := "", pkgPath := "", byteOffset := 8 }], 2, 16, .agg #[.int .i64 0, .int .i64 0], false⟩
abbrev tyE114 : TyE := ⟨.struct #[{ name := "Line", type := 3, offset := 0, embedded := false, tag := "", pkgPath := "", byteOffset := 0 }, { name := "Offset", type := 3, offset := 1, embedded := false, tag := "", pkgPath := "", byteOffset := 8 }], 2, 16, .agg #[.int .i64 0, .int .i64 0], true⟩
abbrev tyE126 : TyE := ⟨.slice 130, 1, 24, .slice none 0 0, false⟩
abbrev tyE129 : TyE := ⟨.struct #[{ name := "Depart", type := 3, offset := 0, embedded := false, tag := "", pkgPath := "", byteOffset := 0 }, { name := "Arrive", type := 3, offset := 1, embedded := false, tag := "", pkgPath := "", byteOffset := 8 }, { name := "Legs", type := 3, offset := 2, embedded := false, tag := "", pkgPath := "", byteOffset := 16 }], 3, 24, .agg #[.int .i64 0, .int .i64 0, .int .i64 0], false⟩
abbrev tyE130 : TyE := ⟨.struct #[{ name := "Depart", type := 3, offset := 0, embedded := false, tag := "", pkgPath := "", byteOffset := 0 }, { name := "Arrive", type := 3, offset := 1, embedded := false, tag := "", pkgPath := "", byteOffset := 8 }, { name := "Legs", type := 3, offset := 2, embedded := false, tag := "", pkgPath := "", byteOffset := 16 }], 3, 24, .agg #[.int .i64 0, .int .i64 0, .int .i64 0], true⟩
abbrev tyE133 : TyE := ⟨.pointer 136, 1, 8, .pointer none, false⟩
abbrev tyE134 : TyE := ⟨.int .u64, 1, 8, .int .u64 0, false⟩
abbrev tyE135 : TyE := ⟨.struct #[{ name := "code", type := 22, offset := 0, embedded := false, tag := "", pkgPath := "loop.example/g00900/spec", byteOffset := 0 }, { name := "at", type := 3, offset := 1, embedded := false, tag := "", pkgPath := "loop.example/g00900/spec", byteOffset := 24 }, { name := "seed", type := 134, offset := 2, embedded := false, tag := "", pkgPath := "loop.example/g00900/spec", byteOffset := 32 }], 3, 40, .agg #[.slice none 0 0, .int .i64 0, .int .u64 0], true⟩
abbrev tyE136 : TyE := ⟨.struct #[{ name := "code", type := 22, offset := 0, embedded := false, tag := "", pkgPath := "loop.example/g00900/spec", byteOffset := 0 }, { name := "at", type := 3, offset := 1, embedded := false, tag := "", pkgPath := "loop.example/g00900/spec", byteOffset := 24 }, { name := "seed", type := 134, offset := 2, embedded := false, tag := "", pkgPath := "loop.example/g00900/spec", byteOffset := 32 }], 3, 40, .agg #[.slice none 0 0, .int .i64 0, .int .u64 0], true⟩
abbrev tyE149 : TyE := ⟨.struct #[{ name := "Name", type := 9, offset := 0, embedded := false, tag := "", pkgPath := "", byteOffset := 0 }, { name := "Stops", type := 36, offset := 1, embedded := false, tag := "", pkgPath := "", byteOffset := 16 }, { name := "Runs", type := 36, offset := 2, embedded := false, tag := "", pkgPath := "", byteOffset := 40 }], 3, 64, .agg #[.string ByteArray.empty, .slice none 0 0, .slice none 0 0], false⟩
abbrev tyE150 : TyE := ⟨.struct #[{ name := "Name", type := 9, offset := 0, embedded := false, tag := "", pkgPath := "", byteOffset := 0 }, { name := "Stops", type := 36, offset := 1, embedded := false, tag := "", pkgPath := "", byteOffset := 16 }, { name := "Runs", type := 36, offset := 2, embedded := false, tag := "", pkgPath := "", byteOffset := 40 }], 3, 64, .agg #[.string ByteArray.empty, .slice none 0 0, .slice none 0 0], true⟩
abbrev tyE167 : TyE := ⟨.struct #[{ name := "Kind", type := 3, offset := 0, embedded := false, tag := "", pkgPath := "", byteOffset := 0 }, { name := "Line", type := 9, offset := 1, embedded := false, tag := "", pkgPath := "", byteOffset := 8 }, { name := "Stop", type := 9, offset := 2, embedded := false, tag := "", pkgPath := "", byteOffset := 24 }, { name := "From", type := 3, offset := 3, embedded := false, tag := "", pkgPath := "", byteOffset := 40 }, { name := "To", type := 3, offset := 4, embedded := false, tag := "", pkgPath := "", byteOffset := 48 }, { name := "Minutes", type := 3, offset := 5, embedded := false, tag := "", pkgPath := "", byteOffset := 56 }], 6, 64, .agg #[.int .i64 0, .string ByteArray.empty, .string ByteArray.empty, .int .i64 0, .int .i64 0, .int .i64 0], false⟩
abbrev tyE168 : TyE := ⟨.struct #[{ name := "Kind", type := 3, offset := 0, embedded := false, tag := "", pkgPath := "", byteOffset := 0 }, { name := "Line", type := 9, offset := 1, embedded := false, tag := "", pkgPath := "", byteOffset := 8 }, { name := "Stop", type := 9, offset := 2, embedded := false, tag := "", pkgPath := "", byteOffset := 24 }, { name := "From", type := 3, offset := 3, embedded := false, tag := "", pkgPath := "", byteOffset := 40 }, { name := "To", type := 3, offset := 4, embedded := false, tag := "", pkgPath := "", byteOffset := 48 }, { name := "Minutes", type := 3, offset := 5, embedded := false, tag := "", pkgPath := "", byteOffset := 56 }], 6, 64, .agg #[.int .i64 0, .string ByteArray.empty, .string ByteArray.empty, .int .i64 0, .int .i64 0, .int .i64 0], true⟩
abbrev tyE215 : TyE := ⟨.pointer 217, 1, 8, .pointer none, false⟩
abbrev tyE216 : TyE := ⟨.struct #[{ name := "t", type := 30, offset := 0, embedded := false, tag := "", pkgPath := "loop.example/g00900/spec", byteOffset := 0 }, { name := "change", type := 3, offset := 3, embedded := false, tag := "", pkgPath := "loop.example/g00900/spec", byteOffset := 72 }, { name := "to", type := 3, offset := 4, embedded := false, tag := "", pkgPath := "loop.example/g00900/spec", byteOffset := 80 }, { name := "arrive", type := 3, offset := 5, embedded := false, tag := "", pkgPath := "loop.example/g00900/spec", byteOffset := 88 }], 6, 96, .agg #[.slice none 0 0, .slice none 0 0, .slice none 0 0, .int .i64 0, .int .i64 0, .int .i64 0], true⟩
abbrev tyE217 : TyE := ⟨.struct #[{ name := "t", type := 30, offset := 0, embedded := false, tag := "", pkgPath := "loop.example/g00900/spec", byteOffset := 0 }, { name := "change", type := 3, offset := 3, embedded := false, tag := "", pkgPath := "loop.example/g00900/spec", byteOffset := 72 }, { name := "to", type := 3, offset := 4, embedded := false, tag := "", pkgPath := "loop.example/g00900/spec", byteOffset := 80 }, { name := "arrive", type := 3, offset := 5, embedded := false, tag := "", pkgPath := "loop.example/g00900/spec", byteOffset := 88 }], 6, 96, .agg #[.slice none 0 0, .slice none 0 0, .slice none 0 0, .int .i64 0, .int .i64 0, .int .i64 0], true⟩
abbrev tyE228 : TyE := ⟨.slice 67, 1, 24, .slice none 0 0, false⟩
abbrev tyE232 : TyE := ⟨.struct #[{ name := "Id", type := 3, offset := 0, embedded := false, tag := "", pkgPath := "", byteOffset := 0 }, { name := "Minutes", type := 3, offset := 1, embedded := false, tag := "", pkgPath := "", byteOffset := 8 }], 2, 16, .agg #[.int .i64 0, .int .i64 0], false⟩
abbrev tyE233 : TyE := ⟨.struct #[{ name := "Id", type := 3, offset := 0, embedded := false, tag := "", pkgPath := "", byteOffset := 0 }, { name := "Minutes", type := 3, offset := 1, embedded := false, tag := "", pkgPath := "", byteOffset := 8 }], 2, 16, .agg #[.int .i64 0, .int .i64 0], true⟩
abbrev tyE236 : TyE := ⟨.int .u64, 1, 8, .int .u64 0, false⟩
abbrev tyE260 : TyE := ⟨.int .i64, 1, 8, .int .i64 0, false⟩
abbrev tyE267 : TyE := ⟨.int .u32, 1, 4, .int .u32 0, false⟩
abbrev tyE271 : TyE := ⟨.int .u64, 1, 8, .int .u64 0, false⟩
abbrev tyE275 : TyE := ⟨.pointer 3, 1, 8, .pointer none, false⟩
abbrev tyE284 : TyE := ⟨.pointer 271, 1, 8, .pointer none, false⟩
abbrev tyE290 : TyE := ⟨.struct #[{ name := "_interface", type := 17, offset := 0, embedded := false, tag := "", pkgPath := "runtime", byteOffset := 0 }, { name := "concrete", type := 17, offset := 1, embedded := false, tag := "", pkgPath := "runtime", byteOffset := 8 }, { name := "asserted", type := 17, offset := 2, embedded := false, tag := "", pkgPath := "runtime", byteOffset := 16 }, { name := "missingMethod", type := 9, offset := 3, embedded := false, tag := "", pkgPath := "runtime", byteOffset := 24 }], 4, 40, .agg #[.pointer none, .pointer none, .pointer none, .string ByteArray.empty], false⟩
abbrev tyE293 : TyE := ⟨.struct #[{ name := "_", type := 292, offset := 0, embedded := false, tag := "", pkgPath := "runtime", byteOffset := 0 }], 0, 0, .agg #[], false⟩
abbrev tyE298 : TyE := ⟨.pointer 5, 1, 8, .pointer none, false⟩
abbrev tyE301 : TyE := ⟨.struct #[{ name := "Size_", type := 12, offset := 0, embedded := false, tag := "", pkgPath := "", byteOffset := 0 }, { name := "PtrBytes", type := 12, offset := 1, embedded := false, tag := "", pkgPath := "", byteOffset := 8 }, { name := "Hash", type := 267, offset := 2, embedded := false, tag := "", pkgPath := "", byteOffset := 16 }, { name := "TFlag", type := 295, offset := 3, embedded := false, tag := "", pkgPath := "", byteOffset := 20 }, { name := "Align_", type := 5, offset := 4, embedded := false, tag := "", pkgPath := "", byteOffset := 21 }, { name := "FieldAlign_", type := 5, offset := 5, embedded := false, tag := "", pkgPath := "", byteOffset := 22 }, { name := "Kind_", type := 296, offset := 6, embedded := false, tag := "", pkgPath := "", byteOffset := 23 }, { name := "Equal", type := 297, offset := 7, embedded := false, tag := "", pkgPath := "", byteOffset := 24 }, { name := "GCData", type := 298, offset := 8, embedded := false, tag := "", pkgPath := "", byteOffset := 32 }, { name := "Str", type := 299, offset := 9, embedded := false, tag := "", pkgPath := "", byteOffset := 40 }, { name := "PtrToThis", type := 300, offset := 10, embedded := false, tag := "", pkgPath := "", byteOffset := 44 }], 11, 48, .agg #[.int .u64 0, .int .u64 0, .int .u32 0, .int .u8 0, .int .u8 0, .int .u8 0, .int .u8 0, .nilFunc, .pointer none, .int .i32 0, .int .i32 0], false⟩
abbrev tyE303 : TyE := ⟨.unsafePointer, 1, 8, .pointer none, false⟩
def tyL : List (Nat × TyE) := [(2, tyE2), (3, tyE3), (4, tyE4), (5, tyE5), (7, tyE7), (9, tyE9), (12, tyE12), (13, tyE13), (15, tyE15), (16, tyE16), (17, tyE17), (18, tyE18), (21, tyE21), (22, tyE22), (24, tyE24), (25, tyE25), (26, tyE26), (27, tyE27), (28, tyE28), (29, tyE29), (30, tyE30), (31, tyE31), (36, tyE36), (39, tyE39), (40, tyE40), (50, tyE50), (54, tyE54), (55, tyE55), (67, tyE67), (80, tyE80), (84, tyE84), (87, tyE87), (91, tyE91), (100, tyE100), (107, tyE107), (108, tyE108), (113, tyE113), (114, tyE114), (126, tyE126), (129, tyE129), (130, tyE130), (133, tyE133), (134, tyE134), (135, tyE135), (136, tyE136), (149, tyE149), (150, tyE150), (167, tyE167), (168, tyE168), (215, tyE215), (216, tyE216), (217, tyE217), (228, tyE228), (232, tyE232), (233, tyE233), (236, tyE236), (260, tyE260), (267, tyE267), (271, tyE271), (275, tyE275), (284, tyE284), (290, tyE290), (293, tyE293), (298, tyE298), (301, tyE301), (303, tyE303)]
def ty (t : TypeId) : Option TyE := lookT t tyL
@[simp] theorem ty_2 : ty 2 = some tyE2 := rfl
@[simp] theorem ty_3 : ty 3 = some tyE3 := rfl
@[simp] theorem ty_4 : ty 4 = some tyE4 := rfl
@[simp] theorem ty_5 : ty 5 = some tyE5 := rfl
@[simp] theorem ty_7 : ty 7 = some tyE7 := rfl
@[simp] theorem ty_9 : ty 9 = some tyE9 := rfl
@[simp] theorem ty_12 : ty 12 = some tyE12 := rfl
@[simp] theorem ty_13 : ty 13 = some tyE13 := rfl
@[simp] theorem ty_15 : ty 15 = some tyE15 := rfl
@[simp] theorem ty_16 : ty 16 = some tyE16 := rfl
@[simp] theorem ty_17 : ty 17 = some tyE17 := rfl
@[simp] theorem ty_18 : ty 18 = some tyE18 := rfl
@[simp] theorem ty_21 : ty 21 = some tyE21 := rfl
@[simp] theorem ty_22 : ty 22 = some tyE22 := rfl
@[simp] theorem ty_24 : ty 24 = some tyE24 := rfl
@[simp] theorem ty_25 : ty 25 = some tyE25 := rfl
@[simp] theorem ty_26 : ty 26 = some tyE26 := rfl
@[simp] theorem ty_27 : ty 27 = some tyE27 := rfl
@[simp] theorem ty_28 : ty 28 = some tyE28 := rfl
@[simp] theorem ty_29 : ty 29 = some tyE29 := rfl
@[simp] theorem ty_30 : ty 30 = some tyE30 := rfl
@[simp] theorem ty_31 : ty 31 = some tyE31 := rfl
@[simp] theorem ty_36 : ty 36 = some tyE36 := rfl
@[simp] theorem ty_39 : ty 39 = some tyE39 := rfl
@[simp] theorem ty_40 : ty 40 = some tyE40 := rfl
@[simp] theorem ty_50 : ty 50 = some tyE50 := rfl
@[simp] theorem ty_54 : ty 54 = some tyE54 := rfl
@[simp] theorem ty_55 : ty 55 = some tyE55 := rfl
@[simp] theorem ty_67 : ty 67 = some tyE67 := rfl
@[simp] theorem ty_80 : ty 80 = some tyE80 := rfl
@[simp] theorem ty_84 : ty 84 = some tyE84 := rfl
@[simp] theorem ty_87 : ty 87 = some tyE87 := rfl
@[simp] theorem ty_91 : ty 91 = some tyE91 := rfl
@[simp] theorem ty_100 : ty 100 = some tyE100 := rfl
@[simp] theorem ty_107 : ty 107 = some tyE107 := rfl
@[simp] theorem ty_108 : ty 108 = some tyE108 := rfl
@[simp] theorem ty_113 : ty 113 = some tyE113 := rfl
@[simp] theorem ty_114 : ty 114 = some tyE114 := rfl
@[simp] theorem ty_126 : ty 126 = some tyE126 := rfl
@[simp] theorem ty_129 : ty 129 = some tyE129 := rfl
@[simp] theorem ty_130 : ty 130 = some tyE130 := rfl
@[simp] theorem ty_133 : ty 133 = some tyE133 := rfl
@[simp] theorem ty_134 : ty 134 = some tyE134 := rfl
@[simp] theorem ty_135 : ty 135 = some tyE135 := rfl
@[simp] theorem ty_136 : ty 136 = some tyE136 := rfl
@[simp] theorem ty_149 : ty 149 = some tyE149 := rfl
@[simp] theorem ty_150 : ty 150 = some tyE150 := rfl
@[simp] theorem ty_167 : ty 167 = some tyE167 := rfl
@[simp] theorem ty_168 : ty 168 = some tyE168 := rfl
@[simp] theorem ty_215 : ty 215 = some tyE215 := rfl
@[simp] theorem ty_216 : ty 216 = some tyE216 := rfl
@[simp] theorem ty_217 : ty 217 = some tyE217 := rfl
@[simp] theorem ty_228 : ty 228 = some tyE228 := rfl
@[simp] theorem ty_232 : ty 232 = some tyE232 := rfl
@[simp] theorem ty_233 : ty 233 = some tyE233 := rfl
@[simp] theorem ty_236 : ty 236 = some tyE236 := rfl
@[simp] theorem ty_260 : ty 260 = some tyE260 := rfl
@[simp] theorem ty_267 : ty 267 = some tyE267 := rfl
@[simp] theorem ty_271 : ty 271 = some tyE271 := rfl
@[simp] theorem ty_275 : ty 275 = some tyE275 := rfl
@[simp] theorem ty_284 : ty 284 = some tyE284 := rfl
@[simp] theorem ty_290 : ty 290 = some tyE290 := rfl
@[simp] theorem ty_293 : ty 293 = some tyE293 := rfl
@[simp] theorem ty_298 : ty 298 = some tyE298 := rfl
@[simp] theorem ty_301 : ty 301 = some tyE301 := rfl
@[simp] theorem ty_303 : ty 303 = some tyE303 := rfl
theorem tyOK_2 : TyOK Try.prog 2 tyE2 := ⟨Try.underlying2, Try.t2, Try.type2, rfl, rfl, rfl, fun h => by cases h⟩
theorem tyOK_3 : TyOK Try.prog 3 tyE3 := ⟨Try.underlying3, Try.t3, Try.type3, rfl, rfl, rfl, fun h => by cases h⟩
theorem tyOK_4 : TyOK Try.prog 4 tyE4 := ⟨Try.underlying4, Try.t4, Try.type4, rfl, rfl, rfl, fun h => by cases h⟩
theorem tyOK_5 : TyOK Try.prog 5 tyE5 := ⟨Try.underlying5, Try.t5, Try.type5, rfl, rfl, rfl, fun h => by cases h⟩
theorem tyOK_7 : TyOK Try.prog 7 tyE7 := ⟨Try.underlying7, Try.t7, Try.type7, rfl, rfl, rfl, fun h => by cases h⟩
theorem tyOK_9 : TyOK Try.prog 9 tyE9 := ⟨Try.underlying9, Try.t9, Try.type9, rfl, rfl, rfl, fun h => by cases h⟩
theorem tyOK_12 : TyOK Try.prog 12 tyE12 := ⟨Try.underlying12, Try.t12, Try.type12, rfl, rfl, rfl, fun h => by cases h⟩
theorem tyOK_13 : TyOK Try.prog 13 tyE13 := ⟨Try.underlying13, Try.t13, Try.type13, rfl, rfl, rfl, fun h => by cases h⟩
theorem tyOK_15 : TyOK Try.prog 15 tyE15 := ⟨Try.underlying15, Try.t15, Try.type15, rfl, rfl, rfl, fun h => by cases h⟩
theorem tyOK_16 : TyOK Try.prog 16 tyE16 := ⟨Try.underlying16, Try.t16, Try.type16, rfl, rfl, rfl, fun h => by cases h⟩
theorem tyOK_17 : TyOK Try.prog 17 tyE17 := ⟨Try.underlying17, Try.t17, Try.type17, rfl, rfl, rfl, fun h => by cases h⟩
theorem tyOK_18 : TyOK Try.prog 18 tyE18 := ⟨Try.underlying18, Try.t18, Try.type18, rfl, rfl, rfl, fun h => by cases h⟩
theorem tyOK_21 : TyOK Try.prog 21 tyE21 := ⟨Try.underlying21, Try.t21, Try.type21, rfl, rfl, rfl, fun h => by cases h⟩
theorem tyOK_22 : TyOK Try.prog 22 tyE22 := ⟨Try.underlying22, Try.t22, Try.type22, rfl, rfl, rfl, fun h => by cases h⟩
theorem tyOK_24 : TyOK Try.prog 24 tyE24 := ⟨Try.underlying24, Try.t24, Try.type24, rfl, rfl, rfl, fun h => by cases h⟩
theorem tyOK_25 : TyOK Try.prog 25 tyE25 := ⟨Try.underlying25, Try.t25, Try.type25, rfl, rfl, rfl, fun h => by cases h⟩
theorem tyOK_26 : TyOK Try.prog 26 tyE26 := ⟨Try.underlying26, Try.t26, Try.type26, rfl, rfl, rfl, fun h => by cases h⟩
theorem tyOK_27 : TyOK Try.prog 27 tyE27 := ⟨Try.underlying27, Try.t27, Try.type27, rfl, rfl, rfl, fun _ => ⟨by kernel_rfl, by kernel_rfl, by rintro _ ⟨⟩; rfl⟩⟩
theorem tyOK_28 : TyOK Try.prog 28 tyE28 := ⟨Try.underlying28, Try.t28, Try.type28, rfl, rfl, rfl, fun h => by cases h⟩
theorem tyOK_29 : TyOK Try.prog 29 tyE29 := ⟨Try.underlying29, Try.t29, Try.type29, rfl, rfl, rfl, fun h => by cases h⟩
theorem tyOK_30 : TyOK Try.prog 30 tyE30 := ⟨Try.underlying30, Try.t30, Try.type30, rfl, rfl, rfl, fun _ => ⟨by kernel_rfl, by kernel_rfl, by rintro _ ⟨⟩; rfl⟩⟩
theorem tyOK_31 : TyOK Try.prog 31 tyE31 := ⟨Try.underlying31, Try.t31, Try.type31, rfl, rfl, rfl, fun h => by cases h⟩
theorem tyOK_36 : TyOK Try.prog 36 tyE36 := ⟨Try.underlying36, Try.t36, Try.type36, rfl, rfl, rfl, fun h => by cases h⟩
theorem tyOK_39 : TyOK Try.prog 39 tyE39 := ⟨Try.underlying39, Try.t39, Try.type39, rfl, rfl, rfl, fun h => by cases h⟩
theorem tyOK_40 : TyOK Try.prog 40 tyE40 := ⟨Try.underlying40, Try.t40, Try.type40, rfl, rfl, rfl, fun _ => ⟨by kernel_rfl, by kernel_rfl, by rintro _ ⟨⟩; rfl⟩⟩
theorem tyOK_50 : TyOK Try.prog 50 tyE50 := ⟨Try.underlying50, Try.t50, Try.type50, rfl, rfl, rfl, fun h => by cases h⟩
theorem tyOK_54 : TyOK Try.prog 54 tyE54 := ⟨Try.underlying54, Try.t54, Try.type54, rfl, rfl, rfl, fun h => by cases h⟩
theorem tyOK_55 : TyOK Try.prog 55 tyE55 := ⟨Try.underlying55, Try.t55, Try.type55, rfl, rfl, rfl, fun _ => ⟨by kernel_rfl, by kernel_rfl, by rintro _ ⟨⟩; rfl⟩⟩
theorem tyOK_67 : TyOK Try.prog 67 tyE67 := ⟨Try.underlying67, Try.t67, Try.type67, rfl, rfl, rfl, fun h => by cases h⟩
theorem tyOK_80 : TyOK Try.prog 80 tyE80 := ⟨Try.underlying80, Try.t80, Try.type80, rfl, rfl, rfl, fun h => by cases h⟩
theorem tyOK_84 : TyOK Try.prog 84 tyE84 := ⟨Try.underlying84, Try.t84, Try.type84, rfl, rfl, rfl, fun h => by cases h⟩
theorem tyOK_87 : TyOK Try.prog 87 tyE87 := ⟨Try.underlying87, Try.t87, Try.type87, rfl, rfl, rfl, fun h => by cases h⟩
theorem tyOK_91 : TyOK Try.prog 91 tyE91 := ⟨Try.underlying91, Try.t91, Try.type91, rfl, rfl, rfl, fun h => by cases h⟩
theorem tyOK_100 : TyOK Try.prog 100 tyE100 := ⟨Try.underlying100, Try.t100, Try.type100, rfl, rfl, rfl, fun h => by cases h⟩
theorem tyOK_107 : TyOK Try.prog 107 tyE107 := ⟨Try.underlying107, Try.t107, Try.type107, rfl, rfl, rfl, fun h => by cases h⟩
theorem tyOK_108 : TyOK Try.prog 108 tyE108 := ⟨Try.underlying108, Try.t108, Try.type108, rfl, rfl, rfl, fun _ => ⟨by kernel_rfl, by kernel_rfl, by rintro _ ⟨⟩; rfl⟩⟩
theorem tyOK_113 : TyOK Try.prog 113 tyE113 := ⟨Try.underlying113, Try.t113, Try.type113, rfl, rfl, rfl, fun h => by cases h⟩
theorem tyOK_114 : TyOK Try.prog 114 tyE114 := ⟨Try.underlying114, Try.t114, Try.type114, rfl, rfl, rfl, fun _ => ⟨by kernel_rfl, by kernel_rfl, by rintro _ ⟨⟩; rfl⟩⟩
theorem tyOK_126 : TyOK Try.prog 126 tyE126 := ⟨Try.underlying126, Try.t126, Try.type126, rfl, rfl, rfl, fun h => by cases h⟩
theorem tyOK_129 : TyOK Try.prog 129 tyE129 := ⟨Try.underlying129, Try.t129, Try.type129, rfl, rfl, rfl, fun h => by cases h⟩
theorem tyOK_130 : TyOK Try.prog 130 tyE130 := ⟨Try.underlying130, Try.t130, Try.type130, rfl, rfl, rfl, fun _ => ⟨by kernel_rfl, by kernel_rfl, by rintro _ ⟨⟩; rfl⟩⟩
theorem tyOK_133 : TyOK Try.prog 133 tyE133 := ⟨Try.underlying133, Try.t133, Try.type133, rfl, rfl, rfl, fun h => by cases h⟩
theorem tyOK_134 : TyOK Try.prog 134 tyE134 := ⟨Try.underlying134, Try.t134, Try.type134, rfl, rfl, rfl, fun h => by cases h⟩
theorem tyOK_135 : TyOK Try.prog 135 tyE135 := ⟨Try.underlying135, Try.t135, Try.type135, rfl, rfl, rfl, fun _ => ⟨by kernel_rfl, by kernel_rfl, by rintro _ ⟨⟩; rfl⟩⟩
theorem tyOK_136 : TyOK Try.prog 136 tyE136 := ⟨Try.underlying136, Try.t136, Try.type136, rfl, rfl, rfl, fun _ => ⟨by kernel_rfl, by kernel_rfl, by rintro _ ⟨⟩; rfl⟩⟩
theorem tyOK_149 : TyOK Try.prog 149 tyE149 := ⟨Try.underlying149, Try.t149, Try.type149, rfl, rfl, rfl, fun h => by cases h⟩
theorem tyOK_150 : TyOK Try.prog 150 tyE150 := ⟨Try.underlying150, Try.t150, Try.type150, rfl, rfl, rfl, fun _ => ⟨by kernel_rfl, by kernel_rfl, by rintro _ ⟨⟩; rfl⟩⟩
theorem tyOK_167 : TyOK Try.prog 167 tyE167 := ⟨Try.underlying167, Try.t167, Try.type167, rfl, rfl, rfl, fun h => by cases h⟩
theorem tyOK_168 : TyOK Try.prog 168 tyE168 := ⟨Try.underlying168, Try.t168, Try.type168, rfl, rfl, rfl, fun _ => ⟨by kernel_rfl, by kernel_rfl, by rintro _ ⟨⟩; rfl⟩⟩
theorem tyOK_215 : TyOK Try.prog 215 tyE215 := ⟨Try.underlying215, Try.t215, Try.type215, rfl, rfl, rfl, fun h => by cases h⟩
theorem tyOK_216 : TyOK Try.prog 216 tyE216 := ⟨Try.underlying216, Try.t216, Try.type216, rfl, rfl, rfl, fun _ => ⟨by kernel_rfl, by kernel_rfl, by rintro _ ⟨⟩; rfl⟩⟩
theorem tyOK_217 : TyOK Try.prog 217 tyE217 := ⟨Try.underlying217, Try.t217, Try.type217, rfl, rfl, rfl, fun _ => ⟨by kernel_rfl, by kernel_rfl, by rintro _ ⟨⟩; rfl⟩⟩
theorem tyOK_228 : TyOK Try.prog 228 tyE228 := ⟨Try.underlying228, Try.t228, Try.type228, rfl, rfl, rfl, fun h => by cases h⟩
theorem tyOK_232 : TyOK Try.prog 232 tyE232 := ⟨Try.underlying232, Try.t232, Try.type232, rfl, rfl, rfl, fun h => by cases h⟩
theorem tyOK_233 : TyOK Try.prog 233 tyE233 := ⟨Try.underlying233, Try.t233, Try.type233, rfl, rfl, rfl, fun _ => ⟨by kernel_rfl, by kernel_rfl, by rintro _ ⟨⟩; rfl⟩⟩
theorem tyOK_236 : TyOK Try.prog 236 tyE236 := ⟨Try.underlying236, Try.t236, Try.type236, rfl, rfl, rfl, fun h => by cases h⟩
theorem tyOK_260 : TyOK Try.prog 260 tyE260 := ⟨Try.underlying260, Try.t260, Try.type260, rfl, rfl, rfl, fun h => by cases h⟩
theorem tyOK_267 : TyOK Try.prog 267 tyE267 := ⟨Try.underlying267, Try.t267, Try.type267, rfl, rfl, rfl, fun h => by cases h⟩
theorem tyOK_271 : TyOK Try.prog 271 tyE271 := ⟨Try.underlying271, Try.t271, Try.type271, rfl, rfl, rfl, fun h => by cases h⟩
theorem tyOK_275 : TyOK Try.prog 275 tyE275 := ⟨Try.underlying275, Try.t275, Try.type275, rfl, rfl, rfl, fun h => by cases h⟩
theorem tyOK_284 : TyOK Try.prog 284 tyE284 := ⟨Try.underlying284, Try.t284, Try.type284, rfl, rfl, rfl, fun h => by cases h⟩
theorem tyOK_290 : TyOK Try.prog 290 tyE290 := ⟨Try.underlying290, Try.t290, Try.type290, rfl, rfl, rfl, fun h => by cases h⟩
theorem tyOK_293 : TyOK Try.prog 293 tyE293 := ⟨Try.underlying293, Try.t293, Try.type293, rfl, rfl, rfl, fun h => by cases h⟩
theorem tyOK_298 : TyOK Try.prog 298 tyE298 := ⟨Try.underlying298, Try.t298, Try.type298, rfl, rfl, rfl, fun h => by cases h⟩
theorem tyOK_301 : TyOK Try.prog 301 tyE301 := ⟨Try.underlying301, Try.t301, Try.type301, rfl, rfl, rfl, fun h => by cases h⟩
theorem tyOK_303 : TyOK Try.prog 303 tyE303 := ⟨Try.underlying303, Try.t303, Try.type303, rfl, rfl, rfl, fun h => by cases h⟩
theorem ty_ok : ∀ t x, ty t = some x → TyOK Try.prog t x := lookT_ok (allT_cons tyOK_2 (allT_cons tyOK_3 (allT_cons tyOK_4 (allT_cons tyOK_5 (allT_cons tyOK_7 (allT_cons tyOK_9 (allT_cons tyOK_12 (allT_cons tyOK_13 (allT_cons tyOK_15 (allT_cons tyOK_16 (allT_cons tyOK_17 (allT_cons tyOK_18 (allT_cons tyOK_21 (allT_cons tyOK_22 (allT_cons tyOK_24 (allT_cons tyOK_25 (allT_cons tyOK_26 (allT_cons tyOK_27 (allT_cons tyOK_28 (allT_cons tyOK_29 (allT_cons tyOK_30 (allT_cons tyOK_31 (allT_cons tyOK_36 (allT_cons tyOK_39 (allT_cons tyOK_40 (allT_cons tyOK_50 (allT_cons tyOK_54 (allT_cons tyOK_55 (allT_cons tyOK_67 (allT_cons tyOK_80 (allT_cons tyOK_84 (allT_cons tyOK_87 (allT_cons tyOK_91 (allT_cons tyOK_100 (allT_cons tyOK_107 (allT_cons tyOK_108 (allT_cons tyOK_113 (allT_cons tyOK_114 (allT_cons tyOK_126 (allT_cons tyOK_129 (allT_cons tyOK_130 (allT_cons tyOK_133 (allT_cons tyOK_134 (allT_cons tyOK_135 (allT_cons tyOK_136 (allT_cons tyOK_149 (allT_cons tyOK_150 (allT_cons tyOK_167 (allT_cons tyOK_168 (allT_cons tyOK_215 (allT_cons tyOK_216 (allT_cons tyOK_217 (allT_cons tyOK_228 (allT_cons tyOK_232 (allT_cons tyOK_233 (allT_cons tyOK_236 (allT_cons tyOK_260 (allT_cons tyOK_267 (allT_cons tyOK_271 (allT_cons tyOK_275 (allT_cons tyOK_284 (allT_cons tyOK_290 (allT_cons tyOK_293 (allT_cons tyOK_298 (allT_cons tyOK_301 (allT_cons tyOK_303 allT_nil))))))))))))))))))))))))))))))))))))))))))))))))))))))))))))))))))
end Go.Proofs.Ytgminbcbkcacnaa
