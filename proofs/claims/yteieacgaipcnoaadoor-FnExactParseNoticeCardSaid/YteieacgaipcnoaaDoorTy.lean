/- The types of the seat as a table. Made by program (genty.py). -/
import Derived.Test.YteieacgaipcnoaaDoorProg
import Derived.Test.YteieacgaipcnoaaDoorAbSpec
import Derived.KernelRfl
namespace Go.Proofs.YteieacgaipcnoaaDoor
open Go Go.Ab
set_option maxRecDepth 100000

abbrev tyE2 : TyE := ⟨.int .i64, 1, 8, .int .i64 0, false⟩
abbrev tyE3 : TyE := ⟨.int .i64, 1, 8, .int .i64 0, false⟩
abbrev tyE4 : TyE := ⟨.bool, 1, 1, .bool false, false⟩
abbrev tyE5 : TyE := ⟨.int .u8, 1, 1, .int .u8 0, false⟩
abbrev tyE7 : TyE := ⟨.struct #[{ name := "x", type := 2, offset := 0, embedded := false, tag := "", pkgPath := "runtime", byteOffset := 0 }, { name := "y", type := 3, offset := 1, embedded := false, tag := "", pkgPath := "runtime", byteOffset := 8 }, { name := "signed", type := 4, offset := 2, embedded := false, tag := "", pkgPath := "runtime", byteOffset := 16 }, { name := "code", type := 6, offset := 3, embedded := false, tag := "", pkgPath := "runtime", byteOffset := 17 }], 4, 24, .agg #[.int .i64 0, .int .i64 0, .bool false, .int .u8 0], false⟩
abbrev tyE9 : TyE := ⟨.string, 1, 16, .string ByteArray.empty, false⟩
abbrev tyE12 : TyE := ⟨.int .u64, 1, 8, .int .u64 0, false⟩
abbrev tyE13 : TyE := ⟨.struct #[{ name := "msg", type := 9, offset := 0, embedded := false, tag := "", pkgPath := "runtime", byteOffset := 0 }, { name := "addr", type := 12, offset := 1, embedded := false, tag := "", pkgPath := "runtime", byteOffset := 16 }], 2, 24, .agg #[.string ByteArray.empty, .int .u64 0], false⟩
abbrev tyE15 : TyE := ⟨.pointer 94, 1, 8, .pointer none, false⟩
abbrev tyE16 : TyE := ⟨.pointer 97, 1, 8, .pointer none, false⟩
abbrev tyE17 : TyE := ⟨.pointer 105, 1, 8, .pointer none, false⟩
abbrev tyE18 : TyE := ⟨.struct #[{ name := "typ", type := 17, offset := 0, embedded := false, tag := "", pkgPath := "internal/runtime/maps", byteOffset := 0 }], 1, 8, .agg #[.pointer none], false⟩
abbrev tyE21 : TyE := ⟨.int .i32, 1, 4, .int .i32 0, false⟩
abbrev tyE22 : TyE := ⟨.struct #[{ name := "Kind", type := 3, offset := 0, embedded := false, tag := "", pkgPath := "", byteOffset := 0 }, { name := "Line", type := 9, offset := 1, embedded := false, tag := "", pkgPath := "", byteOffset := 8 }, { name := "Stop", type := 9, offset := 2, embedded := false, tag := "", pkgPath := "", byteOffset := 24 }, { name := "From", type := 3, offset := 3, embedded := false, tag := "", pkgPath := "", byteOffset := 40 }, { name := "To", type := 3, offset := 4, embedded := false, tag := "", pkgPath := "", byteOffset := 48 }, { name := "Minutes", type := 3, offset := 5, embedded := false, tag := "", pkgPath := "", byteOffset := 56 }], 6, 64, .agg #[.int .i64 0, .string ByteArray.empty, .string ByteArray.empty, .int .i64 0, .int .i64 0, .int .i64 0], false⟩
abbrev tyE23 : TyE := ⟨.struct #[{ name := "Kind", type := 3, offset := 0, embedded := false, tag := "", pkgPath := "", byteOffset := 0 }, { name := "Line", type := 9, offset := 1, embedded := false, tag := "", pkgPath := "", byteOffset := 8 }, { name := "Stop", type := 9, offset := 2, embedded := false, tag := "", pkgPath := "", byteOffset := 24 }, { name := "From", type := 3, offset := 3, embedded := false, tag := "", pkgPath := "", byteOffset := 40 }, { name := "To", type := 3, offset := 4, embedded := false, tag := "", pkgPath := "", byteOffset := 48 }, { name := "Minutes", type := 3, offset := 5, embedded := false, tag := "", pkgPath := "", byteOffset := 56 }], 6, 64, .agg #[.int .i64 0, .string ByteArray.empty, .string ByteArray.empty, .int .i64 0, .int .i64 0, .int .i64 0], true⟩
abbrev tyE28 : TyE := ⟨.slice 23, 1, 24, .slice none 0 0, false⟩
abbrev tyE33 : TyE := ⟨.pointer 35, 1, 8, .pointer none, false⟩
abbrev tyE34 : TyE := ⟨.struct #[{ name := "s", type := 9, offset := 0, embedded := false, tag := "", pkgPath := "loop.example/g00900/spec", byteOffset := 0 }, { name := "at", type := 3, offset := 1, embedded := false, tag := "", pkgPath := "loop.example/g00900/spec", byteOffset := 16 }, { name := "bad", type := 4, offset := 2, embedded := false, tag := "", pkgPath := "loop.example/g00900/spec", byteOffset := 24 }], 3, 32, .agg #[.string ByteArray.empty, .int .i64 0, .bool false], true⟩
abbrev tyE35 : TyE := ⟨.struct #[{ name := "s", type := 9, offset := 0, embedded := false, tag := "", pkgPath := "loop.example/g00900/spec", byteOffset := 0 }, { name := "at", type := 3, offset := 1, embedded := false, tag := "", pkgPath := "loop.example/g00900/spec", byteOffset := 16 }, { name := "bad", type := 4, offset := 2, embedded := false, tag := "", pkgPath := "loop.example/g00900/spec", byteOffset := 24 }], 3, 32, .agg #[.string ByteArray.empty, .int .i64 0, .bool false], true⟩
abbrev tyE42 : TyE := ⟨.slice 9, 1, 24, .slice none 0 0, false⟩
abbrev tyE54 : TyE := ⟨.slice 5, 1, 24, .slice none 0 0, false⟩
abbrev tyE62 : TyE := ⟨.array 4 3, 4, 32, .agg #[.int .i64 0, .int .i64 0, .int .i64 0, .int .i64 0], false⟩
abbrev tyE71 : TyE := ⟨.array 24 5, 24, 24, .agg #[.int .u8 0, .int .u8 0, .int .u8 0, .int .u8 0, .int .u8 0, .int .u8 0, .int .u8 0, .int .u8 0, .int .u8 0, .int .u8 0, .int .u8 0, .int .u8 0, .int .u8 0, .int .u8 0, .int .u8 0, .int .u8 0, .int .u8 0, .int .u8 0, .int .u8 0, .int .u8 0, .int .u8 0, .int .u8 0, .int .u8 0, .int .u8 0], false⟩
abbrev tyE72 : TyE := ⟨.int .u64, 1, 8, .int .u64 0, false⟩
abbrev tyE78 : TyE := ⟨.int .u64, 1, 8, .int .u64 0, false⟩
abbrev tyE80 : TyE := ⟨.array 20 72, 20, 160, .agg #[.int .u64 0, .int .u64 0, .int .u64 0, .int .u64 0, .int .u64 0, .int .u64 0, .int .u64 0, .int .u64 0, .int .u64 0, .int .u64 0, .int .u64 0, .int .u64 0, .int .u64 0, .int .u64 0, .int .u64 0, .int .u64 0, .int .u64 0, .int .u64 0, .int .u64 0, .int .u64 0], false⟩
abbrev tyE81 : TyE := ⟨.int .u32, 1, 4, .int .u32 0, false⟩
abbrev tyE82 : TyE := ⟨.array 65 5, 65, 65, .agg #[.int .u8 0, .int .u8 0, .int .u8 0, .int .u8 0, .int .u8 0, .int .u8 0, .int .u8 0, .int .u8 0, .int .u8 0, .int .u8 0, .int .u8 0, .int .u8 0, .int .u8 0, .int .u8 0, .int .u8 0, .int .u8 0, .int .u8 0, .int .u8 0, .int .u8 0, .int .u8 0, .int .u8 0, .int .u8 0, .int .u8 0, .int .u8 0, .int .u8 0, .int .u8 0, .int .u8 0, .int .u8 0, .int .u8 0, .int .u8 0, .int .u8 0, .int .u8 0, .int .u8 0, .int .u8 0, .int .u8 0, .int .u8 0, .int .u8 0, .int .u8 0, .int .u8 0, .int .u8 0, .int .u8 0, .int .u8 0, .int .u8 0, .int .u8 0, .int .u8 0, .int .u8 0, .int .u8 0, .int .u8 0, .int .u8 0, .int .u8 0, .int .u8 0, .int .u8 0, .int .u8 0, .int .u8 0, .int .u8 0, .int .u8 0, .int .u8 0, .int .u8 0, .int .u8 0, .int .u8 0, .int .u8 0, .int .u8 0, .int .u8 0, .int .u8 0, .int .u8 0], false⟩
abbrev tyE85 : TyE := ⟨.struct #[{ name := "lo", type := 5, offset := 0, embedded := false, tag := "", pkgPath := "unicode/utf8", byteOffset := 0 }, { name := "hi", type := 5, offset := 1, embedded := false, tag := "", pkgPath := "unicode/utf8", byteOffset := 1 }], 2, 2, .agg #[.int .u8 0, .int .u8 0], false⟩
abbrev tyE86 : TyE := ⟨.struct #[{ name := "lo", type := 5, offset := 0, embedded := false, tag := "", pkgPath := "unicode/utf8", byteOffset := 0 }, { name := "hi", type := 5, offset := 1, embedded := false, tag := "", pkgPath := "unicode/utf8", byteOffset := 1 }], 2, 2, .agg #[.int .u8 0, .int .u8 0], false⟩
abbrev tyE87 : TyE := ⟨.array 16 86, 32, 32, .agg #[.int .u8 0, .int .u8 0, .int .u8 0, .int .u8 0, .int .u8 0, .int .u8 0, .int .u8 0, .int .u8 0, .int .u8 0, .int .u8 0, .int .u8 0, .int .u8 0, .int .u8 0, .int .u8 0, .int .u8 0, .int .u8 0, .int .u8 0, .int .u8 0, .int .u8 0, .int .u8 0, .int .u8 0, .int .u8 0, .int .u8 0, .int .u8 0, .int .u8 0, .int .u8 0, .int .u8 0, .int .u8 0, .int .u8 0, .int .u8 0, .int .u8 0, .int .u8 0], false⟩
abbrev tyE91 : TyE := ⟨.array 32 5, 32, 32, .agg #[.int .u8 0, .int .u8 0, .int .u8 0, .int .u8 0, .int .u8 0, .int .u8 0, .int .u8 0, .int .u8 0, .int .u8 0, .int .u8 0, .int .u8 0, .int .u8 0, .int .u8 0, .int .u8 0, .int .u8 0, .int .u8 0, .int .u8 0, .int .u8 0, .int .u8 0, .int .u8 0, .int .u8 0, .int .u8 0, .int .u8 0, .int .u8 0, .int .u8 0, .int .u8 0, .int .u8 0, .int .u8 0, .int .u8 0, .int .u8 0, .int .u8 0, .int .u8 0], false⟩
abbrev tyE92 : TyE := ⟨.array 64 5, 64, 64, .agg #[.int .u8 0, .int .u8 0, .int .u8 0, .int .u8 0, .int .u8 0, .int .u8 0, .int .u8 0, .int .u8 0, .int .u8 0, .int .u8 0, .int .u8 0, .int .u8 0, .int .u8 0, .int .u8 0, .int .u8 0, .int .u8 0, .int .u8 0, .int .u8 0, .int .u8 0, .int .u8 0, .int .u8 0, .int .u8 0, .int .u8 0, .int .u8 0, .int .u8 0, .int .u8 0, .int .u8 0, .int .u8 0, .int .u8 0, .int .u8 0, .int .u8 0, .int .u8 0, .int .u8 0, .int .u8 0, .int .u8 0, .int .u8 0, .int .u8 0, .int .u8 0, .int .u8 0, .int .u8 0, .int .u8 0, .int .u8 0, .int .u8 0, .int .u8 0, .int .u8 0, .int .u8 0, .int .u8 0, .int .u8 0, .int .u8 0, .int .u8 0, .int .u8 0, .int .u8 0, .int .u8 0, .int .u8 0, .int .u8 0, .int .u8 0, .int .u8 0, .int .u8 0, .int .u8 0, .int .u8 0, .int .u8 0, .int .u8 0, .int .u8 0, .int .u8 0], false⟩
abbrev tyE93 : TyE := ⟨.struct #[{ name := "_interface", type := 17, offset := 0, embedded := false, tag := "", pkgPath := "runtime", byteOffset := 0 }, { name := "concrete", type := 17, offset := 1, embedded := false, tag := "", pkgPath := "runtime", byteOffset := 8 }, { name := "asserted", type := 17, offset := 2, embedded := false, tag := "", pkgPath := "runtime", byteOffset := 16 }, { name := "missingMethod", type := 9, offset := 3, embedded := false, tag := "", pkgPath := "runtime", byteOffset := 24 }], 4, 40, .agg #[.pointer none, .pointer none, .pointer none, .string ByteArray.empty], false⟩
abbrev tyE96 : TyE := ⟨.struct #[{ name := "_", type := 95, offset := 0, embedded := false, tag := "", pkgPath := "runtime", byteOffset := 0 }], 0, 0, .agg #[], false⟩
abbrev tyE101 : TyE := ⟨.pointer 5, 1, 8, .pointer none, false⟩
abbrev tyE104 : TyE := ⟨.struct #[{ name := "Size_", type := 12, offset := 0, embedded := false, tag := "", pkgPath := "", byteOffset := 0 }, { name := "PtrBytes", type := 12, offset := 1, embedded := false, tag := "", pkgPath := "", byteOffset := 8 }, { name := "Hash", type := 81, offset := 2, embedded := false, tag := "", pkgPath := "", byteOffset := 16 }, { name := "TFlag", type := 98, offset := 3, embedded := false, tag := "", pkgPath := "", byteOffset := 20 }, { name := "Align_", type := 5, offset := 4, embedded := false, tag := "", pkgPath := "", byteOffset := 21 }, { name := "FieldAlign_", type := 5, offset := 5, embedded := false, tag := "", pkgPath := "", byteOffset := 22 }, { name := "Kind_", type := 99, offset := 6, embedded := false, tag := "", pkgPath := "", byteOffset := 23 }, { name := "Equal", type := 100, offset := 7, embedded := false, tag := "", pkgPath := "", byteOffset := 24 }, { name := "GCData", type := 101, offset := 8, embedded := false, tag := "", pkgPath := "", byteOffset := 32 }, { name := "Str", type := 102, offset := 9, embedded := false, tag := "", pkgPath := "", byteOffset := 40 }, { name := "PtrToThis", type := 103, offset := 10, embedded := false, tag := "", pkgPath := "", byteOffset := 44 }], 11, 48, .agg #[.int .u64 0, .int .u64 0, .int .u32 0, .int .u8 0, .int .u8 0, .int .u8 0, .int .u8 0, .nilFunc, .pointer none, .int .i32 0, .int .i32 0], false⟩
abbrev tyE106 : TyE := ⟨.unsafePointer, 1, 8, .pointer none, false⟩
def tyL : List (Nat × TyE) := [(2, tyE2), (3, tyE3), (4, tyE4), (5, tyE5), (7, tyE7), (9, tyE9), (12, tyE12), (13, tyE13), (15, tyE15), (16, tyE16), (17, tyE17), (18, tyE18), (21, tyE21), (22, tyE22), (23, tyE23), (28, tyE28), (33, tyE33), (34, tyE34), (35, tyE35), (42, tyE42), (54, tyE54), (62, tyE62), (71, tyE71), (72, tyE72), (78, tyE78), (80, tyE80), (81, tyE81), (82, tyE82), (85, tyE85), (86, tyE86), (87, tyE87), (91, tyE91), (92, tyE92), (93, tyE93), (96, tyE96), (101, tyE101), (104, tyE104), (106, tyE106)]
def ty (t : TypeId) : Option TyE := lookT t tyL
@[simp] theorem ty_2 : ty 2 = some tyE2 := rfl
@[simp] theorem ty_3 : ty 3 = some tyE3 := rfl
@[simp] theorem ty_4 : ty 4 = some tyE4 := rfl
@[simp] theorem ty_5 : ty 5 = some tyE5 := rfl
@[simp] theorem ty_7 : ty 7 = some tyE7 := rfl
@[simp] theorem ty_9 : ty 9 = some tyE9 := rfl
@[simp] theorem ty_12 : ty 12 = some tyE12 := rfl
@[simp] theorem ty_13 : ty 13 = some tyE13 := rfl
@[simp] theorem ty_15 : ty 15 = some tyE15 := rfl
@[simp] theorem ty_16 : ty 16 = some tyE16 := rfl
@[simp] theorem ty_17 : ty 17 = some tyE17 := rfl
@[simp] theorem ty_18 : ty 18 = some tyE18 := rfl
@[simp] theorem ty_21 : ty 21 = some tyE21 := rfl
@[simp] theorem ty_22 : ty 22 = some tyE22 := rfl
@[simp] theorem ty_23 : ty 23 = some tyE23 := rfl
@[simp] theorem ty_28 : ty 28 = some tyE28 := rfl
@[simp] theorem ty_33 : ty 33 = some tyE33 := rfl
@[simp] theorem ty_34 : ty 34 = some tyE34 := rfl
@[simp] theorem ty_35 : ty 35 = some tyE35 := rfl
@[simp] theorem ty_42 : ty 42 = some tyE42 := rfl
@[simp] theorem ty_54 : ty 54 = some tyE54 := rfl
@[simp] theorem ty_62 : ty 62 = some tyE62 := rfl
@[simp] theorem ty_71 : ty 71 = some tyE71 := rfl
@[simp] theorem ty_72 : ty 72 = some tyE72 := rfl
@[simp] theorem ty_78 : ty 78 = some tyE78 := rfl
@[simp] theorem ty_80 : ty 80 = some tyE80 := rfl
@[simp] theorem ty_81 : ty 81 = some tyE81 := rfl
@[simp] theorem ty_82 : ty 82 = some tyE82 := rfl
@[simp] theorem ty_85 : ty 85 = some tyE85 := rfl
@[simp] theorem ty_86 : ty 86 = some tyE86 := rfl
@[simp] theorem ty_87 : ty 87 = some tyE87 := rfl
@[simp] theorem ty_91 : ty 91 = some tyE91 := rfl
@[simp] theorem ty_92 : ty 92 = some tyE92 := rfl
@[simp] theorem ty_93 : ty 93 = some tyE93 := rfl
@[simp] theorem ty_96 : ty 96 = some tyE96 := rfl
@[simp] theorem ty_101 : ty 101 = some tyE101 := rfl
@[simp] theorem ty_104 : ty 104 = some tyE104 := rfl
@[simp] theorem ty_106 : ty 106 = some tyE106 := rfl
theorem tyOK_2 : TyOK Tryd.prog 2 tyE2 := ⟨Tryd.underlying2, Tryd.t2, Tryd.type2, rfl, rfl, rfl, fun h => by cases h⟩
theorem tyOK_3 : TyOK Tryd.prog 3 tyE3 := ⟨Tryd.underlying3, Tryd.t3, Tryd.type3, rfl, rfl, rfl, fun h => by cases h⟩
theorem tyOK_4 : TyOK Tryd.prog 4 tyE4 := ⟨Tryd.underlying4, Tryd.t4, Tryd.type4, rfl, rfl, rfl, fun h => by cases h⟩
theorem tyOK_5 : TyOK Tryd.prog 5 tyE5 := ⟨Tryd.underlying5, Tryd.t5, Tryd.type5, rfl, rfl, rfl, fun h => by cases h⟩
theorem tyOK_7 : TyOK Tryd.prog 7 tyE7 := ⟨Tryd.underlying7, Tryd.t7, Tryd.type7, rfl, rfl, rfl, fun h => by cases h⟩
theorem tyOK_9 : TyOK Tryd.prog 9 tyE9 := ⟨Tryd.underlying9, Tryd.t9, Tryd.type9, rfl, rfl, rfl, fun h => by cases h⟩
theorem tyOK_12 : TyOK Tryd.prog 12 tyE12 := ⟨Tryd.underlying12, Tryd.t12, Tryd.type12, rfl, rfl, rfl, fun h => by cases h⟩
theorem tyOK_13 : TyOK Tryd.prog 13 tyE13 := ⟨Tryd.underlying13, Tryd.t13, Tryd.type13, rfl, rfl, rfl, fun h => by cases h⟩
theorem tyOK_15 : TyOK Tryd.prog 15 tyE15 := ⟨Tryd.underlying15, Tryd.t15, Tryd.type15, rfl, rfl, rfl, fun h => by cases h⟩
theorem tyOK_16 : TyOK Tryd.prog 16 tyE16 := ⟨Tryd.underlying16, Tryd.t16, Tryd.type16, rfl, rfl, rfl, fun h => by cases h⟩
theorem tyOK_17 : TyOK Tryd.prog 17 tyE17 := ⟨Tryd.underlying17, Tryd.t17, Tryd.type17, rfl, rfl, rfl, fun h => by cases h⟩
theorem tyOK_18 : TyOK Tryd.prog 18 tyE18 := ⟨Tryd.underlying18, Tryd.t18, Tryd.type18, rfl, rfl, rfl, fun h => by cases h⟩
theorem tyOK_21 : TyOK Tryd.prog 21 tyE21 := ⟨Tryd.underlying21, Tryd.t21, Tryd.type21, rfl, rfl, rfl, fun h => by cases h⟩
theorem tyOK_22 : TyOK Tryd.prog 22 tyE22 := ⟨Tryd.underlying22, Tryd.t22, Tryd.type22, rfl, rfl, rfl, fun h => by cases h⟩
theorem tyOK_23 : TyOK Tryd.prog 23 tyE23 := ⟨Tryd.underlying23, Tryd.t23, Tryd.type23, rfl, rfl, rfl, fun _ => ⟨by kernel_rfl, by kernel_rfl, by rintro _ ⟨⟩; rfl⟩⟩
theorem tyOK_28 : TyOK Tryd.prog 28 tyE28 := ⟨Tryd.underlying28, Tryd.t28, Tryd.type28, rfl, rfl, rfl, fun h => by cases h⟩
theorem tyOK_33 : TyOK Tryd.prog 33 tyE33 := ⟨Tryd.underlying33, Tryd.t33, Tryd.type33, rfl, rfl, rfl, fun h => by cases h⟩
theorem tyOK_34 : TyOK Tryd.prog 34 tyE34 := ⟨Tryd.underlying34, Tryd.t34, Tryd.type34, rfl, rfl, rfl, fun _ => ⟨by kernel_rfl, by kernel_rfl, by rintro _ ⟨⟩; rfl⟩⟩
theorem tyOK_35 : TyOK Tryd.prog 35 tyE35 := ⟨Tryd.underlying35, Tryd.t35, Tryd.type35, rfl, rfl, rfl, fun _ => ⟨by kernel_rfl, by kernel_rfl, by rintro _ ⟨⟩; rfl⟩⟩
theorem tyOK_42 : TyOK Tryd.prog 42 tyE42 := ⟨Tryd.underlying42, Tryd.t42, Tryd.type42, rfl, rfl, rfl, fun h => by cases h⟩
theorem tyOK_54 : TyOK Tryd.prog 54 tyE54 := ⟨Tryd.underlying54, Tryd.t54, Tryd.type54, rfl, rfl, rfl, fun h => by cases h⟩
theorem tyOK_62 : TyOK Tryd.prog 62 tyE62 := ⟨Tryd.underlying62, Tryd.t62, Tryd.type62, rfl, rfl, rfl, fun h => by cases h⟩
theorem tyOK_71 : TyOK Tryd.prog 71 tyE71 := ⟨Tryd.underlying71, Tryd.t71, Tryd.type71, rfl, rfl, rfl, fun h => by cases h⟩
theorem tyOK_72 : TyOK Tryd.prog 72 tyE72 := ⟨Tryd.underlying72, Tryd.t72, Tryd.type72, rfl, rfl, rfl, fun h => by cases h⟩
theorem tyOK_78 : TyOK Tryd.prog 78 tyE78 := ⟨Tryd.underlying78, Tryd.t78, Tryd.type78, rfl, rfl, rfl, fun h => by cases h⟩
theorem tyOK_80 : TyOK Tryd.prog 80 tyE80 := ⟨Tryd.underlying80, Tryd.t80, Tryd.type80, rfl, rfl, rfl, fun h => by cases h⟩
theorem tyOK_81 : TyOK Tryd.prog 81 tyE81 := ⟨Tryd.underlying81, Tryd.t81, Tryd.type81, rfl, rfl, rfl, fun h => by cases h⟩
theorem tyOK_82 : TyOK Tryd.prog 82 tyE82 := ⟨Tryd.underlying82, Tryd.t82, Tryd.type82, rfl, rfl, rfl, fun h => by cases h⟩
theorem tyOK_85 : TyOK Tryd.prog 85 tyE85 := ⟨Tryd.underlying85, Tryd.t85, Tryd.type85, rfl, rfl, rfl, fun h => by cases h⟩
theorem tyOK_86 : TyOK Tryd.prog 86 tyE86 := ⟨Tryd.underlying86, Tryd.t86, Tryd.type86, rfl, rfl, rfl, fun h => by cases h⟩
theorem tyOK_87 : TyOK Tryd.prog 87 tyE87 := ⟨Tryd.underlying87, Tryd.t87, Tryd.type87, rfl, rfl, rfl, fun h => by cases h⟩
theorem tyOK_91 : TyOK Tryd.prog 91 tyE91 := ⟨Tryd.underlying91, Tryd.t91, Tryd.type91, rfl, rfl, rfl, fun h => by cases h⟩
theorem tyOK_92 : TyOK Tryd.prog 92 tyE92 := ⟨Tryd.underlying92, Tryd.t92, Tryd.type92, rfl, rfl, rfl, fun h => by cases h⟩
theorem tyOK_93 : TyOK Tryd.prog 93 tyE93 := ⟨Tryd.underlying93, Tryd.t93, Tryd.type93, rfl, rfl, rfl, fun h => by cases h⟩
theorem tyOK_96 : TyOK Tryd.prog 96 tyE96 := ⟨Tryd.underlying96, Tryd.t96, Tryd.type96, rfl, rfl, rfl, fun h => by cases h⟩
theorem tyOK_101 : TyOK Tryd.prog 101 tyE101 := ⟨Tryd.underlying101, Tryd.t101, Tryd.type101, rfl, rfl, rfl, fun h => by cases h⟩
theorem tyOK_104 : TyOK Tryd.prog 104 tyE104 := ⟨Tryd.underlying104, Tryd.t104, Tryd.type104, rfl, rfl, rfl, fun h => by cases h⟩
theorem tyOK_106 : TyOK Tryd.prog 106 tyE106 := ⟨Tryd.underlying106, Tryd.t106, Tryd.type106, rfl, rfl, rfl, fun h => by cases h⟩
theorem ty_ok : ∀ t x, ty t = some x → TyOK Tryd.prog t x := lookT_ok (allT_cons tyOK_2 (allT_cons tyOK_3 (allT_cons tyOK_4 (allT_cons tyOK_5 (allT_cons tyOK_7 (allT_cons tyOK_9 (allT_cons tyOK_12 (allT_cons tyOK_13 (allT_cons tyOK_15 (allT_cons tyOK_16 (allT_cons tyOK_17 (allT_cons tyOK_18 (allT_cons tyOK_21 (allT_cons tyOK_22 (allT_cons tyOK_23 (allT_cons tyOK_28 (allT_cons tyOK_33 (allT_cons tyOK_34 (allT_cons tyOK_35 (allT_cons tyOK_42 (allT_cons tyOK_54 (allT_cons tyOK_62 (allT_cons tyOK_71 (allT_cons tyOK_72 (allT_cons tyOK_78 (allT_cons tyOK_80 (allT_cons tyOK_81 (allT_cons tyOK_82 (allT_cons tyOK_85 (allT_cons tyOK_86 (allT_cons tyOK_87 (allT_cons tyOK_91 (allT_cons tyOK_92 (allT_cons tyOK_93 (allT_cons tyOK_96 (allT_cons tyOK_101 (allT_cons tyOK_104 (allT_cons tyOK_106 allT_nil))))))))))))))))))))))))))))))))))))))
end Go.Proofs.YteieacgaipcnoaaDoor
