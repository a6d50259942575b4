/- The types of the seat as a table. Made by program (genty.py). -/
import Derived.Test.YtdocbkbpjdjlpaaGreatProg
import Derived.Test.YtdocbkbpjdjlpaaGreatAbSpec
import Derived.KernelRfl
namespace Go.Proofs.YtdocbkbpjdjlpaaGreat
open Go Go.Ab
set_option maxRecDepth 100000

abbrev tyE2 : TyE := ⟨.int .i64, 1, 8, .int .i64 0, false⟩
abbrev tyE3 : TyE := ⟨.int .i64, 1, 8, .int .i64 0, false⟩
abbrev tyE4 : TyE := ⟨.bool, 1, 1, .bool false, false⟩
abbrev tyE5 : TyE := ⟨.int .u8, 1, 1, .int .u8 0, false⟩
abbrev tyE7 : TyE := ⟨.struct #[⟨"x", 2, 0, false, "", "runtime", 0⟩, ⟨"y", 3, 1, false, "", "runtime", 8⟩, ⟨"signed", 4, 2, false, "", "runtime", 16⟩, ⟨"code", 6, 3, false, "", "runtime", 17⟩], 4, 24, .agg #[.int .i64 0, .int .i64 0, .bool false, .int .u8 0], false⟩
abbrev tyE9 : TyE := ⟨.string, 1, 16, .string ByteArray.empty, false⟩
abbrev tyE12 : TyE := ⟨.int .u64, 1, 8, .int .u64 0, false⟩
abbrev tyE13 : TyE := ⟨.struct #[⟨"msg", 9, 0, false, "", "runtime", 0⟩, ⟨"addr", 12, 1, false, "", "runtime", 16⟩], 2, 24, .agg #[.string ByteArray.empty, .int .u64 0], false⟩
abbrev tyE15 : TyE := ⟨.pointer 206, 1, 8, .pointer none, false⟩
abbrev tyE16 : TyE := ⟨.pointer 209, 1, 8, .pointer none, false⟩
abbrev tyE17 : TyE := ⟨.pointer 217, 1, 8, .pointer none, false⟩
abbrev tyE18 : TyE := ⟨.struct #[⟨"typ", 17, 0, false, "", "internal/runtime/maps", 0⟩], 1, 8, .agg #[.pointer none], false⟩
abbrev tyE21 : TyE := ⟨.int .i32, 1, 4, .int .i32 0, false⟩
abbrev tyE22 : TyE := ⟨.slice 5, 1, 24, .slice none 0 0, false⟩
abbrev tyE24 : TyE := ⟨.slice 9, 1, 24, .slice none 0 0, false⟩
abbrev tyE25 : TyE := ⟨.slice 108, 1, 24, .slice none 0 0, false⟩
abbrev tyE26 : TyE := ⟨.struct #[⟨"Stops", 24, 0, false, "", "", 0⟩, ⟨"Lines", 25, 1, false, "", "", 24⟩], 2, 48, .agg #[.slice none 0 0, .slice none 0 0], false⟩
abbrev tyE27 : TyE := ⟨.struct #[⟨"Stops", 24, 0, false, "", "", 0⟩, ⟨"Lines", 25, 1, false, "", "", 24⟩], 2, 48, .agg #[.slice none 0 0, .slice none 0 0], true⟩
abbrev tyE28 : TyE := ⟨.slice 65, 1, 24, .slice none 0 0, false⟩
abbrev tyE29 : TyE := ⟨.struct #[⟨"Network", 27, 0, false, "", "", 0⟩, ⟨"Trips", 28, 2, false, "", "", 48⟩], 3, 72, .agg #[.slice none 0 0, .slice none 0 0, .slice none 0 0], false⟩
abbrev tyE30 : TyE := ⟨.struct #[⟨"Network", 27, 0, false, "", "", 0⟩, ⟨"Trips", 28, 2, false, "", "", 48⟩], 3, 72, .agg #[.slice none 0 0, .slice none 0 0, .slice none 0 0], true⟩
abbrev tyE31 : TyE := ⟨.slice 67, 1, 24, .slice none 0 0, false⟩
abbrev tyE37 : TyE := ⟨.slice 3, 1, 24, .slice none 0 0, false⟩
abbrev tyE44 : TyE := ⟨.slice 51, 1, 24, .slice none 0 0, false⟩
abbrev tyE50 : TyE := ⟨.struct #[⟨"Trip", 3, 0, false, "", "", 0⟩, ⟨"From", 3, 1, false, "", "", 8⟩, ⟨"To", 3, 2, false, "", "", 16⟩, ⟨"Depart", 3, 3, false, "", "", 24⟩, ⟨"Arrive", 3, 4, false, "", "", 32⟩], 5, 40, .agg #[.int .i64 0, .int .i64 0, .int .i64 0, .int .i64 0, .int .i64 0], false⟩
abbrev tyE51 : TyE := ⟨.struct #[⟨"Trip", 3, 0, false, "", "", 0⟩, ⟨"From", 3, 1, false, "", "", 8⟩, ⟨"To", 3, 2, false, "", "", 16⟩, ⟨"Depart", 3, 3, false, "", "", 24⟩, ⟨"Arrive", 3, 4, false, "", "", 32⟩], 5, 40, .agg #[.int .i64 0, .int .i64 0, .int .i64 0, .int .i64 0, .int .i64 0], true⟩
abbrev tyE56 : TyE := ⟨.pointer 59, 1, 8, .pointer none, false⟩
abbrev tyE57 : TyE := ⟨.int .u64, 1, 8, .int .u64 0, false⟩
abbrev tyE58 : TyE := ⟨.struct #[⟨"code", 22, 0, false, "", "loop.example/g00900/spec", 0⟩, ⟨"at", 3, 1, false, "", "loop.example/g00900/spec", 24⟩, ⟨"seed", 57, 2, false, "", "loop.example/g00900/spec", 32⟩], 3, 40, .agg #[.slice none 0 0, .int .i64 0, .int .u64 0], true⟩
abbrev tyE59 : TyE := ⟨.struct #[⟨"code", 22, 0, false, "", "loop.example/g00900/spec", 0⟩, ⟨"at", 3, 1, false, "", "loop.example/g00900/spec", 24⟩, ⟨"seed", 57, 2, false, "", "loop.example/g00900/spec", 32⟩], 3, 40, .agg #[.slice none 0 0, .int .i64 0, .int .u64 0], true⟩
abbrev tyE64 : TyE := ⟨.struct #[⟨"Id", 3, 0, false, "", "", 0⟩, ⟨"Line", 3, 1, false, "", "", 8⟩, ⟨"Start", 3, 2, false, "", "", 16⟩], 3, 24, .agg #[.int .i64 0, .int .i64 0, .int .i64 0], false⟩
abbrev tyE65 : TyE := ⟨.struct #[⟨"Id", 3, 0, false, "", "", 0⟩, ⟨"Line", 3, 1, false, "", "", 8⟩, ⟨"Start", 3, 2, false, "", "", 16⟩], 3, 24, .agg #[.int .i64 0, .int .i64 0, .int .i64 0], true⟩
abbrev tyE66 : TyE := ⟨.struct #[⟨"Kind", 3, 0, false, "", "", 0⟩, ⟨"Trip", 65, 1, false, "", "", 8⟩, ⟨"To", 3, 4, false, "", "", 32⟩], 5, 40, .agg #[.int .i64 0, .int .i64 0, .int .i64 0, .int .i64 0, .int .i64 0], false⟩
abbrev tyE67 : TyE := ⟨.struct #[⟨"Kind", 3, 0, false, "", "", 0⟩, ⟨"Trip", 65, 1, false, "", "", 8⟩, ⟨"To", 3, 4, false, "", "", 32⟩], 5, 40, .agg #[.int .i64 0, .int .i64 0, .int .i64 0, .int .i64 0, .int .i64 0], true⟩
abbrev tyE77 : TyE := ⟨.slice 78, 1, 24, .slice none 0 0, false⟩
abbrev tyE78 : TyE := ⟨.array 2 3, 2, 16, .agg #[.int .i64 0, .int .i64 0], false⟩
abbrev tyE101 : TyE := ⟨.slice 31, 1, 24, .slice none 0 0, false⟩
abbrev tyE105 : TyE := ⟨.int .u64, 1, 8, .int .u64 0, false⟩
abbrev tyE107 : TyE := ⟨.struct #[⟨"Name", 9, 0, false, "", "", 0⟩, ⟨"Stops", 37, 1, false, "", "", 16⟩, ⟨"Runs", 37, 2, false, "", "", 40⟩], 3, 64, .agg #[.string ByteArray.empty, .slice none 0 0, .slice none 0 0], false⟩
abbrev tyE108 : TyE := ⟨.struct #[⟨"Name", 9, 0, false, "", "", 0⟩, ⟨"Stops", 37, 1, false, "", "", 16⟩, ⟨"Runs", 37, 2, false, "", "", 40⟩], 3, 64, .agg #[.string ByteArray.empty, .slice none 0 0, .slice none 0 0], true⟩
abbrev tyE141 : TyE := ⟨.int .i64, 1, 8, .int .i64 0, false⟩
abbrev tyE148 : TyE := ⟨.int .u32, 1, 4, .int .u32 0, false⟩
abbrev tyE153 : TyE := ⟨.pointer 155, 1, 8, .pointer none, false⟩
abbrev tyE154 : TyE := ⟨.struct #[⟨"t", 30, 0, false, "", "loop.example/g00900/spec", 0⟩, ⟨"change", 3, 3, false, "", "loop.example/g00900/spec", 72⟩, ⟨"to", 3, 4, false, "", "loop.example/g00900/spec", 80⟩, ⟨"arrive", 3, 5, false, "", "loop.example/g00900/spec", 88⟩], 6, 96, .agg #[.slice none 0 0, .slice none 0 0, .slice none 0 0, .int .i64 0, .int .i64 0, .int .i64 0], true⟩
abbrev tyE155 : TyE := ⟨.struct #[⟨"t", 30, 0, false, "", "loop.example/g00900/spec", 0⟩, ⟨"change", 3, 3, false, "", "loop.example/g00900/spec", 72⟩, ⟨"to", 3, 4, false, "", "loop.example/g00900/spec", 80⟩, ⟨"arrive", 3, 5, false, "", "loop.example/g00900/spec", 88⟩], 6, 96, .agg #[.slice none 0 0, .slice none 0 0, .slice none 0 0, .int .i64 0, .int .i64 0, .int .i64 0], true⟩
abbrev tyE169 : TyE := ⟨.int .u64, 1, 8, .int .u64 0, false⟩
abbrev tyE173 : TyE := ⟨.pointer 3, 1, 8, .pointer none, false⟩
abbrev tyE194 : TyE := ⟨.pointer 169, 1, 8, .pointer none, false⟩
abbrev tyE205 : TyE := ⟨.struct #[⟨"_interface", 17, 0, false, "", "runtime", 0⟩, ⟨"concrete", 17, 1, false, "", "runtime", 8⟩, ⟨"asserted", 17, 2, false, "", "runtime", 16⟩, ⟨"missingMethod", 9, 3, false, "", "runtime", 24⟩], 4, 40, .agg #[.pointer none, .pointer none, .pointer none, .string ByteArray.empty], false⟩
abbrev tyE208 : TyE := ⟨.struct #[⟨"_", 207, 0, false, "", "runtime", 0⟩], 0, 0, .agg #[], false⟩
abbrev tyE213 : TyE := ⟨.pointer 5, 1, 8, .pointer none, false⟩
abbrev tyE216 : TyE := ⟨.struct #[⟨"Size_", 12, 0, false, "", "", 0⟩, ⟨"PtrBytes", 12, 1, false, "", "", 8⟩, ⟨"Hash", 148, 2, false, "", "", 16⟩, ⟨"TFlag", 210, 3, false, "", "", 20⟩, ⟨"Align_", 5, 4, false, "", "", 21⟩, ⟨"FieldAlign_", 5, 5, false, "", "", 22⟩, ⟨"Kind_", 211, 6, false, "", "", 23⟩, ⟨"Equal", 212, 7, false, "", "", 24⟩, ⟨"GCData", 213, 8, false, "", "", 32⟩, ⟨"Str", 214, 9, false, "", "", 40⟩, ⟨"PtrToThis", 215, 10, false, "", "", 44⟩], 11, 48, .agg #[.int .u64 0, .int .u64 0, .int .u32 0, .int .u8 0, .int .u8 0, .int .u8 0, .int .u8 0, .nilFunc, .pointer none, .int .i32 0, .int .i32 0], false⟩
abbrev tyE218 : TyE := ⟨.unsafePointer, 1, 8, .pointer none, false⟩
def tyL : List (Nat × TyE) := [(2, tyE2), (3, tyE3), (4, tyE4), (5, tyE5), (7, tyE7), (9, tyE9), (12, tyE12), (13, tyE13), (15, tyE15), (16, tyE16), (17, tyE17), (18, tyE18), (21, tyE21), (22, tyE22), (24, tyE24), (25, tyE25), (26, tyE26), (27, tyE27), (28, tyE28), (29, tyE29), (30, tyE30), (31, tyE31), (37, tyE37), (44, tyE44), (50, tyE50), (51, tyE51), (56, tyE56), (57, tyE57), (58, tyE58), (59, tyE59), (64, tyE64), (65, tyE65), (66, tyE66), (67, tyE67), (77, tyE77), (78, tyE78), (101, tyE101), (105, tyE105), (107, tyE107), (108, tyE108), (141, tyE141), (148, tyE148), (153, tyE153), (154, tyE154), (155, tyE155), (169, tyE169), (173, tyE173), (194, tyE194), (205, tyE205), (208, tyE208), (213, tyE213), (216, tyE216), (218, tyE218)]
def ty (t : TypeId) : Option TyE := jo2 t tyL
theorem tyOK_2 : TyOK Tryz.prog 2 tyE2 := ⟨Tryz.underlying2, Tryz.t2, Tryz.type2, rfl, rfl, rfl, fun h => by cases h⟩
theorem tyOK_3 : TyOK Tryz.prog 3 tyE3 := ⟨Tryz.underlying3, Tryz.t3, Tryz.type3, rfl, rfl, rfl, fun h => by cases h⟩
theorem tyOK_4 : TyOK Tryz.prog 4 tyE4 := ⟨Tryz.underlying4, Tryz.t4, Tryz.type4, rfl, rfl, rfl, fun h => by cases h⟩
theorem tyOK_5 : TyOK Tryz.prog 5 tyE5 := ⟨Tryz.underlying5, Tryz.t5, Tryz.type5, rfl, rfl, rfl, fun h => by cases h⟩
theorem tyOK_7 : TyOK Tryz.prog 7 tyE7 := ⟨Tryz.underlying7, Tryz.t7, Tryz.type7, rfl, rfl, rfl, fun h => by cases h⟩
theorem tyOK_9 : TyOK Tryz.prog 9 tyE9 := ⟨Tryz.underlying9, Tryz.t9, Tryz.type9, rfl, rfl, rfl, fun h => by cases h⟩
theorem tyOK_12 : TyOK Tryz.prog 12 tyE12 := ⟨Tryz.underlying12, Tryz.t12, Tryz.type12, rfl, rfl, rfl, fun h => by cases h⟩
theorem tyOK_13 : TyOK Tryz.prog 13 tyE13 := ⟨Tryz.underlying13, Tryz.t13, Tryz.type13, rfl, rfl, rfl, fun h => by cases h⟩
theorem tyOK_15 : TyOK Tryz.prog 15 tyE15 := ⟨Tryz.underlying15, Tryz.t15, Tryz.type15, rfl, rfl, rfl, fun h => by cases h⟩
theorem tyOK_16 : TyOK Tryz.prog 16 tyE16 := ⟨Tryz.underlying16, Tryz.t16, Tryz.type16, rfl, rfl, rfl, fun h => by cases h⟩
theorem tyOK_17 : TyOK Tryz.prog 17 tyE17 := ⟨Tryz.underlying17, Tryz.t17, Tryz.type17, rfl, rfl, rfl, fun h => by cases h⟩
theorem tyOK_18 : TyOK Tryz.prog 18 tyE18 := ⟨Tryz.underlying18, Tryz.t18, Tryz.type18, rfl, rfl, rfl, fun h => by cases h⟩
theorem tyOK_21 : TyOK Tryz.prog 21 tyE21 := ⟨Tryz.underlying21, Tryz.t21, Tryz.type21, rfl, rfl, rfl, fun h => by cases h⟩
theorem tyOK_22 : TyOK Tryz.prog 22 tyE22 := ⟨Tryz.underlying22, Tryz.t22, Tryz.type22, rfl, rfl, rfl, fun h => by cases h⟩
theorem tyOK_24 : TyOK Tryz.prog 24 tyE24 := ⟨Tryz.underlying24, Tryz.t24, Tryz.type24, rfl, rfl, rfl, fun h => by cases h⟩
theorem tyOK_25 : TyOK Tryz.prog 25 tyE25 := ⟨Tryz.underlying25, Tryz.t25, Tryz.type25, rfl, rfl, rfl, fun h => by cases h⟩
theorem tyOK_26 : TyOK Tryz.prog 26 tyE26 := ⟨Tryz.underlying26, Tryz.t26, Tryz.type26, rfl, rfl, rfl, fun h => by cases h⟩
theorem tyOK_27 : TyOK Tryz.prog 27 tyE27 := ⟨Tryz.underlying27, Tryz.t27, Tryz.type27, rfl, rfl, rfl, fun _ => ⟨by kernel_rfl, by kernel_rfl, by rintro _ ⟨⟩; rfl⟩⟩
theorem tyOK_28 : TyOK Tryz.prog 28 tyE28 := ⟨Tryz.underlying28, Tryz.t28, Tryz.type28, rfl, rfl, rfl, fun h => by cases h⟩
theorem tyOK_29 : TyOK Tryz.prog 29 tyE29 := ⟨Tryz.underlying29, Tryz.t29, Tryz.type29, rfl, rfl, rfl, fun h => by cases h⟩
theorem tyOK_30 : TyOK Tryz.prog 30 tyE30 := ⟨Tryz.underlying30, Tryz.t30, Tryz.type30, rfl, rfl, rfl, fun _ => ⟨by kernel_rfl, by kernel_rfl, by rintro _ ⟨⟩; rfl⟩⟩
theorem tyOK_31 : TyOK Tryz.prog 31 tyE31 := ⟨Tryz.underlying31, Tryz.t31, Tryz.type31, rfl, rfl, rfl, fun h => by cases h⟩
theorem tyOK_37 : TyOK Tryz.prog 37 tyE37 := ⟨Tryz.underlying37, Tryz.t37, Tryz.type37, rfl, rfl, rfl, fun h => by cases h⟩
theorem tyOK_44 : TyOK Tryz.prog 44 tyE44 := ⟨Tryz.underlying44, Tryz.t44, Tryz.type44, rfl, rfl, rfl, fun h => by cases h⟩
theorem tyOK_50 : TyOK Tryz.prog 50 tyE50 := ⟨Tryz.underlying50, Tryz.t50, Tryz.type50, rfl, rfl, rfl, fun h => by cases h⟩
theorem tyOK_51 : TyOK Tryz.prog 51 tyE51 := ⟨Tryz.underlying51, Tryz.t51, Tryz.type51, rfl, rfl, rfl, fun _ => ⟨by kernel_rfl, by kernel_rfl, by rintro _ ⟨⟩; rfl⟩⟩
theorem tyOK_56 : TyOK Tryz.prog 56 tyE56 := ⟨Tryz.underlying56, Tryz.t56, Tryz.type56, rfl, rfl, rfl, fun h => by cases h⟩
theorem tyOK_57 : TyOK Tryz.prog 57 tyE57 := ⟨Tryz.underlying57, Tryz.t57, Tryz.type57, rfl, rfl, rfl, fun h => by cases h⟩
theorem tyOK_58 : TyOK Tryz.prog 58 tyE58 := ⟨Tryz.underlying58, Tryz.t58, Tryz.type58, rfl, rfl, rfl, fun _ => ⟨by kernel_rfl, by kernel_rfl, by rintro _ ⟨⟩; rfl⟩⟩
theorem tyOK_59 : TyOK Tryz.prog 59 tyE59 := ⟨Tryz.underlying59, Tryz.t59, Tryz.type59, rfl, rfl, rfl, fun _ => ⟨by kernel_rfl, by kernel_rfl, by rintro _ ⟨⟩; rfl⟩⟩
theorem tyOK_64 : TyOK Tryz.prog 64 tyE64 := ⟨Tryz.underlying64, Tryz.t64, Tryz.type64, rfl, rfl, rfl, fun h => by cases h⟩
theorem tyOK_65 : TyOK Tryz.prog 65 tyE65 := ⟨Tryz.underlying65, Tryz.t65, Tryz.type65, rfl, rfl, rfl, fun _ => ⟨by kernel_rfl, by kernel_rfl, by rintro _ ⟨⟩; rfl⟩⟩
theorem tyOK_66 : TyOK Tryz.prog 66 tyE66 := ⟨Tryz.underlying66, Tryz.t66, Tryz.type66, rfl, rfl, rfl, fun h => by cases h⟩
theorem tyOK_67 : TyOK Tryz.prog 67 tyE67 := ⟨Tryz.underlying67, Tryz.t67, Tryz.type67, rfl, rfl, rfl, fun _ => ⟨by kernel_rfl, by kernel_rfl, by rintro _ ⟨⟩; rfl⟩⟩
theorem tyOK_77 : TyOK Tryz.prog 77 tyE77 := ⟨Tryz.underlying77, Tryz.t77, Tryz.type77, rfl, rfl, rfl, fun h => by cases h⟩
theorem tyOK_78 : TyOK Tryz.prog 78 tyE78 := ⟨Tryz.underlying78, Tryz.t78, Tryz.type78, rfl, rfl, rfl, fun h => by cases h⟩
theorem tyOK_101 : TyOK Tryz.prog 101 tyE101 := ⟨Tryz.underlying101, Tryz.t101, Tryz.type101, rfl, rfl, rfl, fun h => by cases h⟩
theorem tyOK_105 : TyOK Tryz.prog 105 tyE105 := ⟨Tryz.underlying105, Tryz.t105, Tryz.type105, rfl, rfl, rfl, fun h => by cases h⟩
theorem tyOK_107 : TyOK Tryz.prog 107 tyE107 := ⟨Tryz.underlying107, Tryz.t107, Tryz.type107, rfl, rfl, rfl, fun h => by cases h⟩
theorem tyOK_108 : TyOK Tryz.prog 108 tyE108 := ⟨Tryz.underlying108, Tryz.t108, Tryz.type108, rfl, rfl, rfl, fun _ => ⟨by kernel_rfl, by kernel_rfl, by rintro _ ⟨⟩; rfl⟩⟩
theorem tyOK_141 : TyOK Tryz.prog 141 tyE141 := ⟨Tryz.underlying141, Tryz.t141, Tryz.type141, rfl, rfl, rfl, fun h => by cases h⟩
theorem tyOK_148 : TyOK Tryz.prog 148 tyE148 := ⟨Tryz.underlying148, Tryz.t148, Tryz.type148, rfl, rfl, rfl, fun h => by cases h⟩
theorem tyOK_153 : TyOK Tryz.prog 153 tyE153 := ⟨Tryz.underlying153, Tryz.t153, Tryz.type153, rfl, rfl, rfl, fun h => by cases h⟩
theorem tyOK_154 : TyOK Tryz.prog 154 tyE154 := ⟨Tryz.underlying154, Tryz.t154, Tryz.type154, rfl, rfl, rfl, fun _ => ⟨by kernel_rfl, by kernel_rfl, by rintro _ ⟨⟩; rfl⟩⟩
theorem tyOK_155 : TyOK Tryz.prog 155 tyE155 := ⟨Tryz.underlying155, Tryz.t155, Tryz.type155, rfl, rfl, rfl, fun _ => ⟨by kernel_rfl, by kernel_rfl, by rintro _ ⟨⟩; rfl⟩⟩
theorem tyOK_169 : TyOK Tryz.prog 169 tyE169 := ⟨Tryz.underlying169, Tryz.t169, Tryz.type169, rfl, rfl, rfl, fun h => by cases h⟩
theorem tyOK_173 : TyOK Tryz.prog 173 tyE173 := ⟨Tryz.underlying173, Tryz.t173, Tryz.type173, rfl, rfl, rfl, fun h => by cases h⟩
theorem tyOK_194 : TyOK Tryz.prog 194 tyE194 := ⟨Tryz.underlying194, Tryz.t194, Tryz.type194, rfl, rfl, rfl, fun h => by cases h⟩
theorem tyOK_205 : TyOK Tryz.prog 205 tyE205 := ⟨Tryz.underlying205, Tryz.t205, Tryz.type205, rfl, rfl, rfl, fun h => by cases h⟩
theorem tyOK_208 : TyOK Tryz.prog 208 tyE208 := ⟨Tryz.underlying208, Tryz.t208, Tryz.type208, rfl, rfl, rfl, fun h => by cases h⟩
theorem tyOK_213 : TyOK Tryz.prog 213 tyE213 := ⟨Tryz.underlying213, Tryz.t213, Tryz.type213, rfl, rfl, rfl, fun h => by cases h⟩
theorem tyOK_216 : TyOK Tryz.prog 216 tyE216 := ⟨Tryz.underlying216, Tryz.t216, Tryz.type216, rfl, rfl, rfl, fun h => by cases h⟩
theorem tyOK_218 : TyOK Tryz.prog 218 tyE218 := ⟨Tryz.underlying218, Tryz.t218, Tryz.type218, rfl, rfl, rfl, fun h => by cases h⟩
theorem ty_ok : ∀ t x, ty t = some x -> TyOK Tryz.prog t x := jma (jag tyOK_2 (jag tyOK_3 (jag tyOK_4 (jag tyOK_5 (jag tyOK_7 (jag tyOK_9 (jag tyOK_12 (jag tyOK_13 (jag tyOK_15 (jag tyOK_16 (jag tyOK_17 (jag tyOK_18 (jag tyOK_21 (jag tyOK_22 (jag tyOK_24 (jag tyOK_25 (jag tyOK_26 (jag tyOK_27 (jag tyOK_28 (jag tyOK_29 (jag tyOK_30 (jag tyOK_31 (jag tyOK_37 (jag tyOK_44 (jag tyOK_50 (jag tyOK_51 (jag tyOK_56 (jag tyOK_57 (jag tyOK_58 (jag tyOK_59 (jag tyOK_64 (jag tyOK_65 (jag tyOK_66 (jag tyOK_67 (jag tyOK_77 (jag tyOK_78 (jag tyOK_101 (jag tyOK_105 (jag tyOK_107 (jag tyOK_108 (jag tyOK_141 (jag tyOK_148 (jag tyOK_153 (jag tyOK_154 (jag tyOK_155 (jag tyOK_169 (jag tyOK_173 (jag tyOK_194 (jag tyOK_205 (jag tyOK_208 (jag tyOK_213 (jag tyOK_216 (jag tyOK_218 jq6)))))))))))))))))))))))))))))))))))))))))))))))))))))
end Go.Proofs.YtdocbkbpjdjlpaaGreat
