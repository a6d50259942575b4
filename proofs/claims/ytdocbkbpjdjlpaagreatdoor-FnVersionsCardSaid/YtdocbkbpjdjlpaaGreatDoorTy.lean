/- The types of the seat as a table. Made by program (genty.py). -/
import Derived.Test.YtdocbkbpjdjlpaaGreatDoorProg
import Derived.Test.YtdocbkbpjdjlpaaGreatDoorAbSpec
import Derived.KernelRfl
namespace Go.Proofs.YtdocbkbpjdjlpaaGreatDoor
open Go Go.Ab
set_option maxRecDepth 100000

abbrev tyE2 : TyE := ⟨.int .i64, 1, 8, .int .i64 0, false⟩
abbrev tyE3 : TyE := ⟨.int .i64, 1, 8, .int .i64 0, false⟩
abbrev tyE4 : TyE := ⟨.bool, 1, 1, .bool false, false⟩
abbrev tyE5 : TyE := ⟨.int .u8, 1, 1, .int .u8 0, false⟩
abbrev tyE7 : TyE := ⟨.struct #[⟨"x", 2, 0, false, "", "runtime", 0⟩, ⟨"y", 3, 1, false, "", "runtime", 8⟩, ⟨"signed", 4, 2, false, "", "runtime", 16⟩, ⟨"code", 6, 3, false, "", "runtime", 17⟩], 4, 24, .agg #[.int .i64 0, .int .i64 0, .bool false, .int .u8 0], false⟩
abbrev tyE9 : TyE := ⟨.string, 1, 16, .string ByteArray.empty, false⟩
abbrev tyE12 : TyE := ⟨.int .u64, 1, 8, .int .u64 0, false⟩
abbrev tyE13 : TyE := ⟨.struct #[⟨"msg", 9, 0, false, "", "runtime", 0⟩, ⟨"addr", 12, 1, false, "", "runtime", 16⟩], 2, 24, .agg #[.string ByteArray.empty, .int .u64 0], false⟩
abbrev tyE15 : TyE := ⟨.pointer 152, 1, 8, .pointer none, false⟩
abbrev tyE16 : TyE := ⟨.pointer 155, 1, 8, .pointer none, false⟩
abbrev tyE17 : TyE := ⟨.pointer 162, 1, 8, .pointer none, false⟩
abbrev tyE18 : TyE := ⟨.struct #[⟨"typ", 17, 0, false, "", "internal/runtime/maps", 0⟩], 1, 8, .agg #[.pointer none], false⟩
abbrev tyE21 : TyE := ⟨.int .i32, 1, 4, .int .i32 0, false⟩
abbrev tyE22 : TyE := ⟨.slice 5, 1, 24, .slice none 0 0, false⟩
abbrev tyE24 : TyE := ⟨.slice 9, 1, 24, .slice none 0 0, false⟩
abbrev tyE25 : TyE := ⟨.slice 78, 1, 24, .slice none 0 0, false⟩
abbrev tyE26 : TyE := ⟨.struct #[⟨"Stops", 24, 0, false, "", "", 0⟩, ⟨"Lines", 25, 1, false, "", "", 24⟩], 2, 48, .agg #[.slice none 0 0, .slice none 0 0], false⟩
abbrev tyE27 : TyE := ⟨.struct #[⟨"Stops", 24, 0, false, "", "", 0⟩, ⟨"Lines", 25, 1, false, "", "", 24⟩], 2, 48, .agg #[.slice none 0 0, .slice none 0 0], true⟩
abbrev tyE28 : TyE := ⟨.slice 51, 1, 24, .slice none 0 0, false⟩
abbrev tyE29 : TyE := ⟨.struct #[⟨"Network", 27, 0, false, "", "", 0⟩, ⟨"Trips", 28, 2, false, "", "", 48⟩], 3, 72, .agg #[.slice none 0 0, .slice none 0 0, .slice none 0 0], false⟩
abbrev tyE30 : TyE := ⟨.struct #[⟨"Network", 27, 0, false, "", "", 0⟩, ⟨"Trips", 28, 2, false, "", "", 48⟩], 3, 72, .agg #[.slice none 0 0, .slice none 0 0, .slice none 0 0], true⟩
abbrev tyE33 : TyE := ⟨.slice 56, 1, 24, .slice none 0 0, false⟩
abbrev tyE42 : TyE := ⟨.pointer 45, 1, 8, .pointer none, false⟩
abbrev tyE43 : TyE := ⟨.int .u64, 1, 8, .int .u64 0, false⟩
abbrev tyE44 : TyE := ⟨.struct #[⟨"code", 22, 0, false, "", "loop.example/g00900/spec", 0⟩, ⟨"at", 3, 1, false, "", "loop.example/g00900/spec", 24⟩, ⟨"seed", 43, 2, false, "", "loop.example/g00900/spec", 32⟩], 3, 40, .agg #[.slice none 0 0, .int .i64 0, .int .u64 0], true⟩
abbrev tyE45 : TyE := ⟨.struct #[⟨"code", 22, 0, false, "", "loop.example/g00900/spec", 0⟩, ⟨"at", 3, 1, false, "", "loop.example/g00900/spec", 24⟩, ⟨"seed", 43, 2, false, "", "loop.example/g00900/spec", 32⟩], 3, 40, .agg #[.slice none 0 0, .int .i64 0, .int .u64 0], true⟩
abbrev tyE50 : TyE := ⟨.struct #[⟨"Id", 3, 0, false, "", "", 0⟩, ⟨"Line", 3, 1, false, "", "", 8⟩, ⟨"Start", 3, 2, false, "", "", 16⟩], 3, 24, .agg #[.int .i64 0, .int .i64 0, .int .i64 0], false⟩
abbrev tyE51 : TyE := ⟨.struct #[⟨"Id", 3, 0, false, "", "", 0⟩, ⟨"Line", 3, 1, false, "", "", 8⟩, ⟨"Start", 3, 2, false, "", "", 16⟩], 3, 24, .agg #[.int .i64 0, .int .i64 0, .int .i64 0], true⟩
abbrev tyE55 : TyE := ⟨.struct #[⟨"Kind", 3, 0, false, "", "", 0⟩, ⟨"Trip", 51, 1, false, "", "", 8⟩, ⟨"To", 3, 4, false, "", "", 32⟩], 5, 40, .agg #[.int .i64 0, .int .i64 0, .int .i64 0, .int .i64 0, .int .i64 0], false⟩
abbrev tyE56 : TyE := ⟨.struct #[⟨"Kind", 3, 0, false, "", "", 0⟩, ⟨"Trip", 51, 1, false, "", "", 8⟩, ⟨"To", 3, 4, false, "", "", 32⟩], 5, 40, .agg #[.int .i64 0, .int .i64 0, .int .i64 0, .int .i64 0, .int .i64 0], true⟩
abbrev tyE68 : TyE := ⟨.slice 3, 1, 24, .slice none 0 0, false⟩
abbrev tyE70 : TyE := ⟨.pointer 72, 1, 8, .pointer none, false⟩
abbrev tyE71 : TyE := ⟨.struct #[⟨"addr", 70, 0, false, "", "strings", 0⟩, ⟨"buf", 22, 1, false, "", "strings", 8⟩], 2, 32, .agg #[.pointer none, .slice none 0 0], false⟩
abbrev tyE72 : TyE := ⟨.struct #[⟨"addr", 70, 0, false, "", "strings", 0⟩, ⟨"buf", 22, 1, false, "", "strings", 8⟩], 2, 32, .agg #[.pointer none, .slice none 0 0], false⟩
abbrev tyE77 : TyE := ⟨.struct #[⟨"Name", 9, 0, false, "", "", 0⟩, ⟨"Stops", 68, 1, false, "", "", 16⟩, ⟨"Runs", 68, 2, false, "", "", 40⟩], 3, 64, .agg #[.string ByteArray.empty, .slice none 0 0, .slice none 0 0], false⟩
abbrev tyE78 : TyE := ⟨.struct #[⟨"Name", 9, 0, false, "", "", 0⟩, ⟨"Stops", 68, 1, false, "", "", 16⟩, ⟨"Runs", 68, 2, false, "", "", 40⟩], 3, 64, .agg #[.string ByteArray.empty, .slice none 0 0, .slice none 0 0], true⟩
abbrev tyE86 : TyE := ⟨.int .u64, 1, 8, .int .u64 0, false⟩
abbrev tyE105 : TyE := ⟨.pointer 5, 1, 8, .pointer none, false⟩
abbrev tyE107 : TyE := ⟨.int .i64, 1, 8, .int .i64 0, false⟩
abbrev tyE115 : TyE := ⟨.int .u32, 1, 4, .int .u32 0, false⟩
abbrev tyE125 : TyE := ⟨.unsafePointer, 1, 8, .pointer none, false⟩
abbrev tyE128 : TyE := ⟨.int .u64, 1, 8, .int .u64 0, false⟩
abbrev tyE132 : TyE := ⟨.pointer 3, 1, 8, .pointer none, false⟩
abbrev tyE138 : TyE := ⟨.array 24 5, 24, 24, .agg #[.int .u8 0, .int .u8 0, .int .u8 0, .int .u8 0, .int .u8 0, .int .u8 0, .int .u8 0, .int .u8 0, .int .u8 0, .int .u8 0, .int .u8 0, .int .u8 0, .int .u8 0, .int .u8 0, .int .u8 0, .int .u8 0, .int .u8 0, .int .u8 0, .int .u8 0, .int .u8 0, .int .u8 0, .int .u8 0, .int .u8 0, .int .u8 0], false⟩
abbrev tyE142 : TyE := ⟨.pointer 128, 1, 8, .pointer none, false⟩
abbrev tyE146 : TyE := ⟨.array 20 43, 20, 160, .agg #[.int .u64 0, .int .u64 0, .int .u64 0, .int .u64 0, .int .u64 0, .int .u64 0, .int .u64 0, .int .u64 0, .int .u64 0, .int .u64 0, .int .u64 0, .int .u64 0, .int .u64 0, .int .u64 0, .int .u64 0, .int .u64 0, .int .u64 0, .int .u64 0, .int .u64 0, .int .u64 0], false⟩
abbrev tyE147 : TyE := ⟨.array 65 5, 65, 65, .agg #[.int .u8 0, .int .u8 0, .int .u8 0, .int .u8 0, .int .u8 0, .int .u8 0, .int .u8 0, .int .u8 0, .int .u8 0, .int .u8 0, .int .u8 0, .int .u8 0, .int .u8 0, .int .u8 0, .int .u8 0, .int .u8 0, .int .u8 0, .int .u8 0, .int .u8 0, .int .u8 0, .int .u8 0, .int .u8 0, .int .u8 0, .int .u8 0, .int .u8 0, .int .u8 0, .int .u8 0, .int .u8 0, .int .u8 0, .int .u8 0, .int .u8 0, .int .u8 0, .int .u8 0, .int .u8 0, .int .u8 0, .int .u8 0, .int .u8 0, .int .u8 0, .int .u8 0, .int .u8 0, .int .u8 0, .int .u8 0, .int .u8 0, .int .u8 0, .int .u8 0, .int .u8 0, .int .u8 0, .int .u8 0, .int .u8 0, .int .u8 0, .int .u8 0, .int .u8 0, .int .u8 0, .int .u8 0, .int .u8 0, .int .u8 0, .int .u8 0, .int .u8 0, .int .u8 0, .int .u8 0, .int .u8 0, .int .u8 0, .int .u8 0, .int .u8 0, .int .u8 0], false⟩
abbrev tyE149 : TyE := ⟨.array 32 5, 32, 32, .agg #[.int .u8 0, .int .u8 0, .int .u8 0, .int .u8 0, .int .u8 0, .int .u8 0, .int .u8 0, .int .u8 0, .int .u8 0, .int .u8 0, .int .u8 0, .int .u8 0, .int .u8 0, .int .u8 0, .int .u8 0, .int .u8 0, .int .u8 0, .int .u8 0, .int .u8 0, .int .u8 0, .int .u8 0, .int .u8 0, .int .u8 0, .int .u8 0, .int .u8 0, .int .u8 0, .int .u8 0, .int .u8 0, .int .u8 0, .int .u8 0, .int .u8 0, .int .u8 0], false⟩
abbrev tyE150 : TyE := ⟨.array 64 5, 64, 64, .agg #[.int .u8 0, .int .u8 0, .int .u8 0, .int .u8 0, .int .u8 0, .int .u8 0, .int .u8 0, .int .u8 0, .int .u8 0, .int .u8 0, .int .u8 0, .int .u8 0, .int .u8 0, .int .u8 0, .int .u8 0, .int .u8 0, .int .u8 0, .int .u8 0, .int .u8 0, .int .u8 0, .int .u8 0, .int .u8 0, .int .u8 0, .int .u8 0, .int .u8 0, .int .u8 0, .int .u8 0, .int .u8 0, .int .u8 0, .int .u8 0, .int .u8 0, .int .u8 0, .int .u8 0, .int .u8 0, .int .u8 0, .int .u8 0, .int .u8 0, .int .u8 0, .int .u8 0, .int .u8 0, .int .u8 0, .int .u8 0, .int .u8 0, .int .u8 0, .int .u8 0, .int .u8 0, .int .u8 0, .int .u8 0, .int .u8 0, .int .u8 0, .int .u8 0, .int .u8 0, .int .u8 0, .int .u8 0, .int .u8 0, .int .u8 0, .int .u8 0, .int .u8 0, .int .u8 0, .int .u8 0, .int .u8 0, .int .u8 0, .int .u8 0, .int .u8 0], false⟩
abbrev tyE151 : TyE := ⟨.struct #[⟨"_interface", 17, 0, false, "", "runtime", 0⟩, ⟨"concrete", 17, 1, false, "", "runtime", 8⟩, ⟨"asserted", 17, 2, false, "", "runtime", 16⟩, ⟨"missingMethod", 9, 3, false, "", "runtime", 24⟩], 4, 40, .agg #[.pointer none, .pointer none, .pointer none, .string ByteArray.empty], false⟩
abbrev tyE154 : TyE := ⟨.struct #[⟨"_", 153, 0, false, "", "runtime", 0⟩], 0, 0, .agg #[], false⟩
abbrev tyE161 : TyE := ⟨.struct #[⟨"Size_", 12, 0, false, "", "", 0⟩, ⟨"PtrBytes", 12, 1, false, "", "", 8⟩, ⟨"Hash", 115, 2, false, "", "", 16⟩, ⟨"TFlag", 156, 3, false, "", "", 20⟩, ⟨"Align_", 5, 4, false, "", "", 21⟩, ⟨"FieldAlign_", 5, 5, false, "", "", 22⟩, ⟨"Kind_", 157, 6, false, "", "", 23⟩, ⟨"Equal", 158, 7, false, "", "", 24⟩, ⟨"GCData", 105, 8, false, "", "", 32⟩, ⟨"Str", 159, 9, false, "", "", 40⟩, ⟨"PtrToThis", 160, 10, false, "", "", 44⟩], 11, 48, .agg #[.int .u64 0, .int .u64 0, .int .u32 0, .int .u8 0, .int .u8 0, .int .u8 0, .int .u8 0, .nilFunc, .pointer none, .int .i32 0, .int .i32 0], false⟩
def tyL : List (Nat × TyE) := [(2, tyE2), (3, tyE3), (4, tyE4), (5, tyE5), (7, tyE7), (9, tyE9), (12, tyE12), (13, tyE13), (15, tyE15), (16, tyE16), (17, tyE17), (18, tyE18), (21, tyE21), (22, tyE22), (24, tyE24), (25, tyE25), (26, tyE26), (27, tyE27), (28, tyE28), (29, tyE29), (30, tyE30), (33, tyE33), (42, tyE42), (43, tyE43), (44, tyE44), (45, tyE45), (50, tyE50), (51, tyE51), (55, tyE55), (56, tyE56), (68, tyE68), (70, tyE70), (71, tyE71), (72, tyE72), (77, tyE77), (78, tyE78), (86, tyE86), (105, tyE105), (107, tyE107), (115, tyE115), (125, tyE125), (128, tyE128), (132, tyE132), (138, tyE138), (142, tyE142), (146, tyE146), (147, tyE147), (149, tyE149), (150, tyE150), (151, tyE151), (154, tyE154), (161, tyE161)]
def ty (t : TypeId) : Option TyE := jpw t tyL
theorem tyOK_2 : TyOK Tryz.prog 2 tyE2 := ⟨Tryz.underlying2, Tryz.t2, Tryz.type2, rfl, rfl, rfl, fun h => by cases h⟩
theorem tyOK_3 : TyOK Tryz.prog 3 tyE3 := ⟨Tryz.underlying3, Tryz.t3, Tryz.type3, rfl, rfl, rfl, fun h => by cases h⟩
theorem tyOK_4 : TyOK Tryz.prog 4 tyE4 := ⟨Tryz.underlying4, Tryz.t4, Tryz.type4, rfl, rfl, rfl, fun h => by cases h⟩
theorem tyOK_5 : TyOK Tryz.prog 5 tyE5 := ⟨Tryz.underlying5, Tryz.t5, Tryz.type5, rfl, rfl, rfl, fun h => by cases h⟩
theorem tyOK_7 : TyOK Tryz.prog 7 tyE7 := ⟨Tryz.underlying7, Tryz.t7, Tryz.type7, rfl, rfl, rfl, fun h => by cases h⟩
theorem tyOK_9 : TyOK Tryz.prog 9 tyE9 := ⟨Tryz.underlying9, Tryz.t9, Tryz.type9, rfl, rfl, rfl, fun h => by cases h⟩
theorem tyOK_12 : TyOK Tryz.prog 12 tyE12 := ⟨Tryz.underlying12, Tryz.t12, Tryz.type12, rfl, rfl, rfl, fun h => by cases h⟩
theorem tyOK_13 : TyOK Tryz.prog 13 tyE13 := ⟨Tryz.underlying13, Tryz.t13, Tryz.type13, rfl, rfl, rfl, fun h => by cases h⟩
theorem tyOK_15 : TyOK Tryz.prog 15 tyE15 := ⟨Tryz.underlying15, Tryz.t15, Tryz.type15, rfl, rfl, rfl, fun h => by cases h⟩
theorem tyOK_16 : TyOK Tryz.prog 16 tyE16 := ⟨Tryz.underlying16, Tryz.t16, Tryz.type16, rfl, rfl, rfl, fun h => by cases h⟩
theorem tyOK_17 : TyOK Tryz.prog 17 tyE17 := ⟨Tryz.underlying17, Tryz.t17, Tryz.type17, rfl, rfl, rfl, fun h => by cases h⟩
theorem tyOK_18 : TyOK Tryz.prog 18 tyE18 := ⟨Tryz.underlying18, Tryz.t18, Tryz.type18, rfl, rfl, rfl, fun h => by cases h⟩
theorem tyOK_21 : TyOK Tryz.prog 21 tyE21 := ⟨Tryz.underlying21, Tryz.t21, Tryz.type21, rfl, rfl, rfl, fun h => by cases h⟩
theorem tyOK_22 : TyOK Tryz.prog 22 tyE22 := ⟨Tryz.underlying22, Tryz.t22, Tryz.type22, rfl, rfl, rfl, fun h => by cases h⟩
theorem tyOK_24 : TyOK Tryz.prog 24 tyE24 := ⟨Tryz.underlying24, Tryz.t24, Tryz.type24, rfl, rfl, rfl, fun h => by cases h⟩
theorem tyOK_25 : TyOK Tryz.prog 25 tyE25 := ⟨Tryz.underlying25, Tryz.t25, Tryz.type25, rfl, rfl, rfl, fun h => by cases h⟩
theorem tyOK_26 : TyOK Tryz.prog 26 tyE26 := ⟨Tryz.underlying26, Tryz.t26, Tryz.type26, rfl, rfl, rfl, fun h => by cases h⟩
theorem tyOK_27 : TyOK Tryz.prog 27 tyE27 := ⟨Tryz.underlying27, Tryz.t27, Tryz.type27, rfl, rfl, rfl, fun _ => ⟨by kernel_rfl, by kernel_rfl, by rintro _ ⟨⟩; rfl⟩⟩
theorem tyOK_28 : TyOK Tryz.prog 28 tyE28 := ⟨Tryz.underlying28, Tryz.t28, Tryz.type28, rfl, rfl, rfl, fun h => by cases h⟩
theorem tyOK_29 : TyOK Tryz.prog 29 tyE29 := ⟨Tryz.underlying29, Tryz.t29, Tryz.type29, rfl, rfl, rfl, fun h => by cases h⟩
theorem tyOK_30 : TyOK Tryz.prog 30 tyE30 := ⟨Tryz.underlying30, Tryz.t30, Tryz.type30, rfl, rfl, rfl, fun _ => ⟨by kernel_rfl, by kernel_rfl, by rintro _ ⟨⟩; rfl⟩⟩
theorem tyOK_33 : TyOK Tryz.prog 33 tyE33 := ⟨Tryz.underlying33, Tryz.t33, Tryz.type33, rfl, rfl, rfl, fun h => by cases h⟩
theorem tyOK_42 : TyOK Tryz.prog 42 tyE42 := ⟨Tryz.underlying42, Tryz.t42, Tryz.type42, rfl, rfl, rfl, fun h => by cases h⟩
theorem tyOK_43 : TyOK Tryz.prog 43 tyE43 := ⟨Tryz.underlying43, Tryz.t43, Tryz.type43, rfl, rfl, rfl, fun h => by cases h⟩
theorem tyOK_44 : TyOK Tryz.prog 44 tyE44 := ⟨Tryz.underlying44, Tryz.t44, Tryz.type44, rfl, rfl, rfl, fun _ => ⟨by kernel_rfl, by kernel_rfl, by rintro _ ⟨⟩; rfl⟩⟩
theorem tyOK_45 : TyOK Tryz.prog 45 tyE45 := ⟨Tryz.underlying45, Tryz.t45, Tryz.type45, rfl, rfl, rfl, fun _ => ⟨by kernel_rfl, by kernel_rfl, by rintro _ ⟨⟩; rfl⟩⟩
theorem tyOK_50 : TyOK Tryz.prog 50 tyE50 := ⟨Tryz.underlying50, Tryz.t50, Tryz.type50, rfl, rfl, rfl, fun h => by cases h⟩
theorem tyOK_51 : TyOK Tryz.prog 51 tyE51 := ⟨Tryz.underlying51, Tryz.t51, Tryz.type51, rfl, rfl, rfl, fun _ => ⟨by kernel_rfl, by kernel_rfl, by rintro _ ⟨⟩; rfl⟩⟩
theorem tyOK_55 : TyOK Tryz.prog 55 tyE55 := ⟨Tryz.underlying55, Tryz.t55, Tryz.type55, rfl, rfl, rfl, fun h => by cases h⟩
theorem tyOK_56 : TyOK Tryz.prog 56 tyE56 := ⟨Tryz.underlying56, Tryz.t56, Tryz.type56, rfl, rfl, rfl, fun _ => ⟨by kernel_rfl, by kernel_rfl, by rintro _ ⟨⟩; rfl⟩⟩
theorem tyOK_68 : TyOK Tryz.prog 68 tyE68 := ⟨Tryz.underlying68, Tryz.t68, Tryz.type68, rfl, rfl, rfl, fun h => by cases h⟩
theorem tyOK_70 : TyOK Tryz.prog 70 tyE70 := ⟨Tryz.underlying70, Tryz.t70, Tryz.type70, rfl, rfl, rfl, fun h => by cases h⟩
theorem tyOK_71 : TyOK Tryz.prog 71 tyE71 := ⟨Tryz.underlying71, Tryz.t71, Tryz.type71, rfl, rfl, rfl, fun h => by cases h⟩
theorem tyOK_72 : TyOK Tryz.prog 72 tyE72 := ⟨Tryz.underlying72, Tryz.t72, Tryz.type72, rfl, rfl, rfl, fun h => by cases h⟩
theorem tyOK_77 : TyOK Tryz.prog 77 tyE77 := ⟨Tryz.underlying77, Tryz.t77, Tryz.type77, rfl, rfl, rfl, fun h => by cases h⟩
theorem tyOK_78 : TyOK Tryz.prog 78 tyE78 := ⟨Tryz.underlying78, Tryz.t78, Tryz.type78, rfl, rfl, rfl, fun _ => ⟨by kernel_rfl, by kernel_rfl, by rintro _ ⟨⟩; rfl⟩⟩
theorem tyOK_86 : TyOK Tryz.prog 86 tyE86 := ⟨Tryz.underlying86, Tryz.t86, Tryz.type86, rfl, rfl, rfl, fun h => by cases h⟩
theorem tyOK_105 : TyOK Tryz.prog 105 tyE105 := ⟨Tryz.underlying105, Tryz.t105, Tryz.type105, rfl, rfl, rfl, fun h => by cases h⟩
theorem tyOK_107 : TyOK Tryz.prog 107 tyE107 := ⟨Tryz.underlying107, Tryz.t107, Tryz.type107, rfl, rfl, rfl, fun h => by cases h⟩
theorem tyOK_115 : TyOK Tryz.prog 115 tyE115 := ⟨Tryz.underlying115, Tryz.t115, Tryz.type115, rfl, rfl, rfl, fun h => by cases h⟩
theorem tyOK_125 : TyOK Tryz.prog 125 tyE125 := ⟨Tryz.underlying125, Tryz.t125, Tryz.type125, rfl, rfl, rfl, fun h => by cases h⟩
theorem tyOK_128 : TyOK Tryz.prog 128 tyE128 := ⟨Tryz.underlying128, Tryz.t128, Tryz.type128, rfl, rfl, rfl, fun h => by cases h⟩
theorem tyOK_132 : TyOK Tryz.prog 132 tyE132 := ⟨Tryz.underlying132, Tryz.t132, Tryz.type132, rfl, rfl, rfl, fun h => by cases h⟩
theorem tyOK_138 : TyOK Tryz.prog 138 tyE138 := ⟨Tryz.underlying138, Tryz.t138, Tryz.type138, rfl, rfl, rfl, fun h => by cases h⟩
theorem tyOK_142 : TyOK Tryz.prog 142 tyE142 := ⟨Tryz.underlying142, Tryz.t142, Tryz.type142, rfl, rfl, rfl, fun h => by cases h⟩
theorem tyOK_146 : TyOK Tryz.prog 146 tyE146 := ⟨Tryz.underlying146, Tryz.t146, Tryz.type146, rfl, rfl, rfl, fun h => by cases h⟩
theorem tyOK_147 : TyOK Tryz.prog 147 tyE147 := ⟨Tryz.underlying147, Tryz.t147, Tryz.type147, rfl, rfl, rfl, fun h => by cases h⟩
theorem tyOK_149 : TyOK Tryz.prog 149 tyE149 := ⟨Tryz.underlying149, Tryz.t149, Tryz.type149, rfl, rfl, rfl, fun h => by cases h⟩
theorem tyOK_150 : TyOK Tryz.prog 150 tyE150 := ⟨Tryz.underlying150, Tryz.t150, Tryz.type150, rfl, rfl, rfl, fun h => by cases h⟩
theorem tyOK_151 : TyOK Tryz.prog 151 tyE151 := ⟨Tryz.underlying151, Tryz.t151, Tryz.type151, rfl, rfl, rfl, fun h => by cases h⟩
theorem tyOK_154 : TyOK Tryz.prog 154 tyE154 := ⟨Tryz.underlying154, Tryz.t154, Tryz.type154, rfl, rfl, rfl, fun h => by cases h⟩
theorem tyOK_161 : TyOK Tryz.prog 161 tyE161 := ⟨Tryz.underlying161, Tryz.t161, Tryz.type161, rfl, rfl, rfl, fun h => by cases h⟩
theorem ty_ok : ∀ t x, ty t = some x -> TyOK Tryz.prog t x := jm2 (jag tyOK_2 (jag tyOK_3 (jag tyOK_4 (jag tyOK_5 (jag tyOK_7 (jag tyOK_9 (jag tyOK_12 (jag tyOK_13 (jag tyOK_15 (jag tyOK_16 (jag tyOK_17 (jag tyOK_18 (jag tyOK_21 (jag tyOK_22 (jag tyOK_24 (jag tyOK_25 (jag tyOK_26 (jag tyOK_27 (jag tyOK_28 (jag tyOK_29 (jag tyOK_30 (jag tyOK_33 (jag tyOK_42 (jag tyOK_43 (jag tyOK_44 (jag tyOK_45 (jag tyOK_50 (jag tyOK_51 (jag tyOK_55 (jag tyOK_56 (jag tyOK_68 (jag tyOK_70 (jag tyOK_71 (jag tyOK_72 (jag tyOK_77 (jag tyOK_78 (jag tyOK_86 (jag tyOK_105 (jag tyOK_107 (jag tyOK_115 (jag tyOK_125 (jag tyOK_128 (jag tyOK_132 (jag tyOK_138 (jag tyOK_142 (jag tyOK_146 (jag tyOK_147 (jag tyOK_149 (jag tyOK_150 (jag tyOK_151 (jag tyOK_154 (jag tyOK_161 jr7))))))))))))))))))))))))))))))))))))))))))))))))))))
end Go.Proofs.YtdocbkbpjdjlpaaGreatDoor
