/- The types of the seat as a table. Made by program (genty.py). -/
import Derived.Test.YtmmffjenpfeapaaGreatProg
import Derived.Test.YtmmffjenpfeapaaGreatAbSpec
import Derived.KernelRfl
namespace Go.Proofs.YtmmffjenpfeapaaGreat
open Go Go.Ab Tryz
set_option maxRecDepth 100000

abbrev tyE2 : TyE := ⟨.int .i64, 1, 8, .int .i64 0, false⟩
abbrev tyE3 : TyE := ⟨.int .i64, 1, 8, .int .i64 0, false⟩
abbrev tyE4 : TyE := ⟨.bool, 1, 1, .bool false, false⟩
abbrev tyE5 : TyE := ⟨.int .u8, 1, 1, .int .u8 0, false⟩
abbrev tyE7 : TyE := ⟨.struct #[⟨"x", 2, 0, false, "", "runtime", 0⟩, ⟨"y", 3, 1, false, "", "runtime", 8⟩, ⟨"signed", 4, 2, false, "", "runtime", 16⟩, ⟨"code", 6, 3, false, "", "runtime", 17⟩], 4, 24, .agg #[.int .i64 0, .int .i64 0, .bool false, .int .u8 0], false⟩
abbrev tyE9 : TyE := ⟨.string, 1, 16, .string ByteArray.empty, false⟩
abbrev tyE12 : TyE := ⟨.int .u64, 1, 8, .int .u64 0, false⟩
abbrev tyE13 : TyE := ⟨.struct #[⟨"msg", 9, 0, false, "", "runtime", 0⟩, ⟨"addr", 12, 1, false, "", "runtime", 16⟩], 2, 24, .agg #[.string ByteArray.empty, .int .u64 0], false⟩
abbrev tyE15 : TyE := ⟨.pointer 270, 1, 8, .pointer none, false⟩
abbrev tyE16 : TyE := ⟨.pointer 273, 1, 8, .pointer none, false⟩
abbrev tyE17 : TyE := ⟨.pointer 281, 1, 8, .pointer none, false⟩
abbrev tyE18 : TyE := ⟨.struct #[⟨"typ", 17, 0, false, "", "internal/runtime/maps", 0⟩], 1, 8, .agg #[.pointer none], false⟩
abbrev tyE21 : TyE := ⟨.int .i32, 1, 4, .int .i32 0, false⟩
abbrev tyE22 : TyE := ⟨.slice 5, 1, 24, .slice none 0 0, false⟩
abbrev tyE24 : TyE := ⟨.slice 9, 1, 24, .slice none 0 0, false⟩
abbrev tyE25 : TyE := ⟨.slice 118, 1, 24, .slice none 0 0, false⟩
abbrev tyE26 : TyE := ⟨.struct #[⟨"Stops", 24, 0, false, "", "", 0⟩, ⟨"Lines", 25, 1, false, "", "", 24⟩], 2, 48, .agg #[.slice none 0 0, .slice none 0 0], false⟩
abbrev tyE27 : TyE := ⟨.struct #[⟨"Stops", 24, 0, false, "", "", 0⟩, ⟨"Lines", 25, 1, false, "", "", 24⟩], 2, 48, .agg #[.slice none 0 0, .slice none 0 0], true⟩
abbrev tyE28 : TyE := ⟨.slice 74, 1, 24, .slice none 0 0, false⟩
abbrev tyE29 : TyE := ⟨.struct #[⟨"Network", 27, 0, false, "", "", 0⟩, ⟨"Trips", 28, 2, false, "", "", 48⟩], 3, 72, .agg #[.slice none 0 0, .slice none 0 0, .slice none 0 0], false⟩
abbrev tyE30 : TyE := ⟨.struct #[⟨"Network", 27, 0, false, "", "", 0⟩, ⟨"Trips", 28, 2, false, "", "", 48⟩], 3, 72, .agg #[.slice none 0 0, .slice none 0 0, .slice none 0 0], true⟩
abbrev tyE31 : TyE := ⟨.slice 76, 1, 24, .slice none 0 0, false⟩
abbrev tyE37 : TyE := ⟨.slice 3, 1, 24, .slice none 0 0, false⟩
abbrev tyE42 : TyE := ⟨.slice 37, 1, 24, .slice none 0 0, false⟩
abbrev tyE43 : TyE := ⟨.struct #[⟨"Dead", 42, 0, false, "", "", 0⟩, ⟨"Turn", 3, 1, false, "", "", 24⟩], 2, 32, .agg #[.slice none 0 0, .int .i64 0], false⟩
abbrev tyE44 : TyE := ⟨.struct #[⟨"Dead", 42, 0, false, "", "", 0⟩, ⟨"Turn", 3, 1, false, "", "", 24⟩], 2, 32, .agg #[.slice none 0 0, .int .i64 0], true⟩
abbrev tyE45 : TyE := ⟨.struct #[⟨"SignOn", 3, 0, false, "", "", 0⟩, ⟨"SignOff", 3, 1, false, "", "", 8⟩, ⟨"MaxDrive", 3, 2, false, "", "", 16⟩, ⟨"MinBreak", 3, 3, false, "", "", 24⟩, ⟨"PaidBreak", 3, 4, false, "", "", 32⟩, ⟨"MaxLength", 3, 5, false, "", "", 40⟩], 6, 48, .agg #[.int .i64 0, .int .i64 0, .int .i64 0, .int .i64 0, .int .i64 0, .int .i64 0], false⟩
abbrev tyE46 : TyE := ⟨.struct #[⟨"SignOn", 3, 0, false, "", "", 0⟩, ⟨"SignOff", 3, 1, false, "", "", 8⟩, ⟨"MaxDrive", 3, 2, false, "", "", 16⟩, ⟨"MinBreak", 3, 3, false, "", "", 24⟩, ⟨"PaidBreak", 3, 4, false, "", "", 32⟩, ⟨"MaxLength", 3, 5, false, "", "", 40⟩], 6, 48, .agg #[.int .i64 0, .int .i64 0, .int .i64 0, .int .i64 0, .int .i64 0, .int .i64 0], true⟩
abbrev tyE49 : TyE := ⟨.slice 61, 1, 24, .slice none 0 0, false⟩
abbrev tyE61 : TyE := ⟨.struct #[⟨"Pieces", 42, 0, false, "", "", 0⟩], 1, 24, .agg #[.slice none 0 0], true⟩
abbrev tyE65 : TyE := ⟨.pointer 68, 1, 8, .pointer none, false⟩
abbrev tyE66 : TyE := ⟨.int .u64, 1, 8, .int .u64 0, false⟩
abbrev tyE67 : TyE := ⟨.struct #[⟨"code", 22, 0, false, "", "loop.example/g00900/spec", 0⟩, ⟨"at", 3, 1, false, "", "loop.example/g00900/spec", 24⟩, ⟨"seed", 66, 2, false, "", "loop.example/g00900/spec", 32⟩], 3, 40, .agg #[.slice none 0 0, .int .i64 0, .int .u64 0], true⟩
abbrev tyE68 : TyE := ⟨.struct #[⟨"code", 22, 0, false, "", "loop.example/g00900/spec", 0⟩, ⟨"at", 3, 1, false, "", "loop.example/g00900/spec", 24⟩, ⟨"seed", 66, 2, false, "", "loop.example/g00900/spec", 32⟩], 3, 40, .agg #[.slice none 0 0, .int .i64 0, .int .u64 0], true⟩
abbrev tyE73 : TyE := ⟨.struct #[⟨"Id", 3, 0, false, "", "", 0⟩, ⟨"Line", 3, 1, false, "", "", 8⟩, ⟨"Start", 3, 2, false, "", "", 16⟩], 3, 24, .agg #[.int .i64 0, .int .i64 0, .int .i64 0], false⟩
abbrev tyE74 : TyE := ⟨.struct #[⟨"Id", 3, 0, false, "", "", 0⟩, ⟨"Line", 3, 1, false, "", "", 8⟩, ⟨"Start", 3, 2, false, "", "", 16⟩], 3, 24, .agg #[.int .i64 0, .int .i64 0, .int .i64 0], true⟩
abbrev tyE75 : TyE := ⟨.struct #[⟨"Kind", 3, 0, false, "", "", 0⟩, ⟨"Trip", 74, 1, false, "", "", 8⟩, ⟨"To", 3, 4, false, "", "", 32⟩], 5, 40, .agg #[.int .i64 0, .int .i64 0, .int .i64 0, .int .i64 0, .int .i64 0], false⟩
abbrev tyE76 : TyE := ⟨.struct #[⟨"Kind", 3, 0, false, "", "", 0⟩, ⟨"Trip", 74, 1, false, "", "", 8⟩, ⟨"To", 3, 4, false, "", "", 32⟩], 5, 40, .agg #[.int .i64 0, .int .i64 0, .int .i64 0, .int .i64 0, .int .i64 0], true⟩
abbrev tyE86 : TyE := ⟨.slice 87, 1, 24, .slice none 0 0, false⟩
abbrev tyE87 : TyE := ⟨.array 2 3, 2, 16, .agg #[.int .i64 0, .int .i64 0], true⟩
abbrev tyE111 : TyE := ⟨.slice 31, 1, 24, .slice none 0 0, false⟩
abbrev tyE115 : TyE := ⟨.int .u64, 1, 8, .int .u64 0, false⟩
abbrev tyE118 : TyE := ⟨.struct #[⟨"Name", 9, 0, false, "", "", 0⟩, ⟨"Stops", 37, 1, false, "", "", 16⟩, ⟨"Runs", 37, 2, false, "", "", 40⟩], 3, 64, .agg #[.string ByteArray.empty, .slice none 0 0, .slice none 0 0], true⟩
abbrev tyE137 : TyE := ⟨.pointer 194, 1, 8, .pointer none, false⟩
abbrev tyE138 : TyE := ⟨.struct #[⟨"duties", 3, 0, false, "", "loop.example/g00900/impl", 0⟩, ⟨"paid", 3, 1, false, "", "loop.example/g00900/impl", 8⟩], 2, 16, .agg #[.int .i64 0, .int .i64 0], true⟩
abbrev tyE139 : TyE := ⟨.struct #[⟨"duties", 3, 0, false, "", "loop.example/g00900/impl", 0⟩, ⟨"paid", 3, 1, false, "", "loop.example/g00900/impl", 8⟩], 2, 16, .agg #[.int .i64 0, .int .i64 0], true⟩
abbrev tyE144 : TyE := ⟨.pointer 150, 1, 8, .pointer none, false⟩
abbrev tyE149 : TyE := ⟨.struct #[⟨"pieces", 42, 0, false, "", "loop.example/g00900/spec", 0⟩, ⟨"alone", 37, 1, false, "", "loop.example/g00900/spec", 24⟩, ⟨"pair", 42, 2, false, "", "loop.example/g00900/spec", 48⟩, ⟨"forbid", 3, 3, false, "", "loop.example/g00900/spec", 72⟩, ⟨"known", 37, 4, false, "", "loop.example/g00900/spec", 80⟩], 5, 104, .agg #[.slice none 0 0, .slice none 0 0, .slice none 0 0, .int .i64 0, .slice none 0 0], true⟩
abbrev tyE150 : TyE := ⟨.struct #[⟨"pieces", 42, 0, false, "", "loop.example/g00900/spec", 0⟩, ⟨"alone", 37, 1, false, "", "loop.example/g00900/spec", 24⟩, ⟨"pair", 42, 2, false, "", "loop.example/g00900/spec", 48⟩, ⟨"forbid", 3, 3, false, "", "loop.example/g00900/spec", 72⟩, ⟨"known", 37, 4, false, "", "loop.example/g00900/spec", 80⟩], 5, 104, .agg #[.slice none 0 0, .slice none 0 0, .slice none 0 0, .int .i64 0, .slice none 0 0], true⟩
abbrev tyE152 : TyE := ⟨.array 12 4, 12, 12, .agg #[.bool false, .bool false, .bool false, .bool false, .bool false, .bool false, .bool false, .bool false, .bool false, .bool false, .bool false, .bool false], false⟩
abbrev tyE171 : TyE := ⟨.int .i64, 1, 8, .int .i64 0, false⟩
abbrev tyE178 : TyE := ⟨.int .u32, 1, 4, .int .u32 0, false⟩
abbrev tyE189 : TyE := ⟨.array 6 3, 6, 48, .agg #[.int .i64 0, .int .i64 0, .int .i64 0, .int .i64 0, .int .i64 0, .int .i64 0], true⟩
abbrev tyE190 : TyE := ⟨.slice 139, 1, 24, .slice none 0 0, false⟩
abbrev tyE191 : TyE := ⟨.slice 190, 1, 24, .slice none 0 0, false⟩
abbrev tyE193 : TyE := ⟨.struct #[⟨"pieces", 42, 0, false, "", "loop.example/g00900/impl", 0⟩, ⟨"single", 190, 1, false, "", "loop.example/g00900/impl", 24⟩, ⟨"pair", 191, 2, false, "", "loop.example/g00900/impl", 48⟩, ⟨"memo", 192, 3, false, "", "loop.example/g00900/impl", 72⟩], 4, 80, .agg #[.slice none 0 0, .slice none 0 0, .slice none 0 0, .map none], true⟩
abbrev tyE194 : TyE := ⟨.struct #[⟨"pieces", 42, 0, false, "", "loop.example/g00900/impl", 0⟩, ⟨"single", 190, 1, false, "", "loop.example/g00900/impl", 24⟩, ⟨"pair", 191, 2, false, "", "loop.example/g00900/impl", 48⟩, ⟨"memo", 192, 3, false, "", "loop.example/g00900/impl", 72⟩], 4, 80, .agg #[.slice none 0 0, .slice none 0 0, .slice none 0 0, .map none], true⟩
abbrev tyE224 : TyE := ⟨.int .u64, 1, 8, .int .u64 0, false⟩
abbrev tyE228 : TyE := ⟨.pointer 3, 1, 8, .pointer none, false⟩
abbrev tyE245 : TyE := ⟨.pointer 224, 1, 8, .pointer none, false⟩
abbrev tyE272 : TyE := ⟨.struct #[⟨"_", 271, 0, false, "", "runtime", 0⟩], 0, 0, .agg #[], false⟩
def tyL : List (Nat × TyE) := [(2, tyE2), (3, tyE3), (4, tyE4), (5, tyE5), (7, tyE7), (9, tyE9), (12, tyE12), (13, tyE13), (15, tyE15), (16, tyE16), (17, tyE17), (18, tyE18), (21, tyE21), (22, tyE22), (24, tyE24), (25, tyE25), (26, tyE26), (27, tyE27), (28, tyE28), (29, tyE29), (30, tyE30), (31, tyE31), (37, tyE37), (42, tyE42), (43, tyE43), (44, tyE44), (45, tyE45), (46, tyE46), (49, tyE49), (61, tyE61), (65, tyE65), (66, tyE66), (67, tyE67), (68, tyE68), (73, tyE73), (74, tyE74), (75, tyE75), (76, tyE76), (86, tyE86), (87, tyE87), (111, tyE111), (115, tyE115), (118, tyE118), (137, tyE137), (138, tyE138), (139, tyE139), (144, tyE144), (149, tyE149), (150, tyE150), (152, tyE152), (171, tyE171), (178, tyE178), (189, tyE189), (190, tyE190), (191, tyE191), (193, tyE193), (194, tyE194), (224, tyE224), (228, tyE228), (245, tyE245), (272, tyE272)]
def ty (t : TypeId) : Option TyE := jps t tyL
theorem tyOK_2 : TyOK Tryz.prog 2 tyE2 := ⟨underlying2, t2, type2, rfl, rfl, rfl, fun h => by cases h⟩
theorem tyOK_3 : TyOK Tryz.prog 3 tyE3 := ⟨underlying3, t3, type3, rfl, rfl, rfl, fun h => by cases h⟩
theorem tyOK_4 : TyOK Tryz.prog 4 tyE4 := ⟨underlying4, t4, type4, rfl, rfl, rfl, fun h => by cases h⟩
theorem tyOK_5 : TyOK Tryz.prog 5 tyE5 := ⟨underlying5, t5, type5, rfl, rfl, rfl, fun h => by cases h⟩
theorem tyOK_7 : TyOK Tryz.prog 7 tyE7 := ⟨underlying7, t7, type7, rfl, rfl, rfl, fun h => by cases h⟩
theorem tyOK_9 : TyOK Tryz.prog 9 tyE9 := ⟨underlying9, t9, type9, rfl, rfl, rfl, fun h => by cases h⟩
theorem tyOK_12 : TyOK Tryz.prog 12 tyE12 := ⟨underlying12, t12, type12, rfl, rfl, rfl, fun h => by cases h⟩
theorem tyOK_13 : TyOK Tryz.prog 13 tyE13 := ⟨underlying13, t13, type13, rfl, rfl, rfl, fun h => by cases h⟩
theorem tyOK_15 : TyOK Tryz.prog 15 tyE15 := ⟨underlying15, t15, type15, rfl, rfl, rfl, fun h => by cases h⟩
theorem tyOK_16 : TyOK Tryz.prog 16 tyE16 := ⟨underlying16, t16, type16, rfl, rfl, rfl, fun h => by cases h⟩
theorem tyOK_17 : TyOK Tryz.prog 17 tyE17 := ⟨underlying17, t17, type17, rfl, rfl, rfl, fun h => by cases h⟩
theorem tyOK_18 : TyOK Tryz.prog 18 tyE18 := ⟨underlying18, t18, type18, rfl, rfl, rfl, fun h => by cases h⟩
theorem tyOK_21 : TyOK Tryz.prog 21 tyE21 := ⟨underlying21, t21, type21, rfl, rfl, rfl, fun h => by cases h⟩
theorem tyOK_22 : TyOK Tryz.prog 22 tyE22 := ⟨underlying22, t22, type22, rfl, rfl, rfl, fun h => by cases h⟩
theorem tyOK_24 : TyOK Tryz.prog 24 tyE24 := ⟨underlying24, t24, type24, rfl, rfl, rfl, fun h => by cases h⟩
theorem tyOK_25 : TyOK Tryz.prog 25 tyE25 := ⟨underlying25, t25, type25, rfl, rfl, rfl, fun h => by cases h⟩
theorem tyOK_26 : TyOK Tryz.prog 26 tyE26 := ⟨underlying26, t26, type26, rfl, rfl, rfl, fun h => by cases h⟩
theorem tyOK_27 : TyOK Tryz.prog 27 tyE27 := ⟨underlying27, t27, type27, rfl, rfl, rfl, fun _ => ⟨by kernel_rfl, by kernel_rfl, by rintro _ ⟨⟩; rfl⟩⟩
theorem tyOK_28 : TyOK Tryz.prog 28 tyE28 := ⟨underlying28, t28, type28, rfl, rfl, rfl, fun h => by cases h⟩
theorem tyOK_29 : TyOK Tryz.prog 29 tyE29 := ⟨underlying29, t29, type29, rfl, rfl, rfl, fun h => by cases h⟩
theorem tyOK_30 : TyOK Tryz.prog 30 tyE30 := ⟨underlying30, t30, type30, rfl, rfl, rfl, fun _ => ⟨by kernel_rfl, by kernel_rfl, by rintro _ ⟨⟩; rfl⟩⟩
theorem tyOK_31 : TyOK Tryz.prog 31 tyE31 := ⟨underlying31, t31, type31, rfl, rfl, rfl, fun h => by cases h⟩
theorem tyOK_37 : TyOK Tryz.prog 37 tyE37 := ⟨underlying37, t37, type37, rfl, rfl, rfl, fun h => by cases h⟩
theorem tyOK_42 : TyOK Tryz.prog 42 tyE42 := ⟨underlying42, t42, type42, rfl, rfl, rfl, fun h => by cases h⟩
theorem tyOK_43 : TyOK Tryz.prog 43 tyE43 := ⟨underlying43, t43, type43, rfl, rfl, rfl, fun h => by cases h⟩
theorem tyOK_44 : TyOK Tryz.prog 44 tyE44 := ⟨underlying44, t44, type44, rfl, rfl, rfl, fun _ => ⟨by kernel_rfl, by kernel_rfl, by rintro _ ⟨⟩; rfl⟩⟩
theorem tyOK_45 : TyOK Tryz.prog 45 tyE45 := ⟨underlying45, t45, type45, rfl, rfl, rfl, fun h => by cases h⟩
theorem tyOK_46 : TyOK Tryz.prog 46 tyE46 := ⟨underlying46, t46, type46, rfl, rfl, rfl, fun _ => ⟨by kernel_rfl, by kernel_rfl, by rintro _ ⟨⟩; rfl⟩⟩
theorem tyOK_49 : TyOK Tryz.prog 49 tyE49 := ⟨underlying49, t49, type49, rfl, rfl, rfl, fun h => by cases h⟩
theorem tyOK_61 : TyOK Tryz.prog 61 tyE61 := ⟨underlying61, t61, type61, rfl, rfl, rfl, fun _ => ⟨by kernel_rfl, by kernel_rfl, by rintro _ ⟨⟩; rfl⟩⟩
theorem tyOK_65 : TyOK Tryz.prog 65 tyE65 := ⟨underlying65, t65, type65, rfl, rfl, rfl, fun h => by cases h⟩
theorem tyOK_66 : TyOK Tryz.prog 66 tyE66 := ⟨underlying66, t66, type66, rfl, rfl, rfl, fun h => by cases h⟩
theorem tyOK_67 : TyOK Tryz.prog 67 tyE67 := ⟨underlying67, t67, type67, rfl, rfl, rfl, fun _ => ⟨by kernel_rfl, by kernel_rfl, by rintro _ ⟨⟩; rfl⟩⟩
theorem tyOK_68 : TyOK Tryz.prog 68 tyE68 := ⟨underlying68, t68, type68, rfl, rfl, rfl, fun _ => ⟨by kernel_rfl, by kernel_rfl, by rintro _ ⟨⟩; rfl⟩⟩
theorem tyOK_73 : TyOK Tryz.prog 73 tyE73 := ⟨underlying73, t73, type73, rfl, rfl, rfl, fun h => by cases h⟩
theorem tyOK_74 : TyOK Tryz.prog 74 tyE74 := ⟨underlying74, t74, type74, rfl, rfl, rfl, fun _ => ⟨by kernel_rfl, by kernel_rfl, by rintro _ ⟨⟩; rfl⟩⟩
theorem tyOK_75 : TyOK Tryz.prog 75 tyE75 := ⟨underlying75, t75, type75, rfl, rfl, rfl, fun h => by cases h⟩
theorem tyOK_76 : TyOK Tryz.prog 76 tyE76 := ⟨underlying76, t76, type76, rfl, rfl, rfl, fun _ => ⟨by kernel_rfl, by kernel_rfl, by rintro _ ⟨⟩; rfl⟩⟩
theorem tyOK_86 : TyOK Tryz.prog 86 tyE86 := ⟨underlying86, t86, type86, rfl, rfl, rfl, fun h => by cases h⟩
theorem tyOK_87 : TyOK Tryz.prog 87 tyE87 := ⟨underlying87, t87, type87, rfl, rfl, rfl, fun _ => ⟨by kernel_rfl, by kernel_rfl, by rintro _ ⟨⟩⟩⟩
theorem tyOK_111 : TyOK Tryz.prog 111 tyE111 := ⟨underlying111, t111, type111, rfl, rfl, rfl, fun h => by cases h⟩
theorem tyOK_115 : TyOK Tryz.prog 115 tyE115 := ⟨underlying115, t115, type115, rfl, rfl, rfl, fun h => by cases h⟩
theorem tyOK_118 : TyOK Tryz.prog 118 tyE118 := ⟨underlying118, t118, type118, rfl, rfl, rfl, fun _ => ⟨by kernel_rfl, by kernel_rfl, by rintro _ ⟨⟩; rfl⟩⟩
theorem tyOK_137 : TyOK Tryz.prog 137 tyE137 := ⟨underlying137, t137, type137, rfl, rfl, rfl, fun h => by cases h⟩
theorem tyOK_138 : TyOK Tryz.prog 138 tyE138 := ⟨underlying138, t138, type138, rfl, rfl, rfl, fun _ => ⟨by kernel_rfl, by kernel_rfl, by rintro _ ⟨⟩; rfl⟩⟩
theorem tyOK_139 : TyOK Tryz.prog 139 tyE139 := ⟨underlying139, t139, type139, rfl, rfl, rfl, fun _ => ⟨by kernel_rfl, by kernel_rfl, by rintro _ ⟨⟩; rfl⟩⟩
theorem tyOK_144 : TyOK Tryz.prog 144 tyE144 := ⟨underlying144, t144, type144, rfl, rfl, rfl, fun h => by cases h⟩
theorem tyOK_149 : TyOK Tryz.prog 149 tyE149 := ⟨underlying149, t149, type149, rfl, rfl, rfl, fun _ => ⟨by kernel_rfl, by kernel_rfl, by rintro _ ⟨⟩; rfl⟩⟩
theorem tyOK_150 : TyOK Tryz.prog 150 tyE150 := ⟨underlying150, t150, type150, rfl, rfl, rfl, fun _ => ⟨by kernel_rfl, by kernel_rfl, by rintro _ ⟨⟩; rfl⟩⟩
theorem tyOK_152 : TyOK Tryz.prog 152 tyE152 := ⟨underlying152, t152, type152, rfl, rfl, rfl, fun h => by cases h⟩
theorem tyOK_171 : TyOK Tryz.prog 171 tyE171 := ⟨underlying171, t171, type171, rfl, rfl, rfl, fun h => by cases h⟩
theorem tyOK_178 : TyOK Tryz.prog 178 tyE178 := ⟨underlying178, t178, type178, rfl, rfl, rfl, fun h => by cases h⟩
theorem tyOK_189 : TyOK Tryz.prog 189 tyE189 := ⟨underlying189, t189, type189, rfl, rfl, rfl, fun _ => ⟨by kernel_rfl, by kernel_rfl, by rintro _ ⟨⟩⟩⟩
theorem tyOK_190 : TyOK Tryz.prog 190 tyE190 := ⟨underlying190, t190, type190, rfl, rfl, rfl, fun h => by cases h⟩
theorem tyOK_191 : TyOK Tryz.prog 191 tyE191 := ⟨underlying191, t191, type191, rfl, rfl, rfl, fun h => by cases h⟩
theorem tyOK_193 : TyOK Tryz.prog 193 tyE193 := ⟨underlying193, t193, type193, rfl, rfl, rfl, fun _ => ⟨by kernel_rfl, by kernel_rfl, by rintro _ ⟨⟩; rfl⟩⟩
theorem tyOK_194 : TyOK Tryz.prog 194 tyE194 := ⟨underlying194, t194, type194, rfl, rfl, rfl, fun _ => ⟨by kernel_rfl, by kernel_rfl, by rintro _ ⟨⟩; rfl⟩⟩
theorem tyOK_224 : TyOK Tryz.prog 224 tyE224 := ⟨underlying224, t224, type224, rfl, rfl, rfl, fun h => by cases h⟩
theorem tyOK_228 : TyOK Tryz.prog 228 tyE228 := ⟨underlying228, t228, type228, rfl, rfl, rfl, fun h => by cases h⟩
theorem tyOK_245 : TyOK Tryz.prog 245 tyE245 := ⟨underlying245, t245, type245, rfl, rfl, rfl, fun h => by cases h⟩
theorem tyOK_272 : TyOK Tryz.prog 272 tyE272 := ⟨underlying272, t272, type272, rfl, rfl, rfl, fun h => by cases h⟩
theorem ty_ok : ∀ t x, ty t = some x -> TyOK Tryz.prog t x := jm1 (jaf tyOK_2 (jaf tyOK_3 (jaf tyOK_4 (jaf tyOK_5 (jaf tyOK_7 (jaf tyOK_9 (jaf tyOK_12 (jaf tyOK_13 (jaf tyOK_15 (jaf tyOK_16 (jaf tyOK_17 (jaf tyOK_18 (jaf tyOK_21 (jaf tyOK_22 (jaf tyOK_24 (jaf tyOK_25 (jaf tyOK_26 (jaf tyOK_27 (jaf tyOK_28 (jaf tyOK_29 (jaf tyOK_30 (jaf tyOK_31 (jaf tyOK_37 (jaf tyOK_42 (jaf tyOK_43 (jaf tyOK_44 (jaf tyOK_45 (jaf tyOK_46 (jaf tyOK_49 (jaf tyOK_61 (jaf tyOK_65 (jaf tyOK_66 (jaf tyOK_67 (jaf tyOK_68 (jaf tyOK_73 (jaf tyOK_74 (jaf tyOK_75 (jaf tyOK_76 (jaf tyOK_86 (jaf tyOK_87 (jaf tyOK_111 (jaf tyOK_115 (jaf tyOK_118 (jaf tyOK_137 (jaf tyOK_138 (jaf tyOK_139 (jaf tyOK_144 (jaf tyOK_149 (jaf tyOK_150 (jaf tyOK_152 (jaf tyOK_171 (jaf tyOK_178 (jaf tyOK_189 (jaf tyOK_190 (jaf tyOK_191 (jaf tyOK_193 (jaf tyOK_194 (jaf tyOK_224 (jaf tyOK_228 (jaf tyOK_245 (jaf tyOK_272 jr4)))))))))))))))))))))))))))))))))))))))))))))))))))))))))))))
end Go.Proofs.YtmmffjenpfeapaaGreat
