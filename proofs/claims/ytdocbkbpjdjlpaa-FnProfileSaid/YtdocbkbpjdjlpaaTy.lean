/- The types of the seat as a table. Made by program (genty.py). -/
import Derived.Test.YtdocbkbpjdjlpaaProg
import Derived.Test.YtdocbkbpjdjlpaaAbSpec
import Derived.KernelRfl
namespace Go.Proofs.Ytdocbkbpjdjlpaa
open Go Go.Ab
set_option maxRecDepth 100000

abbrev tyE2 : TyE := ⟨.int .i64, 1, 8, .int .i64 0, false⟩
abbrev tyE3 : TyE := ⟨.int .i64, 1, 8, .int .i64 0, false⟩
abbrev tyE4 : TyE := ⟨.bool, 1, 1, .bool false, false⟩
abbrev tyE5 : TyE := ⟨.int .u8, 1, 1, .int .u8 0, false⟩
abbrev tyE7 : TyE := ⟨.struct #[⟨"x", 2, 0, false, "", "runtime", 0⟩, ⟨"y", 3, 1, false, "", "runtime", 8⟩, ⟨"signed", 4, 2, false, "", "runtime", 16⟩, ⟨"code", 6, 3, false, "", "runtime", 17⟩], 4, 24, .agg #[.int .i64 0, .int .i64 0, .bool false, .int .u8 0], false⟩
abbrev tyE9 : TyE := ⟨.string, 1, 16, .string ByteArray.empty, false⟩
abbrev tyE12 : TyE := ⟨.int .u64, 1, 8, .int .u64 0, false⟩
abbrev tyE13 : TyE := ⟨.struct #[⟨"msg", 9, 0, false, "", "runtime", 0⟩, ⟨"addr", 12, 1, false, "", "runtime", 16⟩], 2, 24, .agg #[.string ByteArray.empty, .int .u64 0], false⟩
abbrev tyE15 : TyE := ⟨.pointer 276, 1, 8, .pointer none, false⟩
abbrev tyE16 : TyE := ⟨.pointer 279, 1, 8, .pointer none, false⟩
abbrev tyE17 : TyE := ⟨.pointer 287, 1, 8, .pointer none, false⟩
abbrev tyE18 : TyE := ⟨.struct #[⟨"typ", 17, 0, false, "", "internal/runtime/maps", 0⟩], 1, 8, .agg #[.pointer none], false⟩
abbrev tyE21 : TyE := ⟨.int .i32, 1, 4, .int .i32 0, false⟩
abbrev tyE22 : TyE := ⟨.slice 9, 1, 24, .slice none 0 0, false⟩
abbrev tyE23 : TyE := ⟨.slice 225, 1, 24, .slice none 0 0, false⟩
abbrev tyE24 : TyE := ⟨.struct #[⟨"Stops", 22, 0, false, "", "", 0⟩, ⟨"Lines", 23, 1, false, "", "", 24⟩], 2, 48, .agg #[.slice none 0 0, .slice none 0 0], false⟩
abbrev tyE25 : TyE := ⟨.struct #[⟨"Stops", 22, 0, false, "", "", 0⟩, ⟨"Lines", 23, 1, false, "", "", 24⟩], 2, 48, .agg #[.slice none 0 0, .slice none 0 0], true⟩
abbrev tyE26 : TyE := ⟨.slice 192, 1, 24, .slice none 0 0, false⟩
abbrev tyE27 : TyE := ⟨.struct #[⟨"Network", 25, 0, false, "", "", 0⟩, ⟨"Trips", 26, 2, false, "", "", 48⟩], 3, 72, .agg #[.slice none 0 0, .slice none 0 0, .slice none 0 0], false⟩
abbrev tyE28 : TyE := ⟨.struct #[⟨"Network", 25, 0, false, "", "", 0⟩, ⟨"Trips", 26, 2, false, "", "", 48⟩], 3, 72, .agg #[.slice none 0 0, .slice none 0 0, .slice none 0 0], true⟩
abbrev tyE30 : TyE := ⟨.slice 146, 1, 24, .slice none 0 0, false⟩
abbrev tyE31 : TyE := ⟨.struct #[⟨"Stops", 22, 0, false, "", "", 0⟩, ⟨"Lines", 30, 1, false, "", "", 24⟩], 2, 48, .agg #[.slice none 0 0, .slice none 0 0], false⟩
abbrev tyE32 : TyE := ⟨.struct #[⟨"Stops", 22, 0, false, "", "", 0⟩, ⟨"Lines", 30, 1, false, "", "", 24⟩], 2, 48, .agg #[.slice none 0 0, .slice none 0 0], true⟩
abbrev tyE33 : TyE := ⟨.slice 167, 1, 24, .slice none 0 0, false⟩
abbrev tyE34 : TyE := ⟨.struct #[⟨"Network", 32, 0, false, "", "", 0⟩, ⟨"Trips", 33, 2, false, "", "", 48⟩], 3, 72, .agg #[.slice none 0 0, .slice none 0 0, .slice none 0 0], false⟩
abbrev tyE35 : TyE := ⟨.struct #[⟨"Network", 32, 0, false, "", "", 0⟩, ⟨"Trips", 33, 2, false, "", "", 48⟩], 3, 72, .agg #[.slice none 0 0, .slice none 0 0, .slice none 0 0], true⟩
abbrev tyE36 : TyE := ⟨.struct #[⟨"Durable", 9, 0, false, "", "", 0⟩, ⟨"Pending", 9, 1, false, "", "", 16⟩, ⟨"Count", 3, 2, false, "", "", 32⟩], 3, 40, .agg #[.string ByteArray.empty, .string ByteArray.empty, .int .i64 0], false⟩
abbrev tyE37 : TyE := ⟨.struct #[⟨"Durable", 9, 0, false, "", "", 0⟩, ⟨"Pending", 9, 1, false, "", "", 16⟩, ⟨"Count", 3, 2, false, "", "", 32⟩], 3, 40, .agg #[.string ByteArray.empty, .string ByteArray.empty, .int .i64 0], true⟩
abbrev tyE38 : TyE := ⟨.struct #[⟨"Timetable", 35, 0, false, "", "", 0⟩, ⟨"Change", 3, 3, false, "", "", 72⟩, ⟨"Log", 37, 4, false, "", "", 80⟩], 7, 120, .agg #[.slice none 0 0, .slice none 0 0, .slice none 0 0, .int .i64 0, .string ByteArray.empty, .string ByteArray.empty, .int .i64 0], false⟩
abbrev tyE39 : TyE := ⟨.struct #[⟨"Timetable", 35, 0, false, "", "", 0⟩, ⟨"Change", 3, 3, false, "", "", 72⟩, ⟨"Log", 37, 4, false, "", "", 80⟩], 7, 120, .agg #[.slice none 0 0, .slice none 0 0, .slice none 0 0, .int .i64 0, .string ByteArray.empty, .string ByteArray.empty, .int .i64 0], true⟩
abbrev tyE48 : TyE := ⟨.slice 5, 1, 24, .slice none 0 0, false⟩
abbrev tyE50 : TyE := ⟨.slice 58, 1, 24, .slice none 0 0, false⟩
abbrev tyE53 : TyE := ⟨.slice 3, 1, 24, .slice none 0 0, false⟩
abbrev tyE57 : TyE := ⟨.struct #[⟨"Line", 3, 0, false, "", "", 0⟩, ⟨"Offset", 3, 1, false, "", "", 8⟩], 2, 16, .agg #[.int .i64 0, .int .i64 0], false⟩
abbrev tyE58 : TyE := ⟨.struct #[⟨"Line", 3, 0, false, "", "", 0⟩, ⟨"Offset", 3, 1, false, "", "", 8⟩], 2, 16, .agg #[.int .i64 0, .int .i64 0], true⟩
abbrev tyE72 : TyE := ⟨.slice 82, 1, 24, .slice none 0 0, false⟩
abbrev tyE75 : TyE := ⟨.slice 53, 1, 24, .slice none 0 0, false⟩
abbrev tyE81 : TyE := ⟨.struct #[⟨"From", 3, 0, false, "", "", 0⟩, ⟨"To", 3, 1, false, "", "", 8⟩, ⟨"Time", 3, 2, false, "", "", 16⟩, ⟨"Persons", 3, 3, false, "", "", 24⟩], 4, 32, .agg #[.int .i64 0, .int .i64 0, .int .i64 0, .int .i64 0], false⟩
abbrev tyE82 : TyE := ⟨.struct #[⟨"From", 3, 0, false, "", "", 0⟩, ⟨"To", 3, 1, false, "", "", 8⟩, ⟨"Time", 3, 2, false, "", "", 16⟩, ⟨"Persons", 3, 3, false, "", "", 24⟩], 4, 32, .agg #[.int .i64 0, .int .i64 0, .int .i64 0, .int .i64 0], true⟩
abbrev tyE98 : TyE := ⟨.slice 101, 1, 24, .slice none 0 0, false⟩
abbrev tyE101 : TyE := ⟨.slice 104, 1, 24, .slice none 0 0, false⟩
abbrev tyE103 : TyE := ⟨.struct #[⟨"Trip", 3, 0, false, "", "", 0⟩, ⟨"From", 3, 1, false, "", "", 8⟩, ⟨"To", 3, 2, false, "", "", 16⟩, ⟨"Depart", 3, 3, false, "", "", 24⟩, ⟨"Arrive", 3, 4, false, "", "", 32⟩], 5, 40, .agg #[.int .i64 0, .int .i64 0, .int .i64 0, .int .i64 0, .int .i64 0], false⟩
abbrev tyE104 : TyE := ⟨.struct #[⟨"Trip", 3, 0, false, "", "", 0⟩, ⟨"From", 3, 1, false, "", "", 8⟩, ⟨"To", 3, 2, false, "", "", 16⟩, ⟨"Depart", 3, 3, false, "", "", 24⟩, ⟨"Arrive", 3, 4, false, "", "", 32⟩], 5, 40, .agg #[.int .i64 0, .int .i64 0, .int .i64 0, .int .i64 0, .int .i64 0], true⟩
abbrev tyE108 : TyE := ⟨.slice 112, 1, 24, .slice none 0 0, false⟩
abbrev tyE111 : TyE := ⟨.struct #[⟨"Depart", 3, 0, false, "", "", 0⟩, ⟨"Arrive", 3, 1, false, "", "", 8⟩, ⟨"Legs", 3, 2, false, "", "", 16⟩], 3, 24, .agg #[.int .i64 0, .int .i64 0, .int .i64 0], false⟩
abbrev tyE112 : TyE := ⟨.struct #[⟨"Depart", 3, 0, false, "", "", 0⟩, ⟨"Arrive", 3, 1, false, "", "", 8⟩, ⟨"Legs", 3, 2, false, "", "", 16⟩], 3, 24, .agg #[.int .i64 0, .int .i64 0, .int .i64 0], true⟩
abbrev tyE126 : TyE := ⟨.pointer 129, 1, 8, .pointer none, false⟩
abbrev tyE127 : TyE := ⟨.int .u64, 1, 8, .int .u64 0, false⟩
abbrev tyE128 : TyE := ⟨.struct #[⟨"code", 48, 0, false, "", "loop.example/g00900/spec", 0⟩, ⟨"at", 3, 1, false, "", "loop.example/g00900/spec", 24⟩, ⟨"seed", 127, 2, false, "", "loop.example/g00900/spec", 32⟩], 3, 40, .agg #[.slice none 0 0, .int .i64 0, .int .u64 0], true⟩
abbrev tyE129 : TyE := ⟨.struct #[⟨"code", 48, 0, false, "", "loop.example/g00900/spec", 0⟩, ⟨"at", 3, 1, false, "", "loop.example/g00900/spec", 24⟩, ⟨"seed", 127, 2, false, "", "loop.example/g00900/spec", 32⟩], 3, 40, .agg #[.slice none 0 0, .int .i64 0, .int .u64 0], true⟩
abbrev tyE145 : TyE := ⟨.struct #[⟨"Name", 9, 0, false, "", "", 0⟩, ⟨"Stops", 53, 1, false, "", "", 16⟩, ⟨"Runs", 53, 2, false, "", "", 40⟩], 3, 64, .agg #[.string ByteArray.empty, .slice none 0 0, .slice none 0 0], false⟩
abbrev tyE146 : TyE := ⟨.struct #[⟨"Name", 9, 0, false, "", "", 0⟩, ⟨"Stops", 53, 1, false, "", "", 16⟩, ⟨"Runs", 53, 2, false, "", "", 40⟩], 3, 64, .agg #[.string ByteArray.empty, .slice none 0 0, .slice none 0 0], true⟩
abbrev tyE154 : TyE := ⟨.slice 164, 1, 24, .slice none 0 0, false⟩
abbrev tyE155 : TyE := ⟨.struct #[⟨"list", 154, 0, false, "", "loop.example/g00900/impl", 0⟩, ⟨"loads", 75, 1, false, "", "loop.example/g00900/impl", 24⟩, ⟨"left", 53, 2, false, "", "loop.example/g00900/impl", 48⟩], 3, 72, .agg #[.slice none 0 0, .slice none 0 0, .slice none 0 0], true⟩
abbrev tyE156 : TyE := ⟨.struct #[⟨"list", 154, 0, false, "", "loop.example/g00900/impl", 0⟩, ⟨"loads", 75, 1, false, "", "loop.example/g00900/impl", 24⟩, ⟨"left", 53, 2, false, "", "loop.example/g00900/impl", 48⟩], 3, 72, .agg #[.slice none 0 0, .slice none 0 0, .slice none 0 0], true⟩
abbrev tyE158 : TyE := ⟨.struct #[⟨"loads", 75, 0, false, "", "loop.example/g00900/spec", 0⟩, ⟨"left", 53, 1, false, "", "loop.example/g00900/spec", 24⟩, ⟨"minutes", 3, 2, false, "", "loop.example/g00900/spec", 48⟩, ⟨"persons", 3, 3, false, "", "loop.example/g00900/spec", 56⟩, ⟨"on", 53, 4, false, "", "loop.example/g00900/spec", 64⟩, ⟨"off", 53, 5, false, "", "loop.example/g00900/spec", 88⟩], 6, 112, .agg #[.slice none 0 0, .slice none 0 0, .int .i64 0, .int .i64 0, .slice none 0 0, .slice none 0 0], true⟩
abbrev tyE159 : TyE := ⟨.struct #[⟨"loads", 75, 0, false, "", "loop.example/g00900/spec", 0⟩, ⟨"left", 53, 1, false, "", "loop.example/g00900/spec", 24⟩, ⟨"minutes", 3, 2, false, "", "loop.example/g00900/spec", 48⟩, ⟨"persons", 3, 3, false, "", "loop.example/g00900/spec", 56⟩, ⟨"on", 53, 4, false, "", "loop.example/g00900/spec", 64⟩, ⟨"off", 53, 5, false, "", "loop.example/g00900/spec", 88⟩], 6, 112, .agg #[.slice none 0 0, .slice none 0 0, .int .i64 0, .int .i64 0, .slice none 0 0, .slice none 0 0], true⟩
abbrev tyE161 : TyE := ⟨.struct #[⟨"trip", 3, 0, false, "", "loop.example/g00900/impl", 0⟩, ⟨"from", 3, 1, false, "", "loop.example/g00900/impl", 8⟩, ⟨"to", 3, 2, false, "", "loop.example/g00900/impl", 16⟩, ⟨"arrive", 3, 3, false, "", "loop.example/g00900/impl", 24⟩], 4, 32, .agg #[.int .i64 0, .int .i64 0, .int .i64 0, .int .i64 0], true⟩
abbrev tyE162 : TyE := ⟨.struct #[⟨"trip", 3, 0, false, "", "loop.example/g00900/impl", 0⟩, ⟨"from", 3, 1, false, "", "loop.example/g00900/impl", 8⟩, ⟨"to", 3, 2, false, "", "loop.example/g00900/impl", 16⟩, ⟨"arrive", 3, 3, false, "", "loop.example/g00900/impl", 24⟩], 4, 32, .agg #[.int .i64 0, .int .i64 0, .int .i64 0, .int .i64 0], true⟩
abbrev tyE163 : TyE := ⟨.struct #[⟨"flow", 3, 0, false, "", "loop.example/g00900/impl", 0⟩, ⟨"service", 162, 1, false, "", "loop.example/g00900/impl", 8⟩, ⟨"persons", 3, 5, false, "", "loop.example/g00900/impl", 40⟩], 6, 48, .agg #[.int .i64 0, .int .i64 0, .int .i64 0, .int .i64 0, .int .i64 0, .int .i64 0], true⟩
abbrev tyE164 : TyE := ⟨.struct #[⟨"flow", 3, 0, false, "", "loop.example/g00900/impl", 0⟩, ⟨"service", 162, 1, false, "", "loop.example/g00900/impl", 8⟩, ⟨"persons", 3, 5, false, "", "loop.example/g00900/impl", 40⟩], 6, 48, .agg #[.int .i64 0, .int .i64 0, .int .i64 0, .int .i64 0, .int .i64 0, .int .i64 0], true⟩
abbrev tyE166 : TyE := ⟨.struct #[⟨"Id", 3, 0, false, "", "", 0⟩, ⟨"Line", 3, 1, false, "", "", 8⟩, ⟨"Start", 3, 2, false, "", "", 16⟩], 3, 24, .agg #[.int .i64 0, .int .i64 0, .int .i64 0], false⟩
abbrev tyE167 : TyE := ⟨.struct #[⟨"Id", 3, 0, false, "", "", 0⟩, ⟨"Line", 3, 1, false, "", "", 8⟩, ⟨"Start", 3, 2, false, "", "", 16⟩], 3, 24, .agg #[.int .i64 0, .int .i64 0, .int .i64 0], true⟩
abbrev tyE173 : TyE := ⟨.slice 162, 1, 24, .slice none 0 0, false⟩
abbrev tyE192 : TyE := ⟨.struct #[⟨"Id", 3, 0, false, "", "", 0⟩, ⟨"Line", 3, 1, false, "", "", 8⟩, ⟨"Start", 3, 2, false, "", "", 16⟩], 3, 24, .agg #[.int .i64 0, .int .i64 0, .int .i64 0], true⟩
abbrev tyE213 : TyE := ⟨.pointer 215, 1, 8, .pointer none, false⟩
abbrev tyE214 : TyE := ⟨.struct #[⟨"t", 35, 0, false, "", "loop.example/g00900/spec", 0⟩, ⟨"change", 3, 3, false, "", "loop.example/g00900/spec", 72⟩, ⟨"to", 3, 4, false, "", "loop.example/g00900/spec", 80⟩, ⟨"arrive", 3, 5, false, "", "loop.example/g00900/spec", 88⟩], 6, 96, .agg #[.slice none 0 0, .slice none 0 0, .slice none 0 0, .int .i64 0, .int .i64 0, .int .i64 0], true⟩
abbrev tyE215 : TyE := ⟨.struct #[⟨"t", 35, 0, false, "", "loop.example/g00900/spec", 0⟩, ⟨"change", 3, 3, false, "", "loop.example/g00900/spec", 72⟩, ⟨"to", 3, 4, false, "", "loop.example/g00900/spec", 80⟩, ⟨"arrive", 3, 5, false, "", "loop.example/g00900/spec", 88⟩], 6, 96, .agg #[.slice none 0 0, .slice none 0 0, .slice none 0 0, .int .i64 0, .int .i64 0, .int .i64 0], true⟩
abbrev tyE225 : TyE := ⟨.struct #[⟨"Name", 9, 0, false, "", "", 0⟩, ⟨"Stops", 53, 1, false, "", "", 16⟩, ⟨"Runs", 53, 2, false, "", "", 40⟩], 3, 64, .agg #[.string ByteArray.empty, .slice none 0 0, .slice none 0 0], true⟩
abbrev tyE241 : TyE := ⟨.int .u64, 1, 8, .int .u64 0, false⟩
abbrev tyE254 : TyE := ⟨.int .i64, 1, 8, .int .i64 0, false⟩
abbrev tyE262 : TyE := ⟨.int .u32, 1, 4, .int .u32 0, false⟩
abbrev tyE266 : TyE := ⟨.int .u64, 1, 8, .int .u64 0, false⟩
abbrev tyE270 : TyE := ⟨.pointer 3, 1, 8, .pointer none, false⟩
abbrev tyE272 : TyE := ⟨.pointer 266, 1, 8, .pointer none, false⟩
abbrev tyE275 : TyE := ⟨.struct #[⟨"_interface", 17, 0, false, "", "runtime", 0⟩, ⟨"concrete", 17, 1, false, "", "runtime", 8⟩, ⟨"asserted", 17, 2, false, "", "runtime", 16⟩, ⟨"missingMethod", 9, 3, false, "", "runtime", 24⟩], 4, 40, .agg #[.pointer none, .pointer none, .pointer none, .string ByteArray.empty], false⟩
abbrev tyE278 : TyE := ⟨.struct #[⟨"_", 277, 0, false, "", "runtime", 0⟩], 0, 0, .agg #[], false⟩
abbrev tyE283 : TyE := ⟨.pointer 5, 1, 8, .pointer none, false⟩
abbrev tyE286 : TyE := ⟨.struct #[⟨"Size_", 12, 0, false, "", "", 0⟩, ⟨"PtrBytes", 12, 1, false, "", "", 8⟩, ⟨"Hash", 262, 2, false, "", "", 16⟩, ⟨"TFlag", 280, 3, false, "", "", 20⟩, ⟨"Align_", 5, 4, false, "", "", 21⟩, ⟨"FieldAlign_", 5, 5, false, "", "", 22⟩, ⟨"Kind_", 281, 6, false, "", "", 23⟩, ⟨"Equal", 282, 7, false, "", "", 24⟩, ⟨"GCData", 283, 8, false, "", "", 32⟩, ⟨"Str", 284, 9, false, "", "", 40⟩, ⟨"PtrToThis", 285, 10, false, "", "", 44⟩], 11, 48, .agg #[.int .u64 0, .int .u64 0, .int .u32 0, .int .u8 0, .int .u8 0, .int .u8 0, .int .u8 0, .nilFunc, .pointer none, .int .i32 0, .int .i32 0], false⟩
abbrev tyE288 : TyE := ⟨.unsafePointer, 1, 8, .pointer none, false⟩
def tyL : List (Nat × TyE) := [(2, tyE2), (3, tyE3), (4, tyE4), (5, tyE5), (7, tyE7), (9, tyE9), (12, tyE12), (13, tyE13), (15, tyE15), (16, tyE16), (17, tyE17), (18, tyE18), (21, tyE21), (22, tyE22), (23, tyE23), (24, tyE24), (25, tyE25), (26, tyE26), (27, tyE27), (28, tyE28), (30, tyE30), (31, tyE31), (32, tyE32), (33, tyE33), (34, tyE34), (35, tyE35), (36, tyE36), (37, tyE37), (38, tyE38), (39, tyE39), (48, tyE48), (50, tyE50), (53, tyE53), (57, tyE57), (58, tyE58), (72, tyE72), (75, tyE75), (81, tyE81), (82, tyE82), (98, tyE98), (101, tyE101), (103, tyE103), (104, tyE104), (108, tyE108), (111, tyE111), (112, tyE112), (126, tyE126), (127, tyE127), (128, tyE128), (129, tyE129), (145, tyE145), (146, tyE146), (154, tyE154), (155, tyE155), (156, tyE156), (158, tyE158), (159, tyE159), (161, tyE161), (162, tyE162), (163, tyE163), (164, tyE164), (166, tyE166), (167, tyE167), (173, tyE173), (192, tyE192), (213, tyE213), (214, tyE214), (215, tyE215), (225, tyE225), (241, tyE241), (254, tyE254), (262, tyE262), (266, tyE266), (270, tyE270), (272, tyE272), (275, tyE275), (278, tyE278), (283, tyE283), (286, tyE286), (288, tyE288)]
def ty (t : TypeId) : Option TyE := lookT t tyL
theorem tyOK_2 : TyOK Try.prog 2 tyE2 := ⟨Try.underlying2, Try.t2, Try.type2, rfl, rfl, rfl, fun h => by cases h⟩
theorem tyOK_3 : TyOK Try.prog 3 tyE3 := ⟨Try.underlying3, Try.t3, Try.type3, rfl, rfl, rfl, fun h => by cases h⟩
theorem tyOK_4 : TyOK Try.prog 4 tyE4 := ⟨Try.underlying4, Try.t4, Try.type4, rfl, rfl, rfl, fun h => by cases h⟩
theorem tyOK_5 : TyOK Try.prog 5 tyE5 := ⟨Try.underlying5, Try.t5, Try.type5, rfl, rfl, rfl, fun h => by cases h⟩
theorem tyOK_7 : TyOK Try.prog 7 tyE7 := ⟨Try.underlying7, Try.t7, Try.type7, rfl, rfl, rfl, fun h => by cases h⟩
theorem tyOK_9 : TyOK Try.prog 9 tyE9 := ⟨Try.underlying9, Try.t9, Try.type9, rfl, rfl, rfl, fun h => by cases h⟩
theorem tyOK_12 : TyOK Try.prog 12 tyE12 := ⟨Try.underlying12, Try.t12, Try.type12, rfl, rfl, rfl, fun h => by cases h⟩
theorem tyOK_13 : TyOK Try.prog 13 tyE13 := ⟨Try.underlying13, Try.t13, Try.type13, rfl, rfl, rfl, fun h => by cases h⟩
theorem tyOK_15 : TyOK Try.prog 15 tyE15 := ⟨Try.underlying15, Try.t15, Try.type15, rfl, rfl, rfl, fun h => by cases h⟩
theorem tyOK_16 : TyOK Try.prog 16 tyE16 := ⟨Try.underlying16, Try.t16, Try.type16, rfl, rfl, rfl, fun h => by cases h⟩
theorem tyOK_17 : TyOK Try.prog 17 tyE17 := ⟨Try.underlying17, Try.t17, Try.type17, rfl, rfl, rfl, fun h => by cases h⟩
theorem tyOK_18 : TyOK Try.prog 18 tyE18 := ⟨Try.underlying18, Try.t18, Try.type18, rfl, rfl, rfl, fun h => by cases h⟩
theorem tyOK_21 : TyOK Try.prog 21 tyE21 := ⟨Try.underlying21, Try.t21, Try.type21, rfl, rfl, rfl, fun h => by cases h⟩
theorem tyOK_22 : TyOK Try.prog 22 tyE22 := ⟨Try.underlying22, Try.t22, Try.type22, rfl, rfl, rfl, fun h => by cases h⟩
theorem tyOK_23 : TyOK Try.prog 23 tyE23 := ⟨Try.underlying23, Try.t23, Try.type23, rfl, rfl, rfl, fun h => by cases h⟩
theorem tyOK_24 : TyOK Try.prog 24 tyE24 := ⟨Try.underlying24, Try.t24, Try.type24, rfl, rfl, rfl, fun h => by cases h⟩
theorem tyOK_25 : TyOK Try.prog 25 tyE25 := ⟨Try.underlying25, Try.t25, Try.type25, rfl, rfl, rfl, fun _ => ⟨by kernel_rfl, by kernel_rfl, by rintro _ ⟨⟩; rfl⟩⟩
theorem tyOK_26 : TyOK Try.prog 26 tyE26 := ⟨Try.underlying26, Try.t26, Try.type26, rfl, rfl, rfl, fun h => by cases h⟩
theorem tyOK_27 : TyOK Try.prog 27 tyE27 := ⟨Try.underlying27, Try.t27, Try.type27, rfl, rfl, rfl, fun h => by cases h⟩
theorem tyOK_28 : TyOK Try.prog 28 tyE28 := ⟨Try.underlying28, Try.t28, Try.type28, rfl, rfl, rfl, fun _ => ⟨by kernel_rfl, by kernel_rfl, by rintro _ ⟨⟩; rfl⟩⟩
theorem tyOK_30 : TyOK Try.prog 30 tyE30 := ⟨Try.underlying30, Try.t30, Try.type30, rfl, rfl, rfl, fun h => by cases h⟩
theorem tyOK_31 : TyOK Try.prog 31 tyE31 := ⟨Try.underlying31, Try.t31, Try.type31, rfl, rfl, rfl, fun h => by cases h⟩
theorem tyOK_32 : TyOK Try.prog 32 tyE32 := ⟨Try.underlying32, Try.t32, Try.type32, rfl, rfl, rfl, fun _ => ⟨by kernel_rfl, by kernel_rfl, by rintro _ ⟨⟩; rfl⟩⟩
theorem tyOK_33 : TyOK Try.prog 33 tyE33 := ⟨Try.underlying33, Try.t33, Try.type33, rfl, rfl, rfl, fun h => by cases h⟩
theorem tyOK_34 : TyOK Try.prog 34 tyE34 := ⟨Try.underlying34, Try.t34, Try.type34, rfl, rfl, rfl, fun h => by cases h⟩
theorem tyOK_35 : TyOK Try.prog 35 tyE35 := ⟨Try.underlying35, Try.t35, Try.type35, rfl, rfl, rfl, fun _ => ⟨by kernel_rfl, by kernel_rfl, by rintro _ ⟨⟩; rfl⟩⟩
theorem tyOK_36 : TyOK Try.prog 36 tyE36 := ⟨Try.underlying36, Try.t36, Try.type36, rfl, rfl, rfl, fun h => by cases h⟩
theorem tyOK_37 : TyOK Try.prog 37 tyE37 := ⟨Try.underlying37, Try.t37, Try.type37, rfl, rfl, rfl, fun _ => ⟨by kernel_rfl, by kernel_rfl, by rintro _ ⟨⟩; rfl⟩⟩
theorem tyOK_38 : TyOK Try.prog 38 tyE38 := ⟨Try.underlying38, Try.t38, Try.type38, rfl, rfl, rfl, fun h => by cases h⟩
theorem tyOK_39 : TyOK Try.prog 39 tyE39 := ⟨Try.underlying39, Try.t39, Try.type39, rfl, rfl, rfl, fun _ => ⟨by kernel_rfl, by kernel_rfl, by rintro _ ⟨⟩; rfl⟩⟩
theorem tyOK_48 : TyOK Try.prog 48 tyE48 := ⟨Try.underlying48, Try.t48, Try.type48, rfl, rfl, rfl, fun h => by cases h⟩
theorem tyOK_50 : TyOK Try.prog 50 tyE50 := ⟨Try.underlying50, Try.t50, Try.type50, rfl, rfl, rfl, fun h => by cases h⟩
theorem tyOK_53 : TyOK Try.prog 53 tyE53 := ⟨Try.underlying53, Try.t53, Try.type53, rfl, rfl, rfl, fun h => by cases h⟩
theorem tyOK_57 : TyOK Try.prog 57 tyE57 := ⟨Try.underlying57, Try.t57, Try.type57, rfl, rfl, rfl, fun h => by cases h⟩
theorem tyOK_58 : TyOK Try.prog 58 tyE58 := ⟨Try.underlying58, Try.t58, Try.type58, rfl, rfl, rfl, fun _ => ⟨by kernel_rfl, by kernel_rfl, by rintro _ ⟨⟩; rfl⟩⟩
theorem tyOK_72 : TyOK Try.prog 72 tyE72 := ⟨Try.underlying72, Try.t72, Try.type72, rfl, rfl, rfl, fun h => by cases h⟩
theorem tyOK_75 : TyOK Try.prog 75 tyE75 := ⟨Try.underlying75, Try.t75, Try.type75, rfl, rfl, rfl, fun h => by cases h⟩
theorem tyOK_81 : TyOK Try.prog 81 tyE81 := ⟨Try.underlying81, Try.t81, Try.type81, rfl, rfl, rfl, fun h => by cases h⟩
theorem tyOK_82 : TyOK Try.prog 82 tyE82 := ⟨Try.underlying82, Try.t82, Try.type82, rfl, rfl, rfl, fun _ => ⟨by kernel_rfl, by kernel_rfl, by rintro _ ⟨⟩; rfl⟩⟩
theorem tyOK_98 : TyOK Try.prog 98 tyE98 := ⟨Try.underlying98, Try.t98, Try.type98, rfl, rfl, rfl, fun h => by cases h⟩
theorem tyOK_101 : TyOK Try.prog 101 tyE101 := ⟨Try.underlying101, Try.t101, Try.type101, rfl, rfl, rfl, fun h => by cases h⟩
theorem tyOK_103 : TyOK Try.prog 103 tyE103 := ⟨Try.underlying103, Try.t103, Try.type103, rfl, rfl, rfl, fun h => by cases h⟩
theorem tyOK_104 : TyOK Try.prog 104 tyE104 := ⟨Try.underlying104, Try.t104, Try.type104, rfl, rfl, rfl, fun _ => ⟨by kernel_rfl, by kernel_rfl, by rintro _ ⟨⟩; rfl⟩⟩
theorem tyOK_108 : TyOK Try.prog 108 tyE108 := ⟨Try.underlying108, Try.t108, Try.type108, rfl, rfl, rfl, fun h => by cases h⟩
theorem tyOK_111 : TyOK Try.prog 111 tyE111 := ⟨Try.underlying111, Try.t111, Try.type111, rfl, rfl, rfl, fun h => by cases h⟩
theorem tyOK_112 : TyOK Try.prog 112 tyE112 := ⟨Try.underlying112, Try.t112, Try.type112, rfl, rfl, rfl, fun _ => ⟨by kernel_rfl, by kernel_rfl, by rintro _ ⟨⟩; rfl⟩⟩
theorem tyOK_126 : TyOK Try.prog 126 tyE126 := ⟨Try.underlying126, Try.t126, Try.type126, rfl, rfl, rfl, fun h => by cases h⟩
theorem tyOK_127 : TyOK Try.prog 127 tyE127 := ⟨Try.underlying127, Try.t127, Try.type127, rfl, rfl, rfl, fun h => by cases h⟩
theorem tyOK_128 : TyOK Try.prog 128 tyE128 := ⟨Try.underlying128, Try.t128, Try.type128, rfl, rfl, rfl, fun _ => ⟨by kernel_rfl, by kernel_rfl, by rintro _ ⟨⟩; rfl⟩⟩
theorem tyOK_129 : TyOK Try.prog 129 tyE129 := ⟨Try.underlying129, Try.t129, Try.type129, rfl, rfl, rfl, fun _ => ⟨by kernel_rfl, by kernel_rfl, by rintro _ ⟨⟩; rfl⟩⟩
theorem tyOK_145 : TyOK Try.prog 145 tyE145 := ⟨Try.underlying145, Try.t145, Try.type145, rfl, rfl, rfl, fun h => by cases h⟩
theorem tyOK_146 : TyOK Try.prog 146 tyE146 := ⟨Try.underlying146, Try.t146, Try.type146, rfl, rfl, rfl, fun _ => ⟨by kernel_rfl, by kernel_rfl, by rintro _ ⟨⟩; rfl⟩⟩
theorem tyOK_154 : TyOK Try.prog 154 tyE154 := ⟨Try.underlying154, Try.t154, Try.type154, rfl, rfl, rfl, fun h => by cases h⟩
theorem tyOK_155 : TyOK Try.prog 155 tyE155 := ⟨Try.underlying155, Try.t155, Try.type155, rfl, rfl, rfl, fun _ => ⟨by kernel_rfl, by kernel_rfl, by rintro _ ⟨⟩; rfl⟩⟩
theorem tyOK_156 : TyOK Try.prog 156 tyE156 := ⟨Try.underlying156, Try.t156, Try.type156, rfl, rfl, rfl, fun _ => ⟨by kernel_rfl, by kernel_rfl, by rintro _ ⟨⟩; rfl⟩⟩
theorem tyOK_158 : TyOK Try.prog 158 tyE158 := ⟨Try.underlying158, Try.t158, Try.type158, rfl, rfl, rfl, fun _ => ⟨by kernel_rfl, by kernel_rfl, by rintro _ ⟨⟩; rfl⟩⟩
theorem tyOK_159 : TyOK Try.prog 159 tyE159 := ⟨Try.underlying159, Try.t159, Try.type159, rfl, rfl, rfl, fun _ => ⟨by kernel_rfl, by kernel_rfl, by rintro _ ⟨⟩; rfl⟩⟩
theorem tyOK_161 : TyOK Try.prog 161 tyE161 := ⟨Try.underlying161, Try.t161, Try.type161, rfl, rfl, rfl, fun _ => ⟨by kernel_rfl, by kernel_rfl, by rintro _ ⟨⟩; rfl⟩⟩
theorem tyOK_162 : TyOK Try.prog 162 tyE162 := ⟨Try.underlying162, Try.t162, Try.type162, rfl, rfl, rfl, fun _ => ⟨by kernel_rfl, by kernel_rfl, by rintro _ ⟨⟩; rfl⟩⟩
theorem tyOK_163 : TyOK Try.prog 163 tyE163 := ⟨Try.underlying163, Try.t163, Try.type163, rfl, rfl, rfl, fun _ => ⟨by kernel_rfl, by kernel_rfl, by rintro _ ⟨⟩; rfl⟩⟩
theorem tyOK_164 : TyOK Try.prog 164 tyE164 := ⟨Try.underlying164, Try.t164, Try.type164, rfl, rfl, rfl, fun _ => ⟨by kernel_rfl, by kernel_rfl, by rintro _ ⟨⟩; rfl⟩⟩
theorem tyOK_166 : TyOK Try.prog 166 tyE166 := ⟨Try.underlying166, Try.t166, Try.type166, rfl, rfl, rfl, fun h => by cases h⟩
theorem tyOK_167 : TyOK Try.prog 167 tyE167 := ⟨Try.underlying167, Try.t167, Try.type167, rfl, rfl, rfl, fun _ => ⟨by kernel_rfl, by kernel_rfl, by rintro _ ⟨⟩; rfl⟩⟩
theorem tyOK_173 : TyOK Try.prog 173 tyE173 := ⟨Try.underlying173, Try.t173, Try.type173, rfl, rfl, rfl, fun h => by cases h⟩
theorem tyOK_192 : TyOK Try.prog 192 tyE192 := ⟨Try.underlying192, Try.t192, Try.type192, rfl, rfl, rfl, fun _ => ⟨by kernel_rfl, by kernel_rfl, by rintro _ ⟨⟩; rfl⟩⟩
theorem tyOK_213 : TyOK Try.prog 213 tyE213 := ⟨Try.underlying213, Try.t213, Try.type213, rfl, rfl, rfl, fun h => by cases h⟩
theorem tyOK_214 : TyOK Try.prog 214 tyE214 := ⟨Try.underlying214, Try.t214, Try.type214, rfl, rfl, rfl, fun _ => ⟨by kernel_rfl, by kernel_rfl, by rintro _ ⟨⟩; rfl⟩⟩
theorem tyOK_215 : TyOK Try.prog 215 tyE215 := ⟨Try.underlying215, Try.t215, Try.type215, rfl, rfl, rfl, fun _ => ⟨by kernel_rfl, by kernel_rfl, by rintro _ ⟨⟩; rfl⟩⟩
theorem tyOK_225 : TyOK Try.prog 225 tyE225 := ⟨Try.underlying225, Try.t225, Try.type225, rfl, rfl, rfl, fun _ => ⟨by kernel_rfl, by kernel_rfl, by rintro _ ⟨⟩; rfl⟩⟩
theorem tyOK_241 : TyOK Try.prog 241 tyE241 := ⟨Try.underlying241, Try.t241, Try.type241, rfl, rfl, rfl, fun h => by cases h⟩
theorem tyOK_254 : TyOK Try.prog 254 tyE254 := ⟨Try.underlying254, Try.t254, Try.type254, rfl, rfl, rfl, fun h => by cases h⟩
theorem tyOK_262 : TyOK Try.prog 262 tyE262 := ⟨Try.underlying262, Try.t262, Try.type262, rfl, rfl, rfl, fun h => by cases h⟩
theorem tyOK_266 : TyOK Try.prog 266 tyE266 := ⟨Try.underlying266, Try.t266, Try.type266, rfl, rfl, rfl, fun h => by cases h⟩
theorem tyOK_270 : TyOK Try.prog 270 tyE270 := ⟨Try.underlying270, Try.t270, Try.type270, rfl, rfl, rfl, fun h => by cases h⟩
theorem tyOK_272 : TyOK Try.prog 272 tyE272 := ⟨Try.underlying272, Try.t272, Try.type272, rfl, rfl, rfl, fun h => by cases h⟩
theorem tyOK_275 : TyOK Try.prog 275 tyE275 := ⟨Try.underlying275, Try.t275, Try.type275, rfl, rfl, rfl, fun h => by cases h⟩
theorem tyOK_278 : TyOK Try.prog 278 tyE278 := ⟨Try.underlying278, Try.t278, Try.type278, rfl, rfl, rfl, fun h => by cases h⟩
theorem tyOK_283 : TyOK Try.prog 283 tyE283 := ⟨Try.underlying283, Try.t283, Try.type283, rfl, rfl, rfl, fun h => by cases h⟩
theorem tyOK_286 : TyOK Try.prog 286 tyE286 := ⟨Try.underlying286, Try.t286, Try.type286, rfl, rfl, rfl, fun h => by cases h⟩
theorem tyOK_288 : TyOK Try.prog 288 tyE288 := ⟨Try.underlying288, Try.t288, Try.type288, rfl, rfl, rfl, fun h => by cases h⟩
theorem ty_ok : ∀ t x, ty t = some x → TyOK Try.prog t x := lookT_ok (allT_cons tyOK_2 (allT_cons tyOK_3 (allT_cons tyOK_4 (allT_cons tyOK_5 (allT_cons tyOK_7 (allT_cons tyOK_9 (allT_cons tyOK_12 (allT_cons tyOK_13 (allT_cons tyOK_15 (allT_cons tyOK_16 (allT_cons tyOK_17 (allT_cons tyOK_18 (allT_cons tyOK_21 (allT_cons tyOK_22 (allT_cons tyOK_23 (allT_cons tyOK_24 (allT_cons tyOK_25 (allT_cons tyOK_26 (allT_cons tyOK_27 (allT_cons tyOK_28 (allT_cons tyOK_30 (allT_cons tyOK_31 (allT_cons tyOK_32 (allT_cons tyOK_33 (allT_cons tyOK_34 (allT_cons tyOK_35 (allT_cons tyOK_36 (allT_cons tyOK_37 (allT_cons tyOK_38 (allT_cons tyOK_39 (allT_cons tyOK_48 (allT_cons tyOK_50 (allT_cons tyOK_53 (allT_cons tyOK_57 (allT_cons tyOK_58 (allT_cons tyOK_72 (allT_cons tyOK_75 (allT_cons tyOK_81 (allT_cons tyOK_82 (allT_cons tyOK_98 (allT_cons tyOK_101 (allT_cons tyOK_103 (allT_cons tyOK_104 (allT_cons tyOK_108 (allT_cons tyOK_111 (allT_cons tyOK_112 (allT_cons tyOK_126 (allT_cons tyOK_127 (allT_cons tyOK_128 (allT_cons tyOK_129 (allT_cons tyOK_145 (allT_cons tyOK_146 (allT_cons tyOK_154 (allT_cons tyOK_155 (allT_cons tyOK_156 (allT_cons tyOK_158 (allT_cons tyOK_159 (allT_cons tyOK_161 (allT_cons tyOK_162 (allT_cons tyOK_163 (allT_cons tyOK_164 (allT_cons tyOK_166 (allT_cons tyOK_167 (allT_cons tyOK_173 (allT_cons tyOK_192 (allT_cons tyOK_213 (allT_cons tyOK_214 (allT_cons tyOK_215 (allT_cons tyOK_225 (allT_cons tyOK_241 (allT_cons tyOK_254 (allT_cons tyOK_262 (allT_cons tyOK_266 (allT_cons tyOK_270 (allT_cons tyOK_272 (allT_cons tyOK_275 (allT_cons tyOK_278 (allT_cons tyOK_283 (allT_cons tyOK_286 (allT_cons tyOK_288 allT_nil))))))))))))))))))))))))))))))))))))))))))))))))))))))))))))))))))))))))))))))))
end Go.Proofs.Ytdocbkbpjdjlpaa
