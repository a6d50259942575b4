/- The types of the seat as a table. Made by program (genty.py). -/
import Derived.Test.YtmmffjenpfeapaaProg
import Derived.Test.YtmmffjenpfeapaaAbSpec
import Derived.KernelRfl
namespace Go.Proofs.Ytmmffjenpfeapaa
open Go Go.Ab
set_option maxRecDepth 100000

abbrev tyE2 : TyE := ⟨.int .i64, 1, 8, .int .i64 0, false⟩
abbrev tyE3 : TyE := ⟨.int .i64, 1, 8, .int .i64 0, false⟩
abbrev tyE4 : TyE := ⟨.bool, 1, 1, .bool false, false⟩
abbrev tyE5 : TyE := ⟨.int .u8, 1, 1, .int .u8 0, false⟩
abbrev tyE7 : TyE := ⟨.struct #[⟨"x", 2, 0, false, "", "runtime", 0⟩, ⟨"y", 3, 1, false, "", "runtime", 8⟩, ⟨"signed", 4, 2, false, "", "runtime", 16⟩, ⟨"code", 6, 3, false, "", "runtime", 17⟩], 4, 24, .agg #[.int .i64 0, .int .i64 0, .bool false, .int .u8 0], false⟩
abbrev tyE9 : TyE := ⟨.string, 1, 16, .string ByteArray.empty, false⟩
abbrev tyE12 : TyE := ⟨.int .u64, 1, 8, .int .u64 0, false⟩
abbrev tyE13 : TyE := ⟨.struct #[⟨"msg", 9, 0, false, "", "runtime", 0⟩, ⟨"addr", 12, 1, false, "", "runtime", 16⟩], 2, 24, .agg #[.string ByteArray.empty, .int .u64 0], false⟩
abbrev tyE15 : TyE := ⟨.pointer 339, 1, 8, .pointer none, false⟩
abbrev tyE16 : TyE := ⟨.pointer 342, 1, 8, .pointer none, false⟩
abbrev tyE17 : TyE := ⟨.pointer 350, 1, 8, .pointer none, false⟩
abbrev tyE18 : TyE := ⟨.struct #[⟨"typ", 17, 0, false, "", "internal/runtime/maps", 0⟩], 1, 8, .agg #[.pointer none], false⟩
abbrev tyE21 : TyE := ⟨.int .i32, 1, 4, .int .i32 0, false⟩
abbrev tyE22 : TyE := ⟨.slice 5, 1, 24, .slice none 0 0, false⟩
abbrev tyE24 : TyE := ⟨.slice 9, 1, 24, .slice none 0 0, false⟩
abbrev tyE25 : TyE := ⟨.slice 177, 1, 24, .slice none 0 0, false⟩
abbrev tyE26 : TyE := ⟨.struct #[⟨"Stops", 24, 0, false, "", "", 0⟩, ⟨"Lines", 25, 1, false, "", "", 24⟩], 2, 48, .agg #[.slice none 0 0, .slice none 0 0], false⟩
abbrev tyE27 : TyE := ⟨.struct #[⟨"Stops", 24, 0, false, "", "", 0⟩, ⟨"Lines", 25, 1, false, "", "", 24⟩], 2, 48, .agg #[.slice none 0 0, .slice none 0 0], true⟩
abbrev tyE28 : TyE := ⟨.slice 159, 1, 24, .slice none 0 0, false⟩
abbrev tyE29 : TyE := ⟨.struct #[⟨"Network", 27, 0, false, "", "", 0⟩, ⟨"Trips", 28, 2, false, "", "", 48⟩], 3, 72, .agg #[.slice none 0 0, .slice none 0 0, .slice none 0 0], false⟩
abbrev tyE30 : TyE := ⟨.struct #[⟨"Network", 27, 0, false, "", "", 0⟩, ⟨"Trips", 28, 2, false, "", "", 48⟩], 3, 72, .agg #[.slice none 0 0, .slice none 0 0, .slice none 0 0], true⟩
abbrev tyE31 : TyE := ⟨.slice 44, 1, 24, .slice none 0 0, false⟩
abbrev tyE37 : TyE := ⟨.slice 3, 1, 24, .slice none 0 0, false⟩
abbrev tyE43 : TyE := ⟨.struct #[⟨"From", 3, 0, false, "", "", 0⟩, ⟨"To", 3, 1, false, "", "", 8⟩, ⟨"Time", 3, 2, false, "", "", 16⟩, ⟨"Persons", 3, 3, false, "", "", 24⟩], 4, 32, .agg #[.int .i64 0, .int .i64 0, .int .i64 0, .int .i64 0], false⟩
abbrev tyE44 : TyE := ⟨.struct #[⟨"From", 3, 0, false, "", "", 0⟩, ⟨"To", 3, 1, false, "", "", 8⟩, ⟨"Time", 3, 2, false, "", "", 16⟩, ⟨"Persons", 3, 3, false, "", "", 24⟩], 4, 32, .agg #[.int .i64 0, .int .i64 0, .int .i64 0, .int .i64 0], true⟩
abbrev tyE49 : TyE := ⟨.slice 55, 1, 24, .slice none 0 0, false⟩
abbrev tyE54 : TyE := ⟨.struct #[⟨"Line", 3, 0, false, "", "", 0⟩, ⟨"Offset", 3, 1, false, "", "", 8⟩], 2, 16, .agg #[.int .i64 0, .int .i64 0], false⟩
abbrev tyE55 : TyE := ⟨.struct #[⟨"Line", 3, 0, false, "", "", 0⟩, ⟨"Offset", 3, 1, false, "", "", 8⟩], 2, 16, .agg #[.int .i64 0, .int .i64 0], true⟩
abbrev tyE67 : TyE := ⟨.slice 308, 1, 24, .slice none 0 0, false⟩
abbrev tyE68 : TyE := ⟨.struct #[⟨"Stops", 24, 0, false, "", "", 0⟩, ⟨"Lines", 67, 1, false, "", "", 24⟩], 2, 48, .agg #[.slice none 0 0, .slice none 0 0], false⟩
abbrev tyE69 : TyE := ⟨.struct #[⟨"Stops", 24, 0, false, "", "", 0⟩, ⟨"Lines", 67, 1, false, "", "", 24⟩], 2, 48, .agg #[.slice none 0 0, .slice none 0 0], true⟩
abbrev tyE70 : TyE := ⟨.slice 264, 1, 24, .slice none 0 0, false⟩
abbrev tyE71 : TyE := ⟨.struct #[⟨"Network", 69, 0, false, "", "", 0⟩, ⟨"Trips", 70, 2, false, "", "", 48⟩], 3, 72, .agg #[.slice none 0 0, .slice none 0 0, .slice none 0 0], false⟩
abbrev tyE72 : TyE := ⟨.struct #[⟨"Network", 69, 0, false, "", "", 0⟩, ⟨"Trips", 70, 2, false, "", "", 48⟩], 3, 72, .agg #[.slice none 0 0, .slice none 0 0, .slice none 0 0], true⟩
abbrev tyE74 : TyE := ⟨.struct #[⟨"Durable", 9, 0, false, "", "", 0⟩, ⟨"Pending", 9, 1, false, "", "", 16⟩, ⟨"Count", 3, 2, false, "", "", 32⟩], 3, 40, .agg #[.string ByteArray.empty, .string ByteArray.empty, .int .i64 0], false⟩
abbrev tyE75 : TyE := ⟨.struct #[⟨"Durable", 9, 0, false, "", "", 0⟩, ⟨"Pending", 9, 1, false, "", "", 16⟩, ⟨"Count", 3, 2, false, "", "", 32⟩], 3, 40, .agg #[.string ByteArray.empty, .string ByteArray.empty, .int .i64 0], true⟩
abbrev tyE76 : TyE := ⟨.struct #[⟨"Timetable", 30, 0, false, "", "", 0⟩, ⟨"Change", 3, 3, false, "", "", 72⟩, ⟨"Log", 75, 4, false, "", "", 80⟩], 7, 120, .agg #[.slice none 0 0, .slice none 0 0, .slice none 0 0, .int .i64 0, .string ByteArray.empty, .string ByteArray.empty, .int .i64 0], false⟩
abbrev tyE77 : TyE := ⟨.struct #[⟨"Timetable", 30, 0, false, "", "", 0⟩, ⟨"Change", 3, 3, false, "", "", 72⟩, ⟨"Log", 75, 4, false, "", "", 80⟩], 7, 120, .agg #[.slice none 0 0, .slice none 0 0, .slice none 0 0, .int .i64 0, .string ByteArray.empty, .string ByteArray.empty, .int .i64 0], true⟩
abbrev tyE86 : TyE := ⟨.slice 37, 1, 24, .slice none 0 0, false⟩
abbrev tyE87 : TyE := ⟨.struct #[⟨"Sizes", 37, 0, false, "", "", 0⟩, ⟨"Tracks", 86, 1, false, "", "", 24⟩], 2, 48, .agg #[.slice none 0 0, .slice none 0 0], false⟩
abbrev tyE88 : TyE := ⟨.struct #[⟨"Sizes", 37, 0, false, "", "", 0⟩, ⟨"Tracks", 86, 1, false, "", "", 24⟩], 2, 48, .agg #[.slice none 0 0, .slice none 0 0], true⟩
abbrev tyE89 : TyE := ⟨.slice 194, 1, 24, .slice none 0 0, false⟩
abbrev tyE109 : TyE := ⟨.slice 114, 1, 24, .slice none 0 0, false⟩
abbrev tyE113 : TyE := ⟨.struct #[⟨"From", 3, 0, false, "", "", 0⟩, ⟨"To", 3, 1, false, "", "", 8⟩], 2, 16, .agg #[.int .i64 0, .int .i64 0], false⟩
abbrev tyE114 : TyE := ⟨.struct #[⟨"From", 3, 0, false, "", "", 0⟩, ⟨"To", 3, 1, false, "", "", 8⟩], 2, 16, .agg #[.int .i64 0, .int .i64 0], true⟩
abbrev tyE119 : TyE := ⟨.struct #[⟨"Dead", 86, 0, false, "", "", 0⟩, ⟨"Turn", 3, 1, false, "", "", 24⟩], 2, 32, .agg #[.slice none 0 0, .int .i64 0], false⟩
abbrev tyE120 : TyE := ⟨.struct #[⟨"Dead", 86, 0, false, "", "", 0⟩, ⟨"Turn", 3, 1, false, "", "", 24⟩], 2, 32, .agg #[.slice none 0 0, .int .i64 0], true⟩
abbrev tyE138 : TyE := ⟨.slice 241, 1, 24, .slice none 0 0, false⟩
abbrev tyE139 : TyE := ⟨.struct #[⟨"list", 138, 0, false, "", "loop.example/g00900/impl", 0⟩, ⟨"loads", 86, 1, false, "", "loop.example/g00900/impl", 24⟩, ⟨"left", 37, 2, false, "", "loop.example/g00900/impl", 48⟩], 3, 72, .agg #[.slice none 0 0, .slice none 0 0, .slice none 0 0], true⟩
abbrev tyE140 : TyE := ⟨.struct #[⟨"list", 138, 0, false, "", "loop.example/g00900/impl", 0⟩, ⟨"loads", 86, 1, false, "", "loop.example/g00900/impl", 24⟩, ⟨"left", 37, 2, false, "", "loop.example/g00900/impl", 48⟩], 3, 72, .agg #[.slice none 0 0, .slice none 0 0, .slice none 0 0], true⟩
abbrev tyE147 : TyE := ⟨.pointer 150, 1, 8, .pointer none, false⟩
abbrev tyE148 : TyE := ⟨.int .u64, 1, 8, .int .u64 0, false⟩
abbrev tyE149 : TyE := ⟨.struct #[⟨"code", 22, 0, false, "", "loop.example/g00900/spec", 0⟩, ⟨"at", 3, 1, false, "", "loop.example/g00900/spec", 24⟩, ⟨"seed", 148, 2, false, "", "loop.example/g00900/spec", 32⟩], 3, 40, .agg #[.slice none 0 0, .int .i64 0, .int .u64 0], true⟩
abbrev tyE150 : TyE := ⟨.struct #[⟨"code", 22, 0, false, "", "loop.example/g00900/spec", 0⟩, ⟨"at", 3, 1, false, "", "loop.example/g00900/spec", 24⟩, ⟨"seed", 148, 2, false, "", "loop.example/g00900/spec", 32⟩], 3, 40, .agg #[.slice none 0 0, .int .i64 0, .int .u64 0], true⟩
abbrev tyE154 : TyE := ⟨.slice 157, 1, 24, .slice none 0 0, false⟩
abbrev tyE156 : TyE := ⟨.struct #[⟨"trip", 3, 0, false, "", "loop.example/g00900/impl", 0⟩, ⟨"from", 3, 1, false, "", "loop.example/g00900/impl", 8⟩, ⟨"to", 3, 2, false, "", "loop.example/g00900/impl", 16⟩, ⟨"arrive", 3, 3, false, "", "loop.example/g00900/impl", 24⟩], 4, 32, .agg #[.int .i64 0, .int .i64 0, .int .i64 0, .int .i64 0], true⟩
abbrev tyE157 : TyE := ⟨.struct #[⟨"trip", 3, 0, false, "", "loop.example/g00900/impl", 0⟩, ⟨"from", 3, 1, false, "", "loop.example/g00900/impl", 8⟩, ⟨"to", 3, 2, false, "", "loop.example/g00900/impl", 16⟩, ⟨"arrive", 3, 3, false, "", "loop.example/g00900/impl", 24⟩], 4, 32, .agg #[.int .i64 0, .int .i64 0, .int .i64 0, .int .i64 0], true⟩
abbrev tyE158 : TyE := ⟨.struct #[⟨"Id", 3, 0, false, "", "", 0⟩, ⟨"Line", 3, 1, false, "", "", 8⟩, ⟨"Start", 3, 2, false, "", "", 16⟩], 3, 24, .agg #[.int .i64 0, .int .i64 0, .int .i64 0], false⟩
abbrev tyE159 : TyE := ⟨.struct #[⟨"Id", 3, 0, false, "", "", 0⟩, ⟨"Line", 3, 1, false, "", "", 8⟩, ⟨"Start", 3, 2, false, "", "", 16⟩], 3, 24, .agg #[.int .i64 0, .int .i64 0, .int .i64 0], true⟩
abbrev tyE176 : TyE := ⟨.struct #[⟨"Name", 9, 0, false, "", "", 0⟩, ⟨"Stops", 37, 1, false, "", "", 16⟩, ⟨"Runs", 37, 2, false, "", "", 40⟩], 3, 64, .agg #[.string ByteArray.empty, .slice none 0 0, .slice none 0 0], false⟩
abbrev tyE177 : TyE := ⟨.struct #[⟨"Name", 9, 0, false, "", "", 0⟩, ⟨"Stops", 37, 1, false, "", "", 16⟩, ⟨"Runs", 37, 2, false, "", "", 40⟩], 3, 64, .agg #[.string ByteArray.empty, .slice none 0 0, .slice none 0 0], true⟩
abbrev tyE193 : TyE := ⟨.struct #[⟨"Vehicle", 3, 0, false, "", "", 0⟩, ⟨"Out", 4, 1, false, "", "", 8⟩], 2, 16, .agg #[.int .i64 0, .bool false], false⟩
abbrev tyE194 : TyE := ⟨.struct #[⟨"Vehicle", 3, 0, false, "", "", 0⟩, ⟨"Out", 4, 1, false, "", "", 8⟩], 2, 16, .agg #[.int .i64 0, .bool false], true⟩
abbrev tyE240 : TyE := ⟨.struct #[⟨"flow", 3, 0, false, "", "loop.example/g00900/impl", 0⟩, ⟨"service", 157, 1, false, "", "loop.example/g00900/impl", 8⟩, ⟨"persons", 3, 5, false, "", "loop.example/g00900/impl", 40⟩], 6, 48, .agg #[.int .i64 0, .int .i64 0, .int .i64 0, .int .i64 0, .int .i64 0, .int .i64 0], true⟩
abbrev tyE241 : TyE := ⟨.struct #[⟨"flow", 3, 0, false, "", "loop.example/g00900/impl", 0⟩, ⟨"service", 157, 1, false, "", "loop.example/g00900/impl", 8⟩, ⟨"persons", 3, 5, false, "", "loop.example/g00900/impl", 40⟩], 6, 48, .agg #[.int .i64 0, .int .i64 0, .int .i64 0, .int .i64 0, .int .i64 0, .int .i64 0], true⟩
abbrev tyE242 : TyE := ⟨.struct #[⟨"loads", 86, 0, false, "", "loop.example/g00900/spec", 0⟩, ⟨"left", 37, 1, false, "", "loop.example/g00900/spec", 24⟩, ⟨"minutes", 3, 2, false, "", "loop.example/g00900/spec", 48⟩, ⟨"persons", 3, 3, false, "", "loop.example/g00900/spec", 56⟩, ⟨"on", 37, 4, false, "", "loop.example/g00900/spec", 64⟩, ⟨"off", 37, 5, false, "", "loop.example/g00900/spec", 88⟩], 6, 112, .agg #[.slice none 0 0, .slice none 0 0, .int .i64 0, .int .i64 0, .slice none 0 0, .slice none 0 0], true⟩
abbrev tyE243 : TyE := ⟨.struct #[⟨"loads", 86, 0, false, "", "loop.example/g00900/spec", 0⟩, ⟨"left", 37, 1, false, "", "loop.example/g00900/spec", 24⟩, ⟨"minutes", 3, 2, false, "", "loop.example/g00900/spec", 48⟩, ⟨"persons", 3, 3, false, "", "loop.example/g00900/spec", 56⟩, ⟨"on", 37, 4, false, "", "loop.example/g00900/spec", 64⟩, ⟨"off", 37, 5, false, "", "loop.example/g00900/spec", 88⟩], 6, 112, .agg #[.slice none 0 0, .slice none 0 0, .int .i64 0, .int .i64 0, .slice none 0 0, .slice none 0 0], true⟩
abbrev tyE264 : TyE := ⟨.struct #[⟨"Id", 3, 0, false, "", "", 0⟩, ⟨"Line", 3, 1, false, "", "", 8⟩, ⟨"Start", 3, 2, false, "", "", 16⟩], 3, 24, .agg #[.int .i64 0, .int .i64 0, .int .i64 0], true⟩
abbrev tyE270 : TyE := ⟨.array 100 4, 100, 100, .agg #[.bool false, .bool false, .bool false, .bool false, .bool false, .bool false, .bool false, .bool false, .bool false, .bool false, .bool false, .bool false, .bool false, .bool false, .bool false, .bool false, .bool false, .bool false, .bool false, .bool false, .bool false, .bool false, .bool false, .bool false, .bool false, .bool false, .bool false, .bool false, .bool false, .bool false, .bool false, .bool false, .bool false, .bool false, .bool false, .bool false, .bool false, .bool false, .bool false, .bool false, .bool false, .bool false, .bool false, .bool false, .bool false, .bool false, .bool false, .bool false, .bool false, .bool false, .bool false, .bool false, .bool false, .bool false, .bool false, .bool false, .bool false, .bool false, .bool false, .bool false, .bool false, .bool false, .bool false, .bool false, .bool false, .bool false, .bool false, .bool false, .bool false, .bool false, .bool false, .bool false, .bool false, .bool false, .bool false, .bool false, .bool false, .bool false, .bool false, .bool false, .bool false, .bool false, .bool false, .bool false, .bool false, .bool false, .bool false, .bool false, .bool false, .bool false, .bool false, .bool false, .bool false, .bool false, .bool false, .bool false, .bool false, .bool false, .bool false, .bool false], false⟩
abbrev tyE275 : TyE := ⟨.int .u64, 1, 8, .int .u64 0, false⟩
abbrev tyE278 : TyE := ⟨.struct #[⟨"t", 30, 0, false, "", "loop.example/g00900/impl", 0⟩, ⟨"f", 120, 3, false, "", "loop.example/g00900/impl", 72⟩, ⟨"memo", 277, 5, false, "", "loop.example/g00900/impl", 104⟩], 6, 112, .agg #[.slice none 0 0, .slice none 0 0, .slice none 0 0, .slice none 0 0, .int .i64 0, .map none], true⟩
abbrev tyE279 : TyE := ⟨.struct #[⟨"t", 30, 0, false, "", "loop.example/g00900/impl", 0⟩, ⟨"f", 120, 3, false, "", "loop.example/g00900/impl", 72⟩, ⟨"memo", 277, 5, false, "", "loop.example/g00900/impl", 104⟩], 6, 112, .agg #[.slice none 0 0, .slice none 0 0, .slice none 0 0, .slice none 0 0, .int .i64 0, .map none], true⟩
abbrev tyE280 : TyE := ⟨.struct #[⟨"count", 3, 0, false, "", "loop.example/g00900/impl", 0⟩, ⟨"dead", 3, 1, false, "", "loop.example/g00900/impl", 8⟩], 2, 16, .agg #[.int .i64 0, .int .i64 0], true⟩
abbrev tyE281 : TyE := ⟨.struct #[⟨"count", 3, 0, false, "", "loop.example/g00900/impl", 0⟩, ⟨"dead", 3, 1, false, "", "loop.example/g00900/impl", 8⟩], 2, 16, .agg #[.int .i64 0, .int .i64 0], true⟩
abbrev tyE286 : TyE := ⟨.pointer 288, 1, 8, .pointer none, false⟩
abbrev tyE287 : TyE := ⟨.struct #[⟨"t", 30, 0, false, "", "loop.example/g00900/spec", 0⟩, ⟨"f", 120, 3, false, "", "loop.example/g00900/spec", 72⟩, ⟨"known", 86, 5, false, "", "loop.example/g00900/spec", 104⟩], 6, 128, .agg #[.slice none 0 0, .slice none 0 0, .slice none 0 0, .slice none 0 0, .int .i64 0, .slice none 0 0], true⟩
abbrev tyE288 : TyE := ⟨.struct #[⟨"t", 30, 0, false, "", "loop.example/g00900/spec", 0⟩, ⟨"f", 120, 3, false, "", "loop.example/g00900/spec", 72⟩, ⟨"known", 86, 5, false, "", "loop.example/g00900/spec", 104⟩], 6, 128, .agg #[.slice none 0 0, .slice none 0 0, .slice none 0 0, .slice none 0 0, .int .i64 0, .slice none 0 0], true⟩
abbrev tyE292 : TyE := ⟨.array 12 4, 12, 12, .agg #[.bool false, .bool false, .bool false, .bool false, .bool false, .bool false, .bool false, .bool false, .bool false, .bool false, .bool false, .bool false], false⟩
abbrev tyE308 : TyE := ⟨.struct #[⟨"Name", 9, 0, false, "", "", 0⟩, ⟨"Stops", 37, 1, false, "", "", 16⟩, ⟨"Runs", 37, 2, false, "", "", 40⟩], 3, 64, .agg #[.string ByteArray.empty, .slice none 0 0, .slice none 0 0], true⟩
abbrev tyE315 : TyE := ⟨.int .i64, 1, 8, .int .i64 0, false⟩
abbrev tyE322 : TyE := ⟨.int .u32, 1, 4, .int .u32 0, false⟩
abbrev tyE324 : TyE := ⟨.pointer 279, 1, 8, .pointer none, false⟩
abbrev tyE325 : TyE := ⟨.array 2 3, 2, 16, .agg #[.int .i64 0, .int .i64 0], false⟩
abbrev tyE329 : TyE := ⟨.int .u64, 1, 8, .int .u64 0, false⟩
abbrev tyE333 : TyE := ⟨.pointer 3, 1, 8, .pointer none, false⟩
abbrev tyE335 : TyE := ⟨.pointer 329, 1, 8, .pointer none, false⟩
abbrev tyE338 : TyE := ⟨.struct #[⟨"_interface", 17, 0, false, "", "runtime", 0⟩, ⟨"concrete", 17, 1, false, "", "runtime", 8⟩, ⟨"asserted", 17, 2, false, "", "runtime", 16⟩, ⟨"missingMethod", 9, 3, false, "", "runtime", 24⟩], 4, 40, .agg #[.pointer none, .pointer none, .pointer none, .string ByteArray.empty], false⟩
abbrev tyE341 : TyE := ⟨.struct #[⟨"_", 340, 0, false, "", "runtime", 0⟩], 0, 0, .agg #[], false⟩
abbrev tyE346 : TyE := ⟨.pointer 5, 1, 8, .pointer none, false⟩
abbrev tyE349 : TyE := ⟨.struct #[⟨"Size_", 12, 0, false, "", "", 0⟩, ⟨"PtrBytes", 12, 1, false, "", "", 8⟩, ⟨"Hash", 322, 2, false, "", "", 16⟩, ⟨"TFlag", 343, 3, false, "", "", 20⟩, ⟨"Align_", 5, 4, false, "", "", 21⟩, ⟨"FieldAlign_", 5, 5, false, "", "", 22⟩, ⟨"Kind_", 344, 6, false, "", "", 23⟩, ⟨"Equal", 345, 7, false, "", "", 24⟩, ⟨"GCData", 346, 8, false, "", "", 32⟩, ⟨"Str", 347, 9, false, "", "", 40⟩, ⟨"PtrToThis", 348, 10, false, "", "", 44⟩], 11, 48, .agg #[.int .u64 0, .int .u64 0, .int .u32 0, .int .u8 0, .int .u8 0, .int .u8 0, .int .u8 0, .nilFunc, .pointer none, .int .i32 0, .int .i32 0], false⟩
abbrev tyE351 : TyE := ⟨.unsafePointer, 1, 8, .pointer none, false⟩
def tyL : List (Nat × TyE) := [(2, tyE2), (3, tyE3), (4, tyE4), (5, tyE5), (7, tyE7), (9, tyE9), (12, tyE12), (13, tyE13), (15, tyE15), (16, tyE16), (17, tyE17), (18, tyE18), (21, tyE21), (22, tyE22), (24, tyE24), (25, tyE25), (26, tyE26), (27, tyE27), (28, tyE28), (29, tyE29), (30, tyE30), (31, tyE31), (37, tyE37), (43, tyE43), (44, tyE44), (49, tyE49), (54, tyE54), (55, tyE55), (67, tyE67), (68, tyE68), (69, tyE69), (70, tyE70), (71, tyE71), (72, tyE72), (74, tyE74), (75, tyE75), (76, tyE76), (77, tyE77), (86, tyE86), (87, tyE87), (88, tyE88), (89, tyE89), (109, tyE109), (113, tyE113), (114, tyE114), (119, tyE119), (120, tyE120), (138, tyE138), (139, tyE139), (140, tyE140), (147, tyE147), (148, tyE148), (149, tyE149), (150, tyE150), (154, tyE154), (156, tyE156), (157, tyE157), (158, tyE158), (159, tyE159), (176, tyE176), (177, tyE177), (193, tyE193), (194, tyE194), (240, tyE240), (241, tyE241), (242, tyE242), (243, tyE243), (264, tyE264), (270, tyE270), (275, tyE275), (278, tyE278), (279, tyE279), (280, tyE280), (281, tyE281), (286, tyE286), (287, tyE287), (288, tyE288), (292, tyE292), (308, tyE308), (315, tyE315), (322, tyE322), (324, tyE324), (325, tyE325), (329, tyE329), (333, tyE333), (335, tyE335), (338, tyE338), (341, tyE341), (346, tyE346), (349, tyE349), (351, tyE351)]
def ty (t : TypeId) : Option TyE := lookT t tyL
theorem tyOK_2 : TyOK Try.prog 2 tyE2 := ⟨Try.underlying2, Try.t2, Try.type2, rfl, rfl, rfl, fun h => by cases h⟩
theorem tyOK_3 : TyOK Try.prog 3 tyE3 := ⟨Try.underlying3, Try.t3, Try.type3, rfl, rfl, rfl, fun h => by cases h⟩
theorem tyOK_4 : TyOK Try.prog 4 tyE4 := ⟨Try.underlying4, Try.t4, Try.type4, rfl, rfl, rfl, fun h => by cases h⟩
theorem tyOK_5 : TyOK Try.prog 5 tyE5 := ⟨Try.underlying5, Try.t5, Try.type5, rfl, rfl, rfl, fun h => by cases h⟩
theorem tyOK_7 : TyOK Try.prog 7 tyE7 := ⟨Try.underlying7, Try.t7, Try.type7, rfl, rfl, rfl, fun h => by cases h⟩
theorem tyOK_9 : TyOK Try.prog 9 tyE9 := ⟨Try.underlying9, Try.t9, Try.type9, rfl, rfl, rfl, fun h => by cases h⟩
theorem tyOK_12 : TyOK Try.prog 12 tyE12 := ⟨Try.underlying12, Try.t12, Try.type12, rfl, rfl, rfl, fun h => by cases h⟩
theorem tyOK_13 : TyOK Try.prog 13 tyE13 := ⟨Try.underlying13, Try.t13, Try.type13, rfl, rfl, rfl, fun h => by cases h⟩
theorem tyOK_15 : TyOK Try.prog 15 tyE15 := ⟨Try.underlying15, Try.t15, Try.type15, rfl, rfl, rfl, fun h => by cases h⟩
theorem tyOK_16 : TyOK Try.prog 16 tyE16 := ⟨Try.underlying16, Try.t16, Try.type16, rfl, rfl, rfl, fun h => by cases h⟩
theorem tyOK_17 : TyOK Try.prog 17 tyE17 := ⟨Try.underlying17, Try.t17, Try.type17, rfl, rfl, rfl, fun h => by cases h⟩
theorem tyOK_18 : TyOK Try.prog 18 tyE18 := ⟨Try.underlying18, Try.t18, Try.type18, rfl, rfl, rfl, fun h => by cases h⟩
theorem tyOK_21 : TyOK Try.prog 21 tyE21 := ⟨Try.underlying21, Try.t21, Try.type21, rfl, rfl, rfl, fun h => by cases h⟩
theorem tyOK_22 : TyOK Try.prog 22 tyE22 := ⟨Try.underlying22, Try.t22, Try.type22, rfl, rfl, rfl, fun h => by cases h⟩
theorem tyOK_24 : TyOK Try.prog 24 tyE24 := ⟨Try.underlying24, Try.t24, Try.type24, rfl, rfl, rfl, fun h => by cases h⟩
theorem tyOK_25 : TyOK Try.prog 25 tyE25 := ⟨Try.underlying25, Try.t25, Try.type25, rfl, rfl, rfl, fun h => by cases h⟩
theorem tyOK_26 : TyOK Try.prog 26 tyE26 := ⟨Try.underlying26, Try.t26, Try.type26, rfl, rfl, rfl, fun h => by cases h⟩
theorem tyOK_27 : TyOK Try.prog 27 tyE27 := ⟨Try.underlying27, Try.t27, Try.type27, rfl, rfl, rfl, fun _ => ⟨by kernel_rfl, by kernel_rfl, by rintro _ ⟨⟩; rfl⟩⟩
theorem tyOK_28 : TyOK Try.prog 28 tyE28 := ⟨Try.underlying28, Try.t28, Try.type28, rfl, rfl, rfl, fun h => by cases h⟩
theorem tyOK_29 : TyOK Try.prog 29 tyE29 := ⟨Try.underlying29, Try.t29, Try.type29, rfl, rfl, rfl, fun h => by cases h⟩
theorem tyOK_30 : TyOK Try.prog 30 tyE30 := ⟨Try.underlying30, Try.t30, Try.type30, rfl, rfl, rfl, fun _ => ⟨by kernel_rfl, by kernel_rfl, by rintro _ ⟨⟩; rfl⟩⟩
theorem tyOK_31 : TyOK Try.prog 31 tyE31 := ⟨Try.underlying31, Try.t31, Try.type31, rfl, rfl, rfl, fun h => by cases h⟩
theorem tyOK_37 : TyOK Try.prog 37 tyE37 := ⟨Try.underlying37, Try.t37, Try.type37, rfl, rfl, rfl, fun h => by cases h⟩
theorem tyOK_43 : TyOK Try.prog 43 tyE43 := ⟨Try.underlying43, Try.t43, Try.type43, rfl, rfl, rfl, fun h => by cases h⟩
theorem tyOK_44 : TyOK Try.prog 44 tyE44 := ⟨Try.underlying44, Try.t44, Try.type44, rfl, rfl, rfl, fun _ => ⟨by kernel_rfl, by kernel_rfl, by rintro _ ⟨⟩; rfl⟩⟩
theorem tyOK_49 : TyOK Try.prog 49 tyE49 := ⟨Try.underlying49, Try.t49, Try.type49, rfl, rfl, rfl, fun h => by cases h⟩
theorem tyOK_54 : TyOK Try.prog 54 tyE54 := ⟨Try.underlying54, Try.t54, Try.type54, rfl, rfl, rfl, fun h => by cases h⟩
theorem tyOK_55 : TyOK Try.prog 55 tyE55 := ⟨Try.underlying55, Try.t55, Try.type55, rfl, rfl, rfl, fun _ => ⟨by kernel_rfl, by kernel_rfl, by rintro _ ⟨⟩; rfl⟩⟩
theorem tyOK_67 : TyOK Try.prog 67 tyE67 := ⟨Try.underlying67, Try.t67, Try.type67, rfl, rfl, rfl, fun h => by cases h⟩
theorem tyOK_68 : TyOK Try.prog 68 tyE68 := ⟨Try.underlying68, Try.t68, Try.type68, rfl, rfl, rfl, fun h => by cases h⟩
theorem tyOK_69 : TyOK Try.prog 69 tyE69 := ⟨Try.underlying69, Try.t69, Try.type69, rfl, rfl, rfl, fun _ => ⟨by kernel_rfl, by kernel_rfl, by rintro _ ⟨⟩; rfl⟩⟩
theorem tyOK_70 : TyOK Try.prog 70 tyE70 := ⟨Try.underlying70, Try.t70, Try.type70, rfl, rfl, rfl, fun h => by cases h⟩
theorem tyOK_71 : TyOK Try.prog 71 tyE71 := ⟨Try.underlying71, Try.t71, Try.type71, rfl, rfl, rfl, fun h => by cases h⟩
theorem tyOK_72 : TyOK Try.prog 72 tyE72 := ⟨Try.underlying72, Try.t72, Try.type72, rfl, rfl, rfl, fun _ => ⟨by kernel_rfl, by kernel_rfl, by rintro _ ⟨⟩; rfl⟩⟩
theorem tyOK_74 : TyOK Try.prog 74 tyE74 := ⟨Try.underlying74, Try.t74, Try.type74, rfl, rfl, rfl, fun h => by cases h⟩
theorem tyOK_75 : TyOK Try.prog 75 tyE75 := ⟨Try.underlying75, Try.t75, Try.type75, rfl, rfl, rfl, fun _ => ⟨by kernel_rfl, by kernel_rfl, by rintro _ ⟨⟩; rfl⟩⟩
theorem tyOK_76 : TyOK Try.prog 76 tyE76 := ⟨Try.underlying76, Try.t76, Try.type76, rfl, rfl, rfl, fun h => by cases h⟩
theorem tyOK_77 : TyOK Try.prog 77 tyE77 := ⟨Try.underlying77, Try.t77, Try.type77, rfl, rfl, rfl, fun _ => ⟨by kernel_rfl, by kernel_rfl, by rintro _ ⟨⟩; rfl⟩⟩
theorem tyOK_86 : TyOK Try.prog 86 tyE86 := ⟨Try.underlying86, Try.t86, Try.type86, rfl, rfl, rfl, fun h => by cases h⟩
theorem tyOK_87 : TyOK Try.prog 87 tyE87 := ⟨Try.underlying87, Try.t87, Try.type87, rfl, rfl, rfl, fun h => by cases h⟩
theorem tyOK_88 : TyOK Try.prog 88 tyE88 := ⟨Try.underlying88, Try.t88, Try.type88, rfl, rfl, rfl, fun _ => ⟨by kernel_rfl, by kernel_rfl, by rintro _ ⟨⟩; rfl⟩⟩
theorem tyOK_89 : TyOK Try.prog 89 tyE89 := ⟨Try.underlying89, Try.t89, Try.type89, rfl, rfl, rfl, fun h => by cases h⟩
theorem tyOK_109 : TyOK Try.prog 109 tyE109 := ⟨Try.underlying109, Try.t109, Try.type109, rfl, rfl, rfl, fun h => by cases h⟩
theorem tyOK_113 : TyOK Try.prog 113 tyE113 := ⟨Try.underlying113, Try.t113, Try.type113, rfl, rfl, rfl, fun h => by cases h⟩
theorem tyOK_114 : TyOK Try.prog 114 tyE114 := ⟨Try.underlying114, Try.t114, Try.type114, rfl, rfl, rfl, fun _ => ⟨by kernel_rfl, by kernel_rfl, by rintro _ ⟨⟩; rfl⟩⟩
theorem tyOK_119 : TyOK Try.prog 119 tyE119 := ⟨Try.underlying119, Try.t119, Try.type119, rfl, rfl, rfl, fun h => by cases h⟩
theorem tyOK_120 : TyOK Try.prog 120 tyE120 := ⟨Try.underlying120, Try.t120, Try.type120, rfl, rfl, rfl, fun _ => ⟨by kernel_rfl, by kernel_rfl, by rintro _ ⟨⟩; rfl⟩⟩
theorem tyOK_138 : TyOK Try.prog 138 tyE138 := ⟨Try.underlying138, Try.t138, Try.type138, rfl, rfl, rfl, fun h => by cases h⟩
theorem tyOK_139 : TyOK Try.prog 139 tyE139 := ⟨Try.underlying139, Try.t139, Try.type139, rfl, rfl, rfl, fun _ => ⟨by kernel_rfl, by kernel_rfl, by rintro _ ⟨⟩; rfl⟩⟩
theorem tyOK_140 : TyOK Try.prog 140 tyE140 := ⟨Try.underlying140, Try.t140, Try.type140, rfl, rfl, rfl, fun _ => ⟨by kernel_rfl, by kernel_rfl, by rintro _ ⟨⟩; rfl⟩⟩
theorem tyOK_147 : TyOK Try.prog 147 tyE147 := ⟨Try.underlying147, Try.t147, Try.type147, rfl, rfl, rfl, fun h => by cases h⟩
theorem tyOK_148 : TyOK Try.prog 148 tyE148 := ⟨Try.underlying148, Try.t148, Try.type148, rfl, rfl, rfl, fun h => by cases h⟩
theorem tyOK_149 : TyOK Try.prog 149 tyE149 := ⟨Try.underlying149, Try.t149, Try.type149, rfl, rfl, rfl, fun _ => ⟨by kernel_rfl, by kernel_rfl, by rintro _ ⟨⟩; rfl⟩⟩
theorem tyOK_150 : TyOK Try.prog 150 tyE150 := ⟨Try.underlying150, Try.t150, Try.type150, rfl, rfl, rfl, fun _ => ⟨by kernel_rfl, by kernel_rfl, by rintro _ ⟨⟩; rfl⟩⟩
theorem tyOK_154 : TyOK Try.prog 154 tyE154 := ⟨Try.underlying154, Try.t154, Try.type154, rfl, rfl, rfl, fun h => by cases h⟩
theorem tyOK_156 : TyOK Try.prog 156 tyE156 := ⟨Try.underlying156, Try.t156, Try.type156, rfl, rfl, rfl, fun _ => ⟨by kernel_rfl, by kernel_rfl, by rintro _ ⟨⟩; rfl⟩⟩
theorem tyOK_157 : TyOK Try.prog 157 tyE157 := ⟨Try.underlying157, Try.t157, Try.type157, rfl, rfl, rfl, fun _ => ⟨by kernel_rfl, by kernel_rfl, by rintro _ ⟨⟩; rfl⟩⟩
theorem tyOK_158 : TyOK Try.prog 158 tyE158 := ⟨Try.underlying158, Try.t158, Try.type158, rfl, rfl, rfl, fun h => by cases h⟩
theorem tyOK_159 : TyOK Try.prog 159 tyE159 := ⟨Try.underlying159, Try.t159, Try.type159, rfl, rfl, rfl, fun _ => ⟨by kernel_rfl, by kernel_rfl, by rintro _ ⟨⟩; rfl⟩⟩
theorem tyOK_176 : TyOK Try.prog 176 tyE176 := ⟨Try.underlying176, Try.t176, Try.type176, rfl, rfl, rfl, fun h => by cases h⟩
theorem tyOK_177 : TyOK Try.prog 177 tyE177 := ⟨Try.underlying177, Try.t177, Try.type177, rfl, rfl, rfl, fun _ => ⟨by kernel_rfl, by kernel_rfl, by rintro _ ⟨⟩; rfl⟩⟩
theorem tyOK_193 : TyOK Try.prog 193 tyE193 := ⟨Try.underlying193, Try.t193, Try.type193, rfl, rfl, rfl, fun h => by cases h⟩
theorem tyOK_194 : TyOK Try.prog 194 tyE194 := ⟨Try.underlying194, Try.t194, Try.type194, rfl, rfl, rfl, fun _ => ⟨by kernel_rfl, by kernel_rfl, by rintro _ ⟨⟩; rfl⟩⟩
theorem tyOK_240 : TyOK Try.prog 240 tyE240 := ⟨Try.underlying240, Try.t240, Try.type240, rfl, rfl, rfl, fun _ => ⟨by kernel_rfl, by kernel_rfl, by rintro _ ⟨⟩; rfl⟩⟩
theorem tyOK_241 : TyOK Try.prog 241 tyE241 := ⟨Try.underlying241, Try.t241, Try.type241, rfl, rfl, rfl, fun _ => ⟨by kernel_rfl, by kernel_rfl, by rintro _ ⟨⟩; rfl⟩⟩
theorem tyOK_242 : TyOK Try.prog 242 tyE242 := ⟨Try.underlying242, Try.t242, Try.type242, rfl, rfl, rfl, fun _ => ⟨by kernel_rfl, by kernel_rfl, by rintro _ ⟨⟩; rfl⟩⟩
theorem tyOK_243 : TyOK Try.prog 243 tyE243 := ⟨Try.underlying243, Try.t243, Try.type243, rfl, rfl, rfl, fun _ => ⟨by kernel_rfl, by kernel_rfl, by rintro _ ⟨⟩; rfl⟩⟩
theorem tyOK_264 : TyOK Try.prog 264 tyE264 := ⟨Try.underlying264, Try.t264, Try.type264, rfl, rfl, rfl, fun _ => ⟨by kernel_rfl, by kernel_rfl, by rintro _ ⟨⟩; rfl⟩⟩
theorem tyOK_270 : TyOK Try.prog 270 tyE270 := ⟨Try.underlying270, Try.t270, Try.type270, rfl, rfl, rfl, fun h => by cases h⟩
theorem tyOK_275 : TyOK Try.prog 275 tyE275 := ⟨Try.underlying275, Try.t275, Try.type275, rfl, rfl, rfl, fun h => by cases h⟩
theorem tyOK_278 : TyOK Try.prog 278 tyE278 := ⟨Try.underlying278, Try.t278, Try.type278, rfl, rfl, rfl, fun _ => ⟨by kernel_rfl, by kernel_rfl, by rintro _ ⟨⟩; rfl⟩⟩
theorem tyOK_279 : TyOK Try.prog 279 tyE279 := ⟨Try.underlying279, Try.t279, Try.type279, rfl, rfl, rfl, fun _ => ⟨by kernel_rfl, by kernel_rfl, by rintro _ ⟨⟩; rfl⟩⟩
theorem tyOK_280 : TyOK Try.prog 280 tyE280 := ⟨Try.underlying280, Try.t280, Try.type280, rfl, rfl, rfl, fun _ => ⟨by kernel_rfl, by kernel_rfl, by rintro _ ⟨⟩; rfl⟩⟩
theorem tyOK_281 : TyOK Try.prog 281 tyE281 := ⟨Try.underlying281, Try.t281, Try.type281, rfl, rfl, rfl, fun _ => ⟨by kernel_rfl, by kernel_rfl, by rintro _ ⟨⟩; rfl⟩⟩
theorem tyOK_286 : TyOK Try.prog 286 tyE286 := ⟨Try.underlying286, Try.t286, Try.type286, rfl, rfl, rfl, fun h => by cases h⟩
theorem tyOK_287 : TyOK Try.prog 287 tyE287 := ⟨Try.underlying287, Try.t287, Try.type287, rfl, rfl, rfl, fun _ => ⟨by kernel_rfl, by kernel_rfl, by rintro _ ⟨⟩; rfl⟩⟩
theorem tyOK_288 : TyOK Try.prog 288 tyE288 := ⟨Try.underlying288, Try.t288, Try.type288, rfl, rfl, rfl, fun _ => ⟨by kernel_rfl, by kernel_rfl, by rintro _ ⟨⟩; rfl⟩⟩
theorem tyOK_292 : TyOK Try.prog 292 tyE292 := ⟨Try.underlying292, Try.t292, Try.type292, rfl, rfl, rfl, fun h => by cases h⟩
theorem tyOK_308 : TyOK Try.prog 308 tyE308 := ⟨Try.underlying308, Try.t308, Try.type308, rfl, rfl, rfl, fun _ => ⟨by kernel_rfl, by kernel_rfl, by rintro _ ⟨⟩; rfl⟩⟩
theorem tyOK_315 : TyOK Try.prog 315 tyE315 := ⟨Try.underlying315, Try.t315, Try.type315, rfl, rfl, rfl, fun h => by cases h⟩
theorem tyOK_322 : TyOK Try.prog 322 tyE322 := ⟨Try.underlying322, Try.t322, Try.type322, rfl, rfl, rfl, fun h => by cases h⟩
theorem tyOK_324 : TyOK Try.prog 324 tyE324 := ⟨Try.underlying324, Try.t324, Try.type324, rfl, rfl, rfl, fun h => by cases h⟩
theorem tyOK_325 : TyOK Try.prog 325 tyE325 := ⟨Try.underlying325, Try.t325, Try.type325, rfl, rfl, rfl, fun h => by cases h⟩
theorem tyOK_329 : TyOK Try.prog 329 tyE329 := ⟨Try.underlying329, Try.t329, Try.type329, rfl, rfl, rfl, fun h => by cases h⟩
theorem tyOK_333 : TyOK Try.prog 333 tyE333 := ⟨Try.underlying333, Try.t333, Try.type333, rfl, rfl, rfl, fun h => by cases h⟩
theorem tyOK_335 : TyOK Try.prog 335 tyE335 := ⟨Try.underlying335, Try.t335, Try.type335, rfl, rfl, rfl, fun h => by cases h⟩
theorem tyOK_338 : TyOK Try.prog 338 tyE338 := ⟨Try.underlying338, Try.t338, Try.type338, rfl, rfl, rfl, fun h => by cases h⟩
theorem tyOK_341 : TyOK Try.prog 341 tyE341 := ⟨Try.underlying341, Try.t341, Try.type341, rfl, rfl, rfl, fun h => by cases h⟩
theorem tyOK_346 : TyOK Try.prog 346 tyE346 := ⟨Try.underlying346, Try.t346, Try.type346, rfl, rfl, rfl, fun h => by cases h⟩
theorem tyOK_349 : TyOK Try.prog 349 tyE349 := ⟨Try.underlying349, Try.t349, Try.type349, rfl, rfl, rfl, fun h => by cases h⟩
theorem tyOK_351 : TyOK Try.prog 351 tyE351 := ⟨Try.underlying351, Try.t351, Try.type351, rfl, rfl, rfl, fun h => by cases h⟩
theorem ty_ok : ∀ t x, ty t = some x → TyOK Try.prog t x := lookT_ok (allT_cons tyOK_2 (allT_cons tyOK_3 (allT_cons tyOK_4 (allT_cons tyOK_5 (allT_cons tyOK_7 (allT_cons tyOK_9 (allT_cons tyOK_12 (allT_cons tyOK_13 (allT_cons tyOK_15 (allT_cons tyOK_16 (allT_cons tyOK_17 (allT_cons tyOK_18 (allT_cons tyOK_21 (allT_cons tyOK_22 (allT_cons tyOK_24 (allT_cons tyOK_25 (allT_cons tyOK_26 (allT_cons tyOK_27 (allT_cons tyOK_28 (allT_cons tyOK_29 (allT_cons tyOK_30 (allT_cons tyOK_31 (allT_cons tyOK_37 (allT_cons tyOK_43 (allT_cons tyOK_44 (allT_cons tyOK_49 (allT_cons tyOK_54 (allT_cons tyOK_55 (allT_cons tyOK_67 (allT_cons tyOK_68 (allT_cons tyOK_69 (allT_cons tyOK_70 (allT_cons tyOK_71 (allT_cons tyOK_72 (allT_cons tyOK_74 (allT_cons tyOK_75 (allT_cons tyOK_76 (allT_cons tyOK_77 (allT_cons tyOK_86 (allT_cons tyOK_87 (allT_cons tyOK_88 (allT_cons tyOK_89 (allT_cons tyOK_109 (allT_cons tyOK_113 (allT_cons tyOK_114 (allT_cons tyOK_119 (allT_cons tyOK_120 (allT_cons tyOK_138 (allT_cons tyOK_139 (allT_cons tyOK_140 (allT_cons tyOK_147 (allT_cons tyOK_148 (allT_cons tyOK_149 (allT_cons tyOK_150 (allT_cons tyOK_154 (allT_cons tyOK_156 (allT_cons tyOK_157 (allT_cons tyOK_158 (allT_cons tyOK_159 (allT_cons tyOK_176 (allT_cons tyOK_177 (allT_cons tyOK_193 (allT_cons tyOK_194 (allT_cons tyOK_240 (allT_cons tyOK_241 (allT_cons tyOK_242 (allT_cons tyOK_243 (allT_cons tyOK_264 (allT_cons tyOK_270 (allT_cons tyOK_275 (allT_cons tyOK_278 (allT_cons tyOK_279 (allT_cons tyOK_280 (allT_cons tyOK_281 (allT_cons tyOK_286 (allT_cons tyOK_287 (allT_cons tyOK_288 (allT_cons tyOK_292 (allT_cons tyOK_308 (allT_cons tyOK_315 (allT_cons tyOK_322 (allT_cons tyOK_324 (allT_cons tyOK_325 (allT_cons tyOK_329 (allT_cons tyOK_333 (allT_cons tyOK_335 (allT_cons tyOK_338 (allT_cons tyOK_341 (allT_cons tyOK_346 (allT_cons tyOK_349 (allT_cons tyOK_351 allT_nil)))))))))))))))))))))))))))))))))))))))))))))))))))))))))))))))))))))))))))))))))))))))))))
end Go.Proofs.Ytmmffjenpfeapaa
