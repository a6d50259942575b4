/- The types of the seat as a table. Made by program (genty.py). -/
import Derived.Test.YtjahononbnbjnaaProg
import Derived.Test.YtjahononbnbjnaaAbSpec
import Derived.KernelRfl
namespace Go.Proofs.Ytjahononbnbjnaa
open Go Go.Ab
set_option maxRecDepth 100000

abbrev tyE1 : TyE := ⟨.func #[] #[] false, 1, 8, .nilFunc, false⟩
abbrev tyE2 : TyE := ⟨.int .i64, 1, 8, .int .i64 0, false⟩
abbrev tyE3 : TyE := ⟨.int .i64, 1, 8, .int .i64 0, false⟩
abbrev tyE4 : TyE := ⟨.bool, 1, 1, .bool false, false⟩
abbrev tyE5 : TyE := ⟨.int .u8, 1, 1, .int .u8 0, false⟩
abbrev tyE7 : TyE := ⟨.struct #[⟨ "x", 2, 0, false, "", "runtime", 0⟩, ⟨ "y", 3, 1, false, "", "runtime", 8⟩, ⟨ "signed", 4, 2, false, "", "runtime", 16⟩, ⟨ "code", 6, 3, false, "", "runtime", 17⟩], 4, 24, .agg #[.int .i64 0, .int .i64 0, .bool false, .int .u8 0], false⟩
abbrev tyE9 : TyE := ⟨.string, 1, 16, .string ByteArray.empty, false⟩
abbrev tyE12 : TyE := ⟨.int .u64, 1, 8, .int .u64 0, false⟩
abbrev tyE13 : TyE := ⟨.struct #[⟨ "msg", 9, 0, false, "", "runtime", 0⟩, ⟨ "addr", 12, 1, false, "", "runtime", 16⟩], 2, 24, .agg #[.string ByteArray.empty, .int .u64 0], false⟩
abbrev tyE15 : TyE := ⟨.pointer 284, 1, 8, .pointer none, false⟩
abbrev tyE16 : TyE := ⟨.pointer 287, 1, 8, .pointer none, false⟩
abbrev tyE17 : TyE := ⟨.pointer 295, 1, 8, .pointer none, false⟩
abbrev tyE18 : TyE := ⟨.struct #[⟨ "typ", 17, 0, false, "", "internal/runtime/maps", 0⟩], 1, 8, .agg #[.pointer none], false⟩
abbrev tyE21 : TyE := ⟨.int .i32, 1, 4, .int .i32 0, false⟩
abbrev tyE22 : TyE := ⟨.slice 5, 1, 24, .slice none 0 0, false⟩
abbrev tyE23 : TyE := ⟨.func #[22] #[4] false, 1, 8, .nilFunc, false⟩
abbrev tyE24 : TyE := ⟨.slice 3, 1, 24, .slice none 0 0, false⟩
abbrev tyE25 : TyE := ⟨.slice 24, 1, 24, .slice none 0 0, false⟩
abbrev tyE26 : TyE := ⟨.struct #[⟨ "Sizes", 24, 0, false, "", "", 0⟩, ⟨ "Tracks", 25, 1, false, "", "", 24⟩], 2, 48, .agg #[.slice none 0 0, .slice none 0 0], false⟩
abbrev tyE27 : TyE := ⟨.struct #[⟨ "Sizes", 24, 0, false, "", "", 0⟩, ⟨ "Tracks", 25, 1, false, "", "", 24⟩], 2, 48, .agg #[.slice none 0 0, .slice none 0 0], true⟩
abbrev tyE28 : TyE := ⟨.slice 122, 1, 24, .slice none 0 0, false⟩
abbrev tyE30 : TyE := ⟨.func #[22] #[27, 28] false, 1, 8, .nilFunc, false⟩
abbrev tyE32 : TyE := ⟨.func #[27, 28] #[24, 4, 4] false, 1, 8, .nilFunc, false⟩
abbrev tyE33 : TyE := ⟨.func #[24, 24] #[4] false, 1, 8, .nilFunc, false⟩
abbrev tyE35 : TyE := ⟨.func #[27, 28, 24] #[27, 3, 4] false, 1, 8, .nilFunc, false⟩
abbrev tyE37 : TyE := ⟨.func #[22] #[27, 3] false, 1, 8, .nilFunc, false⟩
abbrev tyE39 : TyE := ⟨.func #[27, 3] #[28, 24, 4] false, 1, 8, .nilFunc, false⟩
abbrev tyE41 : TyE := ⟨.func #[27, 3] #[24, 4] false, 1, 8, .nilFunc, false⟩
abbrev tyE43 : TyE := ⟨.func #[22] #[27, 24] false, 1, 8, .nilFunc, false⟩
abbrev tyE44 : TyE := ⟨.func #[27, 24] #[24, 4, 4] false, 1, 8, .nilFunc, false⟩
abbrev tyE46 : TyE := ⟨.func #[27, 3] #[27, 4] false, 1, 8, .nilFunc, false⟩
abbrev tyE48 : TyE := ⟨.func #[22] #[27, 28, 24] false, 1, 8, .nilFunc, false⟩
abbrev tyE49 : TyE := ⟨.func #[27, 27] #[4] false, 1, 8, .nilFunc, false⟩
abbrev tyE50 : TyE := ⟨.slice 9, 1, 24, .slice none 0 0, false⟩
abbrev tyE51 : TyE := ⟨.slice 241, 1, 24, .slice none 0 0, false⟩
abbrev tyE52 : TyE := ⟨.struct #[⟨ "Stops", 50, 0, false, "", "", 0⟩, ⟨ "Lines", 51, 1, false, "", "", 24⟩], 2, 48, .agg #[.slice none 0 0, .slice none 0 0], false⟩
abbrev tyE53 : TyE := ⟨.struct #[⟨ "Stops", 50, 0, false, "", "", 0⟩, ⟨ "Lines", 51, 1, false, "", "", 24⟩], 2, 48, .agg #[.slice none 0 0, .slice none 0 0], true⟩
abbrev tyE54 : TyE := ⟨.slice 210, 1, 24, .slice none 0 0, false⟩
abbrev tyE55 : TyE := ⟨.struct #[⟨ "Network", 53, 0, false, "", "", 0⟩, ⟨ "Trips", 54, 2, false, "", "", 48⟩], 3, 72, .agg #[.slice none 0 0, .slice none 0 0, .slice none 0 0], false⟩
abbrev tyE56 : TyE := ⟨.struct #[⟨ "Network", 53, 0, false, "", "", 0⟩, ⟨ "Trips", 54, 2, false, "", "", 48⟩], 3, 72, .agg #[.slice none 0 0, .slice none 0 0, .slice none 0 0], true⟩
abbrev tyE57 : TyE := ⟨.func #[56, 3] #[3] false, 1, 8, .nilFunc, false⟩
abbrev tyE58 : TyE := ⟨.slice 194, 1, 24, .slice none 0 0, false⟩
abbrev tyE59 : TyE := ⟨.struct #[⟨ "Stops", 50, 0, false, "", "", 0⟩, ⟨ "Lines", 58, 1, false, "", "", 24⟩], 2, 48, .agg #[.slice none 0 0, .slice none 0 0], false⟩
abbrev tyE60 : TyE := ⟨.struct #[⟨ "Stops", 50, 0, false, "", "", 0⟩, ⟨ "Lines", 58, 1, false, "", "", 24⟩], 2, 48, .agg #[.slice none 0 0, .slice none 0 0], true⟩
abbrev tyE61 : TyE := ⟨.slice 168, 1, 24, .slice none 0 0, false⟩
abbrev tyE62 : TyE := ⟨.struct #[⟨ "Network", 60, 0, false, "", "", 0⟩, ⟨ "Trips", 61, 2, false, "", "", 48⟩], 3, 72, .agg #[.slice none 0 0, .slice none 0 0, .slice none 0 0], false⟩
abbrev tyE63 : TyE := ⟨.struct #[⟨ "Network", 60, 0, false, "", "", 0⟩, ⟨ "Trips", 61, 2, false, "", "", 48⟩], 3, 72, .agg #[.slice none 0 0, .slice none 0 0, .slice none 0 0], true⟩
abbrev tyE64 : TyE := ⟨.struct #[⟨ "Durable", 9, 0, false, "", "", 0⟩, ⟨ "Pending", 9, 1, false, "", "", 16⟩, ⟨ "Count", 3, 2, false, "", "", 32⟩], 3, 40, .agg #[.string ByteArray.empty, .string ByteArray.empty, .int .i64 0], false⟩
abbrev tyE65 : TyE := ⟨.struct #[⟨ "Durable", 9, 0, false, "", "", 0⟩, ⟨ "Pending", 9, 1, false, "", "", 16⟩, ⟨ "Count", 3, 2, false, "", "", 32⟩], 3, 40, .agg #[.string ByteArray.empty, .string ByteArray.empty, .int .i64 0], true⟩
abbrev tyE66 : TyE := ⟨.struct #[⟨ "Timetable", 63, 0, false, "", "", 0⟩, ⟨ "Change", 3, 3, false, "", "", 72⟩, ⟨ "Log", 65, 4, false, "", "", 80⟩], 7, 120, .agg #[.slice none 0 0, .slice none 0 0, .slice none 0 0, .int .i64 0, .string ByteArray.empty, .string ByteArray.empty, .int .i64 0], false⟩
abbrev tyE67 : TyE := ⟨.struct #[⟨ "Timetable", 63, 0, false, "", "", 0⟩, ⟨ "Change", 3, 3, false, "", "", 72⟩, ⟨ "Log", 65, 4, false, "", "", 80⟩], 7, 120, .agg #[.slice none 0 0, .slice none 0 0, .slice none 0 0, .int .i64 0, .string ByteArray.empty, .string ByteArray.empty, .int .i64 0], true⟩
abbrev tyE69 : TyE := ⟨.func #[63] #[67, 4] false, 1, 8, .nilFunc, false⟩
abbrev tyE70 : TyE := ⟨.func #[56] #[63] false, 1, 8, .nilFunc, false⟩
abbrev tyE71 : TyE := ⟨.func #[67, 67] #[4] false, 1, 8, .nilFunc, false⟩
abbrev tyE72 : TyE := ⟨.func #[63, 63] #[4] false, 1, 8, .nilFunc, false⟩
abbrev tyE73 : TyE := ⟨.func #[63, 3] #[3] false, 1, 8, .nilFunc, false⟩
abbrev tyE74 : TyE := ⟨.func #[67, 3] #[3] false, 1, 8, .nilFunc, false⟩
abbrev tyE75 : TyE := ⟨.func #[56] #[4] false, 1, 8, .nilFunc, false⟩
abbrev tyE76 : TyE := ⟨.struct #[⟨ "Dead", 25, 0, false, "", "", 0⟩, ⟨ "Turn", 3, 1, false, "", "", 24⟩], 2, 32, .agg #[.slice none 0 0, .int .i64 0], false⟩
abbrev tyE77 : TyE := ⟨.struct #[⟨ "Dead", 25, 0, false, "", "", 0⟩, ⟨ "Turn", 3, 1, false, "", "", 24⟩], 2, 32, .agg #[.slice none 0 0, .int .i64 0], true⟩
abbrev tyE79 : TyE := ⟨.func #[22] #[63, 77] false, 1, 8, .nilFunc, false⟩
abbrev tyE81 : TyE := ⟨.func #[63, 77] #[25, 3, 4] false, 1, 8, .nilFunc, false⟩
abbrev tyE82 : TyE := ⟨.func #[25, 25] #[4] false, 1, 8, .nilFunc, false⟩
abbrev tyE84 : TyE := ⟨.func #[63] #[3, 3, 4] false, 1, 8, .nilFunc, false⟩
abbrev tyE86 : TyE := ⟨.func #[63, 77, 25] #[3, 4] false, 1, 8, .nilFunc, false⟩
abbrev tyE87 : TyE := ⟨.slice 171, 1, 24, .slice none 0 0, false⟩
abbrev tyE89 : TyE := ⟨.func #[63, 77, 25] #[87, 4] false, 1, 8, .nilFunc, false⟩
abbrev tyE90 : TyE := ⟨.func #[63, 77, 25] #[4] false, 1, 8, .nilFunc, false⟩
abbrev tyE91 : TyE := ⟨.func #[63, 77, 25, 3] #[3, 3, 4] false, 1, 8, .nilFunc, false⟩
abbrev tyE93 : TyE := ⟨.func #[63, 77, 3, 3] #[4, 4] false, 1, 8, .nilFunc, false⟩
abbrev tyE95 : TyE := ⟨.func #[22] #[63, 77, 25, 3, 3] false, 1, 8, .nilFunc, false⟩
abbrev tyE97 : TyE := ⟨.func #[63, 77, 25, 3, 3] #[25, 4] false, 1, 8, .nilFunc, false⟩
abbrev tyE98 : TyE := ⟨.slice 104, 1, 24, .slice none 0 0, false⟩
abbrev tyE100 : TyE := ⟨.func #[22] #[60, 3, 98, 3] false, 1, 8, .nilFunc, false⟩
abbrev tyE102 : TyE := ⟨.func #[60, 3, 98, 3] #[24, 3, 4] false, 1, 8, .nilFunc, false⟩
abbrev tyE103 : TyE := ⟨.struct #[⟨ "Line", 3, 0, false, "", "", 0⟩, ⟨ "Offset", 3, 1, false, "", "", 8⟩], 2, 16, .agg #[.int .i64 0, .int .i64 0], false⟩
abbrev tyE104 : TyE := ⟨.struct #[⟨ "Line", 3, 0, false, "", "", 0⟩, ⟨ "Offset", 3, 1, false, "", "", 8⟩], 2, 16, .agg #[.int .i64 0, .int .i64 0], true⟩
abbrev tyE105 : TyE := ⟨.func #[60, 3, 98, 3] #[3, 3, 4] false, 1, 8, .nilFunc, false⟩
abbrev tyE107 : TyE := ⟨.func #[22] #[60, 3, 98, 3, 3, 3, 3] false, 1, 8, .nilFunc, false⟩
abbrev tyE108 : TyE := ⟨.func #[60, 3, 98, 3, 3, 3, 3] #[3, 4] false, 1, 8, .nilFunc, false⟩
abbrev tyE110 : TyE := ⟨.func #[22] #[60, 3, 98, 3, 3] false, 1, 8, .nilFunc, false⟩
abbrev tyE111 : TyE := ⟨.func #[60, 3, 98, 3, 3] #[24, 4] false, 1, 8, .nilFunc, false⟩
abbrev tyE113 : TyE := ⟨.func #[22] #[3, 3] false, 1, 8, .nilFunc, false⟩
abbrev tyE114 : TyE := ⟨.func #[3, 3] #[24, 4] false, 1, 8, .nilFunc, false⟩
abbrev tyE115 : TyE := ⟨.pointer 118, 1, 8, .pointer none, false⟩
abbrev tyE116 : TyE := ⟨.int .u64, 1, 8, .int .u64 0, false⟩
abbrev tyE117 : TyE := ⟨.struct #[⟨ "code", 22, 0, false, "", "loop.example/g00900/spec", 0⟩, ⟨ "at", 3, 1, false, "", "loop.example/g00900/spec", 24⟩, ⟨ "seed", 116, 2, false, "", "loop.example/g00900/spec", 32⟩], 3, 40, .agg #[.slice none 0 0, .int .i64 0, .int .u64 0], true⟩
abbrev tyE118 : TyE := ⟨.struct #[⟨ "code", 22, 0, false, "", "loop.example/g00900/spec", 0⟩, ⟨ "at", 3, 1, false, "", "loop.example/g00900/spec", 24⟩, ⟨ "seed", 116, 2, false, "", "loop.example/g00900/spec", 32⟩], 3, 40, .agg #[.slice none 0 0, .int .i64 0, .int .u64 0], true⟩
abbrev tyE119 : TyE := ⟨.func #[] #[27] false, 1, 8, .nilFunc, false⟩
abbrev tyE120 : TyE := ⟨.func #[27] #[28] false, 1, 8, .nilFunc, false⟩
abbrev tyE121 : TyE := ⟨.struct #[⟨ "Vehicle", 3, 0, false, "", "", 0⟩, ⟨ "Out", 4, 1, false, "", "", 8⟩], 2, 16, .agg #[.int .i64 0, .bool false], false⟩
abbrev tyE122 : TyE := ⟨.struct #[⟨ "Vehicle", 3, 0, false, "", "", 0⟩, ⟨ "Out", 4, 1, false, "", "", 8⟩], 2, 16, .agg #[.int .i64 0, .bool false], true⟩
abbrev tyE123 : TyE := ⟨.func #[27] #[4] false, 1, 8, .nilFunc, false⟩
abbrev tyE124 : TyE := ⟨.func #[27, 28] #[24, 4] false, 1, 8, .nilFunc, false⟩
abbrev tyE125 : TyE := ⟨.func #[27, 28, 3, 24] #[24, 4] false, 1, 8, .nilFunc, false⟩
abbrev tyE126 : TyE := ⟨.func #[27] #[27] false, 1, 8, .nilFunc, false⟩
abbrev tyE127 : TyE := ⟨.func #[27, 28, 24] #[3] false, 1, 8, .nilFunc, false⟩
abbrev tyE129 : TyE := ⟨.func #[27, 3] #[24, 3] false, 1, 8, .nilFunc, false⟩
abbrev tyE130 : TyE := ⟨.func #[27, 3] #[4] false, 1, 8, .nilFunc, false⟩
abbrev tyE131 : TyE := ⟨.func #[27, 3, 3] #[4] false, 1, 8, .nilFunc, false⟩
abbrev tyE132 : TyE := ⟨.func #[27, 3] #[3, 3] false, 1, 8, .nilFunc, false⟩
abbrev tyE133 : TyE := ⟨.func #[27, 3, 3] #[24] false, 1, 8, .nilFunc, false⟩
abbrev tyE134 : TyE := ⟨.func #[27, 3, 3] #[27, 4] false, 1, 8, .nilFunc, false⟩
abbrev tyE135 : TyE := ⟨.func #[3] #[4] false, 1, 8, .nilFunc, false⟩
abbrev tyE136 : TyE := ⟨.func #[24, 3] #[24] false, 1, 8, .nilFunc, false⟩
abbrev tyE137 : TyE := ⟨.func #[3] #[3] false, 1, 8, .nilFunc, false⟩
abbrev tyE138 : TyE := ⟨.func #[27] #[3] false, 1, 8, .nilFunc, false⟩
abbrev tyE139 : TyE := ⟨.func #[25, 3] #[3, 3] false, 1, 8, .nilFunc, false⟩
abbrev tyE140 : TyE := ⟨.func #[24] #[24] false, 1, 8, .nilFunc, false⟩
abbrev tyE141 : TyE := ⟨.func #[24, 135] #[3] false, 1, 8, .nilFunc, false⟩
abbrev tyE142 : TyE := ⟨.func #[24, 3, 3] #[24] false, 1, 8, .nilFunc, false⟩
abbrev tyE143 : TyE := ⟨.func #[24, 3, 3] #[4] false, 1, 8, .nilFunc, false⟩
abbrev tyE144 : TyE := ⟨.func #[27, 24, 24] #[24, 4] false, 1, 8, .nilFunc, false⟩
abbrev tyE145 : TyE := ⟨.func #[27, 28, 24] #[27, 3] false, 1, 8, .nilFunc, false⟩
abbrev tyE146 : TyE := ⟨.func #[53, 3] #[3] false, 1, 8, .nilFunc, false⟩
abbrev tyE147 : TyE := ⟨.func #[54, 3] #[3] false, 1, 8, .nilFunc, false⟩
abbrev tyE148 : TyE := ⟨.func #[63] #[4] false, 1, 8, .nilFunc, false⟩
abbrev tyE149 : TyE := ⟨.func #[63] #[63] false, 1, 8, .nilFunc, false⟩
abbrev tyE150 : TyE := ⟨.func #[53] #[60] false, 1, 8, .nilFunc, false⟩
abbrev tyE151 : TyE := ⟨.func #[54] #[61] false, 1, 8, .nilFunc, false⟩
abbrev tyE152 : TyE := ⟨.func #[65, 65] #[4] false, 1, 8, .nilFunc, false⟩
abbrev tyE153 : TyE := ⟨.func #[60, 60] #[4] false, 1, 8, .nilFunc, false⟩
abbrev tyE154 : TyE := ⟨.func #[61, 61] #[4] false, 1, 8, .nilFunc, false⟩
abbrev tyE155 : TyE := ⟨.func #[60, 3] #[3] false, 1, 8, .nilFunc, false⟩
abbrev tyE156 : TyE := ⟨.func #[61, 3] #[3] false, 1, 8, .nilFunc, false⟩
abbrev tyE157 : TyE := ⟨.func #[] #[63] false, 1, 8, .nilFunc, false⟩
abbrev tyE158 : TyE := ⟨.func #[60] #[77] false, 1, 8, .nilFunc, false⟩
abbrev tyE159 : TyE := ⟨.func #[63, 77] #[4] false, 1, 8, .nilFunc, false⟩
abbrev tyE161 : TyE := ⟨.func #[63, 77] #[25, 3] false, 1, 8, .nilFunc, false⟩
abbrev tyE162 : TyE := ⟨.func #[63, 24] #[25] false, 1, 8, .nilFunc, false⟩
abbrev tyE163 : TyE := ⟨.func #[63, 77] #[24] false, 1, 8, .nilFunc, false⟩
abbrev tyE164 : TyE := ⟨.func #[63, 77, 25] #[3] false, 1, 8, .nilFunc, false⟩
abbrev tyE165 : TyE := ⟨.func #[63] #[3, 3] false, 1, 8, .nilFunc, false⟩
abbrev tyE166 : TyE := ⟨.func #[63, 77, 168, 168] #[3] false, 1, 8, .nilFunc, false⟩
abbrev tyE167 : TyE := ⟨.struct #[⟨ "Id", 3, 0, false, "", "", 0⟩, ⟨ "Line", 3, 1, false, "", "", 8⟩, ⟨ "Start", 3, 2, false, "", "", 16⟩], 3, 24, .agg #[.int .i64 0, .int .i64 0, .int .i64 0], false⟩
abbrev tyE168 : TyE := ⟨.struct #[⟨ "Id", 3, 0, false, "", "", 0⟩, ⟨ "Line", 3, 1, false, "", "", 8⟩, ⟨ "Start", 3, 2, false, "", "", 16⟩], 3, 24, .agg #[.int .i64 0, .int .i64 0, .int .i64 0], true⟩
abbrev tyE169 : TyE := ⟨.func #[63, 3] #[168] false, 1, 8, .nilFunc, false⟩
abbrev tyE170 : TyE := ⟨.struct #[⟨ "From", 3, 0, false, "", "", 0⟩, ⟨ "To", 3, 1, false, "", "", 8⟩], 2, 16, .agg #[.int .i64 0, .int .i64 0], false⟩
abbrev tyE171 : TyE := ⟨.struct #[⟨ "From", 3, 0, false, "", "", 0⟩, ⟨ "To", 3, 1, false, "", "", 8⟩], 2, 16, .agg #[.int .i64 0, .int .i64 0], true⟩
abbrev tyE172 : TyE := ⟨.func #[63, 24] #[171] false, 1, 8, .nilFunc, false⟩
abbrev tyE173 : TyE := ⟨.func #[63, 77, 168, 168] #[4] false, 1, 8, .nilFunc, false⟩
abbrev tyE175 : TyE := ⟨.func #[] #[63, 77, 25] false, 1, 8, .nilFunc, false⟩
abbrev tyE176 : TyE := ⟨.func #[63] #[3] false, 1, 8, .nilFunc, false⟩
abbrev tyE177 : TyE := ⟨.func #[25] #[25] false, 1, 8, .nilFunc, false⟩
abbrev tyE178 : TyE := ⟨.func #[25] #[24] true, 1, 8, .nilFunc, false⟩
abbrev tyE180 : TyE := ⟨.func #[3] #[60, 3, 98] false, 1, 8, .nilFunc, false⟩
abbrev tyE181 : TyE := ⟨.func #[60, 98] #[3] false, 1, 8, .nilFunc, false⟩
abbrev tyE182 : TyE := ⟨.func #[60, 3, 98, 3] #[4] false, 1, 8, .nilFunc, false⟩
abbrev tyE183 : TyE := ⟨.func #[60, 3, 98, 3] #[24] false, 1, 8, .nilFunc, false⟩
abbrev tyE184 : TyE := ⟨.func #[98] #[98] false, 1, 8, .nilFunc, false⟩
abbrev tyE185 : TyE := ⟨.func #[3] #[] false, 1, 8, .nilFunc, false⟩
abbrev tyE186 : TyE := ⟨.func #[24, 3] #[3, 3] false, 1, 8, .nilFunc, false⟩
abbrev tyE187 : TyE := ⟨.func #[24] #[3, 3] false, 1, 8, .nilFunc, false⟩
abbrev tyE188 : TyE := ⟨.func #[3, 3] #[3] false, 1, 8, .nilFunc, false⟩
abbrev tyE189 : TyE := ⟨.func #[24] #[3] false, 1, 8, .nilFunc, false⟩
abbrev tyE190 : TyE := ⟨.func #[98, 3] #[4] false, 1, 8, .nilFunc, false⟩
abbrev tyE191 : TyE := ⟨.func #[3, 3, 3] #[4] false, 1, 8, .nilFunc, false⟩
abbrev tyE192 : TyE := ⟨.func #[60, 3, 104, 3] #[3] false, 1, 8, .nilFunc, false⟩
abbrev tyE193 : TyE := ⟨.struct #[⟨ "Name", 9, 0, false, "", "", 0⟩, ⟨ "Stops", 24, 1, false, "", "", 16⟩, ⟨ "Runs", 24, 2, false, "", "", 40⟩], 3, 64, .agg #[.string ByteArray.empty, .slice none 0 0, .slice none 0 0], false⟩
abbrev tyE194 : TyE := ⟨.struct #[⟨ "Name", 9, 0, false, "", "", 0⟩, ⟨ "Stops", 24, 1, false, "", "", 16⟩, ⟨ "Runs", 24, 2, false, "", "", 40⟩], 3, 64, .agg #[.string ByteArray.empty, .slice none 0 0, .slice none 0 0], true⟩
abbrev tyE195 : TyE := ⟨.func #[194, 3] #[3] false, 1, 8, .nilFunc, false⟩
abbrev tyE196 : TyE := ⟨.func #[60, 3, 98] #[4] false, 1, 8, .nilFunc, false⟩
abbrev tyE197 : TyE := ⟨.func #[3, 3] #[24] false, 1, 8, .nilFunc, false⟩
abbrev tyE198 : TyE := ⟨.array 100 4, 100, 100, .agg #[.bool false, .bool false, .bool false, .bool false, .bool false, .bool false, .bool false, .bool false, .bool false, .bool false, .bool false, .bool false, .bool false, .bool false, .bool false, .bool false, .bool false, .bool false, .bool false, .bool false, .bool false, .bool false, .bool false, .bool false, .bool false, .bool false, .bool false, .bool false, .bool false, .bool false, .bool false, .bool false, .bool false, .bool false, .bool false, .bool false, .bool false, .bool false, .bool false, .bool false, .bool false, .bool false, .bool false, .bool false, .bool false, .bool false, .bool false, .bool false, .bool false, .bool false, .bool false, .bool false, .bool false, .bool false, .bool false, .bool false, .bool false, .bool false, .bool false, .bool false, .bool false, .bool false, .bool false, .bool false, .bool false, .bool false, .bool false, .bool false, .bool false, .bool false, .bool false, .bool false, .bool false, .bool false, .bool false, .bool false, .bool false, .bool false, .bool false, .bool false, .bool false, .bool false, .bool false, .bool false, .bool false, .bool false, .bool false, .bool false, .bool false, .bool false, .bool false, .bool false, .bool false, .bool false, .bool false, .bool false, .bool false, .bool false, .bool false, .bool false], false⟩
abbrev tyE199 : TyE := ⟨.func #[24, 3] #[4] false, 1, 8, .nilFunc, false⟩
abbrev tyE200 : TyE := ⟨.func #[24] #[] false, 1, 8, .nilFunc, false⟩
abbrev tyE201 : TyE := ⟨.func #[] #[3] false, 1, 8, .nilFunc, false⟩
abbrev tyE202 : TyE := ⟨.func #[24, 3] #[3] false, 1, 8, .nilFunc, false⟩
abbrev tyE203 : TyE := ⟨.func #[50, 3] #[3] false, 1, 8, .nilFunc, false⟩
abbrev tyE204 : TyE := ⟨.func #[51, 3] #[3] false, 1, 8, .nilFunc, false⟩
abbrev tyE205 : TyE := ⟨.func #[60] #[4] false, 1, 8, .nilFunc, false⟩
abbrev tyE206 : TyE := ⟨.func #[60] #[60] false, 1, 8, .nilFunc, false⟩
abbrev tyE207 : TyE := ⟨.func #[50] #[50] false, 1, 8, .nilFunc, false⟩
abbrev tyE208 : TyE := ⟨.func #[51] #[58] false, 1, 8, .nilFunc, false⟩
abbrev tyE209 : TyE := ⟨.func #[210] #[168] false, 1, 8, .nilFunc, false⟩
abbrev tyE210 : TyE := ⟨.struct #[⟨ "Id", 3, 0, false, "", "", 0⟩, ⟨ "Line", 3, 1, false, "", "", 8⟩, ⟨ "Start", 3, 2, false, "", "", 16⟩], 3, 24, .agg #[.int .i64 0, .int .i64 0, .int .i64 0], true⟩
abbrev tyE211 : TyE := ⟨.func #[61] #[61] false, 1, 8, .nilFunc, false⟩
abbrev tyE212 : TyE := ⟨.func #[50, 50] #[4] false, 1, 8, .nilFunc, false⟩
abbrev tyE213 : TyE := ⟨.func #[58, 58] #[4] false, 1, 8, .nilFunc, false⟩
abbrev tyE214 : TyE := ⟨.func #[168, 168] #[4] false, 1, 8, .nilFunc, false⟩
abbrev tyE215 : TyE := ⟨.func #[58, 3] #[3] false, 1, 8, .nilFunc, false⟩
abbrev tyE216 : TyE := ⟨.func #[] #[60] false, 1, 8, .nilFunc, false⟩
abbrev tyE217 : TyE := ⟨.func #[60, 77] #[4] false, 1, 8, .nilFunc, false⟩
abbrev tyE218 : TyE := ⟨.map 257 222, 1, 8, .map none, false⟩
abbrev tyE219 : TyE := ⟨.struct #[⟨ "t", 63, 0, false, "", "loop.example/g00900/impl", 0⟩, ⟨ "f", 77, 3, false, "", "loop.example/g00900/impl", 72⟩, ⟨ "memo", 218, 5, false, "", "loop.example/g00900/impl", 104⟩], 6, 112, .agg #[.slice none 0 0, .slice none 0 0, .slice none 0 0, .slice none 0 0, .int .i64 0, .map none], true⟩
abbrev tyE220 : TyE := ⟨.struct #[⟨ "t", 63, 0, false, "", "loop.example/g00900/impl", 0⟩, ⟨ "f", 77, 3, false, "", "loop.example/g00900/impl", 72⟩, ⟨ "memo", 218, 5, false, "", "loop.example/g00900/impl", 104⟩], 6, 112, .agg #[.slice none 0 0, .slice none 0 0, .slice none 0 0, .slice none 0 0, .int .i64 0, .map none], true⟩
abbrev tyE221 : TyE := ⟨.struct #[⟨ "count", 3, 0, false, "", "loop.example/g00900/impl", 0⟩, ⟨ "dead", 3, 1, false, "", "loop.example/g00900/impl", 8⟩], 2, 16, .agg #[.int .i64 0, .int .i64 0], true⟩
abbrev tyE222 : TyE := ⟨.struct #[⟨ "count", 3, 0, false, "", "loop.example/g00900/impl", 0⟩, ⟨ "dead", 3, 1, false, "", "loop.example/g00900/impl", 8⟩], 2, 16, .agg #[.int .i64 0, .int .i64 0], true⟩
abbrev tyE223 : TyE := ⟨.func #[3, 3] #[222] false, 1, 8, .nilFunc, false⟩
abbrev tyE224 : TyE := ⟨.func #[222, 222] #[3] false, 1, 8, .nilFunc, false⟩
abbrev tyE226 : TyE := ⟨.func #[3, 3, 3] #[222, 4] false, 1, 8, .nilFunc, false⟩
abbrev tyE227 : TyE := ⟨.pointer 229, 1, 8, .pointer none, false⟩
abbrev tyE228 : TyE := ⟨.struct #[⟨ "t", 63, 0, false, "", "loop.example/g00900/spec", 0⟩, ⟨ "f", 77, 3, false, "", "loop.example/g00900/spec", 72⟩, ⟨ "known", 25, 5, false, "", "loop.example/g00900/spec", 104⟩], 6, 128, .agg #[.slice none 0 0, .slice none 0 0, .slice none 0 0, .slice none 0 0, .int .i64 0, .slice none 0 0], true⟩
abbrev tyE229 : TyE := ⟨.struct #[⟨ "t", 63, 0, false, "", "loop.example/g00900/spec", 0⟩, ⟨ "f", 77, 3, false, "", "loop.example/g00900/spec", 72⟩, ⟨ "known", 25, 5, false, "", "loop.example/g00900/spec", 104⟩], 6, 128, .agg #[.slice none 0 0, .slice none 0 0, .slice none 0 0, .slice none 0 0, .int .i64 0, .slice none 0 0], true⟩
abbrev tyE230 : TyE := ⟨.int .u64, 1, 8, .int .u64 0, false⟩
abbrev tyE231 : TyE := ⟨.func #[63, 77, 3, 3] #[4] false, 1, 8, .nilFunc, false⟩
abbrev tyE232 : TyE := ⟨.func #[63, 77, 3, 3] #[3] false, 1, 8, .nilFunc, false⟩
abbrev tyE233 : TyE := ⟨.func #[63, 168] #[3] false, 1, 8, .nilFunc, false⟩
abbrev tyE234 : TyE := ⟨.array 12 4, 12, 12, .agg #[.bool false, .bool false, .bool false, .bool false, .bool false, .bool false, .bool false, .bool false, .bool false, .bool false, .bool false, .bool false], false⟩
abbrev tyE235 : TyE := ⟨.func #[61, 236] #[3] false, 1, 8, .nilFunc, false⟩
abbrev tyE236 : TyE := ⟨.func #[168] #[4] false, 1, 8, .nilFunc, false⟩
abbrev tyE237 : TyE := ⟨.func #[60, 3] #[4] false, 1, 8, .nilFunc, false⟩
abbrev tyE238 : TyE := ⟨.func #[60, 3, 98, 3] #[24, 4] false, 1, 8, .nilFunc, false⟩
abbrev tyE239 : TyE := ⟨.func #[194, 3, 3] #[3] false, 1, 8, .nilFunc, false⟩
abbrev tyE240 : TyE := ⟨.func #[241, 3] #[3] false, 1, 8, .nilFunc, false⟩
abbrev tyE241 : TyE := ⟨.struct #[⟨ "Name", 9, 0, false, "", "", 0⟩, ⟨ "Stops", 24, 1, false, "", "", 16⟩, ⟨ "Runs", 24, 2, false, "", "", 40⟩], 3, 64, .agg #[.string ByteArray.empty, .slice none 0 0, .slice none 0 0], true⟩
abbrev tyE242 : TyE := ⟨.func #[9] #[4] false, 1, 8, .nilFunc, false⟩
abbrev tyE243 : TyE := ⟨.func #[50, 9] #[3] false, 1, 8, .nilFunc, false⟩
abbrev tyE244 : TyE := ⟨.func #[194, 3] #[4] false, 1, 8, .nilFunc, false⟩
abbrev tyE245 : TyE := ⟨.func #[60, 9] #[3] false, 1, 8, .nilFunc, false⟩
abbrev tyE246 : TyE := ⟨.func #[63, 3, 3] #[3] false, 1, 8, .nilFunc, false⟩
abbrev tyE247 : TyE := ⟨.func #[63, 3] #[24] false, 1, 8, .nilFunc, false⟩
abbrev tyE248 : TyE := ⟨.func #[241] #[194] false, 1, 8, .nilFunc, false⟩
abbrev tyE249 : TyE := ⟨.func #[50] #[4] false, 1, 8, .nilFunc, false⟩
abbrev tyE250 : TyE := ⟨.func #[60] #[50] false, 1, 8, .nilFunc, false⟩
abbrev tyE251 : TyE := ⟨.func #[60, 194] #[4] false, 1, 8, .nilFunc, false⟩
abbrev tyE252 : TyE := ⟨.func #[194] #[194] false, 1, 8, .nilFunc, false⟩
abbrev tyE253 : TyE := ⟨.func #[194, 194] #[4] false, 1, 8, .nilFunc, false⟩
abbrev tyE254 : TyE := ⟨.func #[3] #[9] false, 1, 8, .nilFunc, false⟩
abbrev tyE255 : TyE := ⟨.func #[9, 3] #[194] false, 1, 8, .nilFunc, false⟩
abbrev tyE256 : TyE := ⟨.pointer 220, 1, 8, .pointer none, false⟩
abbrev tyE257 : TyE := ⟨.array 2 3, 2, 16, .agg #[.int .i64 0, .int .i64 0], true⟩
abbrev tyE258 : TyE := ⟨.func #[24] #[3] true, 1, 8, .nilFunc, false⟩
abbrev tyE259 : TyE := ⟨.func #[63, 168] #[194] false, 1, 8, .nilFunc, false⟩
abbrev tyE260 : TyE := ⟨.func #[50] #[9] false, 1, 8, .nilFunc, false⟩
abbrev tyE261 : TyE := ⟨.func #[24, 3, 3, 3] #[] false, 1, 8, .nilFunc, false⟩
abbrev tyE262 : TyE := ⟨.func #[230] #[3] false, 1, 8, .nilFunc, false⟩
abbrev tyE263 : TyE := ⟨.func #[63, 3] #[194] false, 1, 8, .nilFunc, false⟩
abbrev tyE264 : TyE := ⟨.func #[24, 3, 3] #[] false, 1, 8, .nilFunc, false⟩
abbrev tyE265 : TyE := ⟨.int .i64, 1, 8, .int .i64 0, false⟩
abbrev tyE267 : TyE := ⟨.func #[24, 3, 3] #[3, 265] false, 1, 8, .nilFunc, false⟩
abbrev tyE268 : TyE := ⟨.func #[3, 3] #[4] false, 1, 8, .nilFunc, false⟩
abbrev tyE269 : TyE := ⟨.func #[24, 3, 3, 3] #[3] false, 1, 8, .nilFunc, false⟩
abbrev tyE270 : TyE := ⟨.func #[24, 3, 3, 3] #[3, 4] false, 1, 8, .nilFunc, false⟩
abbrev tyE271 : TyE := ⟨.func #[272] #[3] false, 1, 8, .nilFunc, false⟩
abbrev tyE272 : TyE := ⟨.int .u32, 1, 4, .int .u32 0, false⟩
abbrev tyE273 : TyE := ⟨.func #[116] #[3] false, 1, 8, .nilFunc, false⟩
abbrev tyE274 : TyE := ⟨.int .u64, 1, 8, .int .u64 0, false⟩
abbrev tyE275 : TyE := ⟨.func #[3] #[230] false, 1, 8, .nilFunc, false⟩
abbrev tyE276 : TyE := ⟨.func #[] #[116] false, 1, 8, .nilFunc, false⟩
abbrev tyE277 : TyE := ⟨.func #[24, 3, 278] #[3] false, 1, 8, .nilFunc, false⟩
abbrev tyE278 : TyE := ⟨.pointer 3, 1, 8, .pointer none, false⟩
abbrev tyE279 : TyE := ⟨.func #[24, 3, 3, 3, 278] #[3] false, 1, 8, .nilFunc, false⟩
abbrev tyE280 : TyE := ⟨.pointer 274, 1, 8, .pointer none, false⟩
abbrev tyE281 : TyE := ⟨.func #[24, 3, 3, 278] #[3, 3] false, 1, 8, .nilFunc, false⟩
abbrev tyE282 : TyE := ⟨.func #[] #[9] false, 1, 8, .nilFunc, false⟩
abbrev tyE283 : TyE := ⟨.struct #[⟨ "_interface", 17, 0, false, "", "runtime", 0⟩, ⟨ "concrete", 17, 1, false, "", "runtime", 8⟩, ⟨ "asserted", 17, 2, false, "", "runtime", 16⟩, ⟨ "missingMethod", 9, 3, false, "", "runtime", 24⟩], 4, 40, .agg #[.pointer none, .pointer none, .pointer none, .string ByteArray.empty], false⟩
abbrev tyE286 : TyE := ⟨.struct #[⟨ "_", 285, 0, false, "", "runtime", 0⟩], 0, 0, .agg #[], false⟩
abbrev tyE290 : TyE := ⟨.func #[296, 296] #[4] false, 1, 8, .nilFunc, false⟩
abbrev tyE291 : TyE := ⟨.pointer 5, 1, 8, .pointer none, false⟩
abbrev tyE294 : TyE := ⟨.struct #[⟨ "Size_", 12, 0, false, "", "", 0⟩, ⟨ "PtrBytes", 12, 1, false, "", "", 8⟩, ⟨ "Hash", 272, 2, false, "", "", 16⟩, ⟨ "TFlag", 288, 3, false, "", "", 20⟩, ⟨ "Align_", 5, 4, false, "", "", 21⟩, ⟨ "FieldAlign_", 5, 5, false, "", "", 22⟩, ⟨ "Kind_", 289, 6, false, "", "", 23⟩, ⟨ "Equal", 290, 7, false, "", "", 24⟩, ⟨ "GCData", 291, 8, false, "", "", 32⟩, ⟨ "Str", 292, 9, false, "", "", 40⟩, ⟨ "PtrToThis", 293, 10, false, "", "", 44⟩], 11, 48, .agg #[.int .u64 0, .int .u64 0, .int .u32 0, .int .u8 0, .int .u8 0, .int .u8 0, .int .u8 0, .nilFunc, .pointer none, .int .i32 0, .int .i32 0], false⟩
abbrev tyE296 : TyE := ⟨.unsafePointer, 1, 8, .pointer none, false⟩
def tyL : List (Nat × TyE) := [(1, tyE1), (2, tyE2), (3, tyE3), (4, tyE4), (5, tyE5), (7, tyE7), (9, tyE9), (12, tyE12), (13, tyE13), (15, tyE15), (16, tyE16), (17, tyE17), (18, tyE18), (21, tyE21), (22, tyE22), (23, tyE23), (24, tyE24), (25, tyE25), (26, tyE26), (27, tyE27), (28, tyE28), (30, tyE30), (32, tyE32), (33, tyE33), (35, tyE35), (37, tyE37), (39, tyE39), (41, tyE41), (43, tyE43), (44, tyE44), (46, tyE46), (48, tyE48), (49, tyE49), (50, tyE50), (51, tyE51), (52, tyE52), (53, tyE53), (54, tyE54), (55, tyE55), (56, tyE56), (57, tyE57), (58, tyE58), (59, tyE59), (60, tyE60), (61, tyE61), (62, tyE62), (63, tyE63), (64, tyE64), (65, tyE65), (66, tyE66), (67, tyE67), (69, tyE69), (70, tyE70), (71, tyE71), (72, tyE72), (73, tyE73), (74, tyE74), (75, tyE75), (76, tyE76), (77, tyE77), (79, tyE79), (81, tyE81), (82, tyE82), (84, tyE84), (86, tyE86), (87, tyE87), (89, tyE89), (90, tyE90), (91, tyE91), (93, tyE93), (95, tyE95), (97, tyE97), (98, tyE98), (100, tyE100), (102, tyE102), (103, tyE103), (104, tyE104), (105, tyE105), (107, tyE107), (108, tyE108), (110, tyE110), (111, tyE111), (113, tyE113), (114, tyE114), (115, tyE115), (116, tyE116), (117, tyE117), (118, tyE118), (119, tyE119), (120, tyE120), (121, tyE121), (122, tyE122), (123, tyE123), (124, tyE124), (125, tyE125), (126, tyE126), (127, tyE127), (129, tyE129), (130, tyE130), (131, tyE131), (132, tyE132), (133, tyE133), (134, tyE134), (135, tyE135), (136, tyE136), (137, tyE137), (138, tyE138), (139, tyE139), (140, tyE140), (141, tyE141), (142, tyE142), (143, tyE143), (144, tyE144), (145, tyE145), (146, tyE146), (147, tyE147), (148, tyE148), (149, tyE149), (150, tyE150), (151, tyE151), (152, tyE152), (153, tyE153), (154, tyE154), (155, tyE155), (156, tyE156), (157, tyE157), (158, tyE158), (159, tyE159), (161, tyE161), (162, tyE162), (163, tyE163), (164, tyE164), (165, tyE165), (166, tyE166), (167, tyE167), (168, tyE168), (169, tyE169), (170, tyE170), (171, tyE171), (172, tyE172), (173, tyE173), (175, tyE175), (176, tyE176), (177, tyE177), (178, tyE178), (180, tyE180), (181, tyE181), (182, tyE182), (183, tyE183), (184, tyE184), (185, tyE185), (186, tyE186), (187, tyE187), (188, tyE188), (189, tyE189), (190, tyE190), (191, tyE191), (192, tyE192), (193, tyE193), (194, tyE194), (195, tyE195), (196, tyE196), (197, tyE197), (198, tyE198), (199, tyE199), (200, tyE200), (201, tyE201), (202, tyE202), (203, tyE203), (204, tyE204), (205, tyE205), (206, tyE206), (207, tyE207), (208, tyE208), (209, tyE209), (210, tyE210), (211, tyE211), (212, tyE212), (213, tyE213), (214, tyE214), (215, tyE215), (216, tyE216), (217, tyE217), (218, tyE218), (219, tyE219), (220, tyE220), (221, tyE221), (222, tyE222), (223, tyE223), (224, tyE224), (226, tyE226), (227, tyE227), (228, tyE228), (229, tyE229), (230, tyE230), (231, tyE231), (232, tyE232), (233, tyE233), (234, tyE234), (235, tyE235), (236, tyE236), (237, tyE237), (238, tyE238), (239, tyE239), (240, tyE240), (241, tyE241), (242, tyE242), (243, tyE243), (244, tyE244), (245, tyE245), (246, tyE246), (247, tyE247), (248, tyE248), (249, tyE249), (250, tyE250), (251, tyE251), (252, tyE252), (253, tyE253), (254, tyE254), (255, tyE255), (256, tyE256), (257, tyE257), (258, tyE258), (259, tyE259), (260, tyE260), (261, tyE261), (262, tyE262), (263, tyE263), (264, tyE264), (265, tyE265), (267, tyE267), (268, tyE268), (269, tyE269), (270, tyE270), (271, tyE271), (272, tyE272), (273, tyE273), (274, tyE274), (275, tyE275), (276, tyE276), (277, tyE277), (278, tyE278), (279, tyE279), (280, tyE280), (281, tyE281), (282, tyE282), (283, tyE283), (286, tyE286), (290, tyE290), (291, tyE291), (294, tyE294), (296, tyE296)]
def ty (t : TypeId) : Option TyE := lookT t tyL
theorem tyOK_1 : TyOK Try.prog 1 tyE1 := ⟨Try.underlying1, Try.t1, Try.type1, rfl, rfl, rfl, fun h => by cases h⟩
theorem tyOK_2 : TyOK Try.prog 2 tyE2 := ⟨Try.underlying2, Try.t2, Try.type2, rfl, rfl, rfl, fun h => by cases h⟩
theorem tyOK_3 : TyOK Try.prog 3 tyE3 := ⟨Try.underlying3, Try.t3, Try.type3, rfl, rfl, rfl, fun h => by cases h⟩
theorem tyOK_4 : TyOK Try.prog 4 tyE4 := ⟨Try.underlying4, Try.t4, Try.type4, rfl, rfl, rfl, fun h => by cases h⟩
theorem tyOK_5 : TyOK Try.prog 5 tyE5 := ⟨Try.underlying5, Try.t5, Try.type5, rfl, rfl, rfl, fun h => by cases h⟩
theorem tyOK_7 : TyOK Try.prog 7 tyE7 := ⟨Try.underlying7, Try.t7, Try.type7, rfl, rfl, rfl, fun h => by cases h⟩
theorem tyOK_9 : TyOK Try.prog 9 tyE9 := ⟨Try.underlying9, Try.t9, Try.type9, rfl, rfl, rfl, fun h => by cases h⟩
theorem tyOK_12 : TyOK Try.prog 12 tyE12 := ⟨Try.underlying12, Try.t12, Try.type12, rfl, rfl, rfl, fun h => by cases h⟩
theorem tyOK_13 : TyOK Try.prog 13 tyE13 := ⟨Try.underlying13, Try.t13, Try.type13, rfl, rfl, rfl, fun h => by cases h⟩
theorem tyOK_15 : TyOK Try.prog 15 tyE15 := ⟨Try.underlying15, Try.t15, Try.type15, rfl, rfl, rfl, fun h => by cases h⟩
theorem tyOK_16 : TyOK Try.prog 16 tyE16 := ⟨Try.underlying16, Try.t16, Try.type16, rfl, rfl, rfl, fun h => by cases h⟩
theorem tyOK_17 : TyOK Try.prog 17 tyE17 := ⟨Try.underlying17, Try.t17, Try.type17, rfl, rfl, rfl, fun h => by cases h⟩
theorem tyOK_18 : TyOK Try.prog 18 tyE18 := ⟨Try.underlying18, Try.t18, Try.type18, rfl, rfl, rfl, fun h => by cases h⟩
theorem tyOK_21 : TyOK Try.prog 21 tyE21 := ⟨Try.underlying21, Try.t21, Try.type21, rfl, rfl, rfl, fun h => by cases h⟩
theorem tyOK_22 : TyOK Try.prog 22 tyE22 := ⟨Try.underlying22, Try.t22, Try.type22, rfl, rfl, rfl, fun h => by cases h⟩
theorem tyOK_23 : TyOK Try.prog 23 tyE23 := ⟨Try.underlying23, Try.t23, Try.type23, rfl, rfl, rfl, fun h => by cases h⟩
theorem tyOK_24 : TyOK Try.prog 24 tyE24 := ⟨Try.underlying24, Try.t24, Try.type24, rfl, rfl, rfl, fun h => by cases h⟩
theorem tyOK_25 : TyOK Try.prog 25 tyE25 := ⟨Try.underlying25, Try.t25, Try.type25, rfl, rfl, rfl, fun h => by cases h⟩
theorem tyOK_26 : TyOK Try.prog 26 tyE26 := ⟨Try.underlying26, Try.t26, Try.type26, rfl, rfl, rfl, fun h => by cases h⟩
theorem tyOK_27 : TyOK Try.prog 27 tyE27 := ⟨Try.underlying27, Try.t27, Try.type27, rfl, rfl, rfl, fun _ => ⟨by kernel_rfl, by kernel_rfl, by rintro _ ⟨⟩; rfl⟩⟩
theorem tyOK_28 : TyOK Try.prog 28 tyE28 := ⟨Try.underlying28, Try.t28, Try.type28, rfl, rfl, rfl, fun h => by cases h⟩
theorem tyOK_30 : TyOK Try.prog 30 tyE30 := ⟨Try.underlying30, Try.t30, Try.type30, rfl, rfl, rfl, fun h => by cases h⟩
theorem tyOK_32 : TyOK Try.prog 32 tyE32 := ⟨Try.underlying32, Try.t32, Try.type32, rfl, rfl, rfl, fun h => by cases h⟩
theorem tyOK_33 : TyOK Try.prog 33 tyE33 := ⟨Try.underlying33, Try.t33, Try.type33, rfl, rfl, rfl, fun h => by cases h⟩
theorem tyOK_35 : TyOK Try.prog 35 tyE35 := ⟨Try.underlying35, Try.t35, Try.type35, rfl, rfl, rfl, fun h => by cases h⟩
theorem tyOK_37 : TyOK Try.prog 37 tyE37 := ⟨Try.underlying37, Try.t37, Try.type37, rfl, rfl, rfl, fun h => by cases h⟩
theorem tyOK_39 : TyOK Try.prog 39 tyE39 := ⟨Try.underlying39, Try.t39, Try.type39, rfl, rfl, rfl, fun h => by cases h⟩
theorem tyOK_41 : TyOK Try.prog 41 tyE41 := ⟨Try.underlying41, Try.t41, Try.type41, rfl, rfl, rfl, fun h => by cases h⟩
theorem tyOK_43 : TyOK Try.prog 43 tyE43 := ⟨Try.underlying43, Try.t43, Try.type43, rfl, rfl, rfl, fun h => by cases h⟩
theorem tyOK_44 : TyOK Try.prog 44 tyE44 := ⟨Try.underlying44, Try.t44, Try.type44, rfl, rfl, rfl, fun h => by cases h⟩
theorem tyOK_46 : TyOK Try.prog 46 tyE46 := ⟨Try.underlying46, Try.t46, Try.type46, rfl, rfl, rfl, fun h => by cases h⟩
theorem tyOK_48 : TyOK Try.prog 48 tyE48 := ⟨Try.underlying48, Try.t48, Try.type48, rfl, rfl, rfl, fun h => by cases h⟩
theorem tyOK_49 : TyOK Try.prog 49 tyE49 := ⟨Try.underlying49, Try.t49, Try.type49, rfl, rfl, rfl, fun h => by cases h⟩
theorem tyOK_50 : TyOK Try.prog 50 tyE50 := ⟨Try.underlying50, Try.t50, Try.type50, rfl, rfl, rfl, fun h => by cases h⟩
theorem tyOK_51 : TyOK Try.prog 51 tyE51 := ⟨Try.underlying51, Try.t51, Try.type51, rfl, rfl, rfl, fun h => by cases h⟩
theorem tyOK_52 : TyOK Try.prog 52 tyE52 := ⟨Try.underlying52, Try.t52, Try.type52, rfl, rfl, rfl, fun h => by cases h⟩
theorem tyOK_53 : TyOK Try.prog 53 tyE53 := ⟨Try.underlying53, Try.t53, Try.type53, rfl, rfl, rfl, fun _ => ⟨by kernel_rfl, by kernel_rfl, by rintro _ ⟨⟩; rfl⟩⟩
theorem tyOK_54 : TyOK Try.prog 54 tyE54 := ⟨Try.underlying54, Try.t54, Try.type54, rfl, rfl, rfl, fun h => by cases h⟩
theorem tyOK_55 : TyOK Try.prog 55 tyE55 := ⟨Try.underlying55, Try.t55, Try.type55, rfl, rfl, rfl, fun h => by cases h⟩
theorem tyOK_56 : TyOK Try.prog 56 tyE56 := ⟨Try.underlying56, Try.t56, Try.type56, rfl, rfl, rfl, fun _ => ⟨by kernel_rfl, by kernel_rfl, by rintro _ ⟨⟩; rfl⟩⟩
theorem tyOK_57 : TyOK Try.prog 57 tyE57 := ⟨Try.underlying57, Try.t57, Try.type57, rfl, rfl, rfl, fun h => by cases h⟩
theorem tyOK_58 : TyOK Try.prog 58 tyE58 := ⟨Try.underlying58, Try.t58, Try.type58, rfl, rfl, rfl, fun h => by cases h⟩
theorem tyOK_59 : TyOK Try.prog 59 tyE59 := ⟨Try.underlying59, Try.t59, Try.type59, rfl, rfl, rfl, fun h => by cases h⟩
theorem tyOK_60 : TyOK Try.prog 60 tyE60 := ⟨Try.underlying60, Try.t60, Try.type60, rfl, rfl, rfl, fun _ => ⟨by kernel_rfl, by kernel_rfl, by rintro _ ⟨⟩; rfl⟩⟩
theorem tyOK_61 : TyOK Try.prog 61 tyE61 := ⟨Try.underlying61, Try.t61, Try.type61, rfl, rfl, rfl, fun h => by cases h⟩
theorem tyOK_62 : TyOK Try.prog 62 tyE62 := ⟨Try.underlying62, Try.t62, Try.type62, rfl, rfl, rfl, fun h => by cases h⟩
theorem tyOK_63 : TyOK Try.prog 63 tyE63 := ⟨Try.underlying63, Try.t63, Try.type63, rfl, rfl, rfl, fun _ => ⟨by kernel_rfl, by kernel_rfl, by rintro _ ⟨⟩; rfl⟩⟩
theorem tyOK_64 : TyOK Try.prog 64 tyE64 := ⟨Try.underlying64, Try.t64, Try.type64, rfl, rfl, rfl, fun h => by cases h⟩
theorem tyOK_65 : TyOK Try.prog 65 tyE65 := ⟨Try.underlying65, Try.t65, Try.type65, rfl, rfl, rfl, fun _ => ⟨by kernel_rfl, by kernel_rfl, by rintro _ ⟨⟩; rfl⟩⟩
theorem tyOK_66 : TyOK Try.prog 66 tyE66 := ⟨Try.underlying66, Try.t66, Try.type66, rfl, rfl, rfl, fun h => by cases h⟩
theorem tyOK_67 : TyOK Try.prog 67 tyE67 := ⟨Try.underlying67, Try.t67, Try.type67, rfl, rfl, rfl, fun _ => ⟨by kernel_rfl, by kernel_rfl, by rintro _ ⟨⟩; rfl⟩⟩
theorem tyOK_69 : TyOK Try.prog 69 tyE69 := ⟨Try.underlying69, Try.t69, Try.type69, rfl, rfl, rfl, fun h => by cases h⟩
theorem tyOK_70 : TyOK Try.prog 70 tyE70 := ⟨Try.underlying70, Try.t70, Try.type70, rfl, rfl, rfl, fun h => by cases h⟩
theorem tyOK_71 : TyOK Try.prog 71 tyE71 := ⟨Try.underlying71, Try.t71, Try.type71, rfl, rfl, rfl, fun h => by cases h⟩
theorem tyOK_72 : TyOK Try.prog 72 tyE72 := ⟨Try.underlying72, Try.t72, Try.type72, rfl, rfl, rfl, fun h => by cases h⟩
theorem tyOK_73 : TyOK Try.prog 73 tyE73 := ⟨Try.underlying73, Try.t73, Try.type73, rfl, rfl, rfl, fun h => by cases h⟩
theorem tyOK_74 : TyOK Try.prog 74 tyE74 := ⟨Try.underlying74, Try.t74, Try.type74, rfl, rfl, rfl, fun h => by cases h⟩
theorem tyOK_75 : TyOK Try.prog 75 tyE75 := ⟨Try.underlying75, Try.t75, Try.type75, rfl, rfl, rfl, fun h => by cases h⟩
theorem tyOK_76 : TyOK Try.prog 76 tyE76 := ⟨Try.underlying76, Try.t76, Try.type76, rfl, rfl, rfl, fun h => by cases h⟩
theorem tyOK_77 : TyOK Try.prog 77 tyE77 := ⟨Try.underlying77, Try.t77, Try.type77, rfl, rfl, rfl, fun _ => ⟨by kernel_rfl, by kernel_rfl, by rintro _ ⟨⟩; rfl⟩⟩
theorem tyOK_79 : TyOK Try.prog 79 tyE79 := ⟨Try.underlying79, Try.t79, Try.type79, rfl, rfl, rfl, fun h => by cases h⟩
theorem tyOK_81 : TyOK Try.prog 81 tyE81 := ⟨Try.underlying81, Try.t81, Try.type81, rfl, rfl, rfl, fun h => by cases h⟩
theorem tyOK_82 : TyOK Try.prog 82 tyE82 := ⟨Try.underlying82, Try.t82, Try.type82, rfl, rfl, rfl, fun h => by cases h⟩
theorem tyOK_84 : TyOK Try.prog 84 tyE84 := ⟨Try.underlying84, Try.t84, Try.type84, rfl, rfl, rfl, fun h => by cases h⟩
theorem tyOK_86 : TyOK Try.prog 86 tyE86 := ⟨Try.underlying86, Try.t86, Try.type86, rfl, rfl, rfl, fun h => by cases h⟩
theorem tyOK_87 : TyOK Try.prog 87 tyE87 := ⟨Try.underlying87, Try.t87, Try.type87, rfl, rfl, rfl, fun h => by cases h⟩
theorem tyOK_89 : TyOK Try.prog 89 tyE89 := ⟨Try.underlying89, Try.t89, Try.type89, rfl, rfl, rfl, fun h => by cases h⟩
theorem tyOK_90 : TyOK Try.prog 90 tyE90 := ⟨Try.underlying90, Try.t90, Try.type90, rfl, rfl, rfl, fun h => by cases h⟩
theorem tyOK_91 : TyOK Try.prog 91 tyE91 := ⟨Try.underlying91, Try.t91, Try.type91, rfl, rfl, rfl, fun h => by cases h⟩
theorem tyOK_93 : TyOK Try.prog 93 tyE93 := ⟨Try.underlying93, Try.t93, Try.type93, rfl, rfl, rfl, fun h => by cases h⟩
theorem tyOK_95 : TyOK Try.prog 95 tyE95 := ⟨Try.underlying95, Try.t95, Try.type95, rfl, rfl, rfl, fun h => by cases h⟩
theorem tyOK_97 : TyOK Try.prog 97 tyE97 := ⟨Try.underlying97, Try.t97, Try.type97, rfl, rfl, rfl, fun h => by cases h⟩
theorem tyOK_98 : TyOK Try.prog 98 tyE98 := ⟨Try.underlying98, Try.t98, Try.type98, rfl, rfl, rfl, fun h => by cases h⟩
theorem tyOK_100 : TyOK Try.prog 100 tyE100 := ⟨Try.underlying100, Try.t100, Try.type100, rfl, rfl, rfl, fun h => by cases h⟩
theorem tyOK_102 : TyOK Try.prog 102 tyE102 := ⟨Try.underlying102, Try.t102, Try.type102, rfl, rfl, rfl, fun h => by cases h⟩
theorem tyOK_103 : TyOK Try.prog 103 tyE103 := ⟨Try.underlying103, Try.t103, Try.type103, rfl, rfl, rfl, fun h => by cases h⟩
theorem tyOK_104 : TyOK Try.prog 104 tyE104 := ⟨Try.underlying104, Try.t104, Try.type104, rfl, rfl, rfl, fun _ => ⟨by kernel_rfl, by kernel_rfl, by rintro _ ⟨⟩; rfl⟩⟩
theorem tyOK_105 : TyOK Try.prog 105 tyE105 := ⟨Try.underlying105, Try.t105, Try.type105, rfl, rfl, rfl, fun h => by cases h⟩
theorem tyOK_107 : TyOK Try.prog 107 tyE107 := ⟨Try.underlying107, Try.t107, Try.type107, rfl, rfl, rfl, fun h => by cases h⟩
theorem tyOK_108 : TyOK Try.prog 108 tyE108 := ⟨Try.underlying108, Try.t108, Try.type108, rfl, rfl, rfl, fun h => by cases h⟩
theorem tyOK_110 : TyOK Try.prog 110 tyE110 := ⟨Try.underlying110, Try.t110, Try.type110, rfl, rfl, rfl, fun h => by cases h⟩
theorem tyOK_111 : TyOK Try.prog 111 tyE111 := ⟨Try.underlying111, Try.t111, Try.type111, rfl, rfl, rfl, fun h => by cases h⟩
theorem tyOK_113 : TyOK Try.prog 113 tyE113 := ⟨Try.underlying113, Try.t113, Try.type113, rfl, rfl, rfl, fun h => by cases h⟩
theorem tyOK_114 : TyOK Try.prog 114 tyE114 := ⟨Try.underlying114, Try.t114, Try.type114, rfl, rfl, rfl, fun h => by cases h⟩
theorem tyOK_115 : TyOK Try.prog 115 tyE115 := ⟨Try.underlying115, Try.t115, Try.type115, rfl, rfl, rfl, fun h => by cases h⟩
theorem tyOK_116 : TyOK Try.prog 116 tyE116 := ⟨Try.underlying116, Try.t116, Try.type116, rfl, rfl, rfl, fun h => by cases h⟩
theorem tyOK_117 : TyOK Try.prog 117 tyE117 := ⟨Try.underlying117, Try.t117, Try.type117, rfl, rfl, rfl, fun _ => ⟨by kernel_rfl, by kernel_rfl, by rintro _ ⟨⟩; rfl⟩⟩
theorem tyOK_118 : TyOK Try.prog 118 tyE118 := ⟨Try.underlying118, Try.t118, Try.type118, rfl, rfl, rfl, fun _ => ⟨by kernel_rfl, by kernel_rfl, by rintro _ ⟨⟩; rfl⟩⟩
theorem tyOK_119 : TyOK Try.prog 119 tyE119 := ⟨Try.underlying119, Try.t119, Try.type119, rfl, rfl, rfl, fun h => by cases h⟩
theorem tyOK_120 : TyOK Try.prog 120 tyE120 := ⟨Try.underlying120, Try.t120, Try.type120, rfl, rfl, rfl, fun h => by cases h⟩
theorem tyOK_121 : TyOK Try.prog 121 tyE121 := ⟨Try.underlying121, Try.t121, Try.type121, rfl, rfl, rfl, fun h => by cases h⟩
theorem tyOK_122 : TyOK Try.prog 122 tyE122 := ⟨Try.underlying122, Try.t122, Try.type122, rfl, rfl, rfl, fun _ => ⟨by kernel_rfl, by kernel_rfl, by rintro _ ⟨⟩; rfl⟩⟩
theorem tyOK_123 : TyOK Try.prog 123 tyE123 := ⟨Try.underlying123, Try.t123, Try.type123, rfl, rfl, rfl, fun h => by cases h⟩
theorem tyOK_124 : TyOK Try.prog 124 tyE124 := ⟨Try.underlying124, Try.t124, Try.type124, rfl, rfl, rfl, fun h => by cases h⟩
theorem tyOK_125 : TyOK Try.prog 125 tyE125 := ⟨Try.underlying125, Try.t125, Try.type125, rfl, rfl, rfl, fun h => by cases h⟩
theorem tyOK_126 : TyOK Try.prog 126 tyE126 := ⟨Try.underlying126, Try.t126, Try.type126, rfl, rfl, rfl, fun h => by cases h⟩
theorem tyOK_127 : TyOK Try.prog 127 tyE127 := ⟨Try.underlying127, Try.t127, Try.type127, rfl, rfl, rfl, fun h => by cases h⟩
theorem tyOK_129 : TyOK Try.prog 129 tyE129 := ⟨Try.underlying129, Try.t129, Try.type129, rfl, rfl, rfl, fun h => by cases h⟩
theorem tyOK_130 : TyOK Try.prog 130 tyE130 := ⟨Try.underlying130, Try.t130, Try.type130, rfl, rfl, rfl, fun h => by cases h⟩
theorem tyOK_131 : TyOK Try.prog 131 tyE131 := ⟨Try.underlying131, Try.t131, Try.type131, rfl, rfl, rfl, fun h => by cases h⟩
theorem tyOK_132 : TyOK Try.prog 132 tyE132 := ⟨Try.underlying132, Try.t132, Try.type132, rfl, rfl, rfl, fun h => by cases h⟩
theorem tyOK_133 : TyOK Try.prog 133 tyE133 := ⟨Try.underlying133, Try.t133, Try.type133, rfl, rfl, rfl, fun h => by cases h⟩
theorem tyOK_134 : TyOK Try.prog 134 tyE134 := ⟨Try.underlying134, Try.t134, Try.type134, rfl, rfl, rfl, fun h => by cases h⟩
theorem tyOK_135 : TyOK Try.prog 135 tyE135 := ⟨Try.underlying135, Try.t135, Try.type135, rfl, rfl, rfl, fun h => by cases h⟩
theorem tyOK_136 : TyOK Try.prog 136 tyE136 := ⟨Try.underlying136, Try.t136, Try.type136, rfl, rfl, rfl, fun h => by cases h⟩
theorem tyOK_137 : TyOK Try.prog 137 tyE137 := ⟨Try.underlying137, Try.t137, Try.type137, rfl, rfl, rfl, fun h => by cases h⟩
theorem tyOK_138 : TyOK Try.prog 138 tyE138 := ⟨Try.underlying138, Try.t138, Try.type138, rfl, rfl, rfl, fun h => by cases h⟩
theorem tyOK_139 : TyOK Try.prog 139 tyE139 := ⟨Try.underlying139, Try.t139, Try.type139, rfl, rfl, rfl, fun h => by cases h⟩
theorem tyOK_140 : TyOK Try.prog 140 tyE140 := ⟨Try.underlying140, Try.t140, Try.type140, rfl, rfl, rfl, fun h => by cases h⟩
theorem tyOK_141 : TyOK Try.prog 141 tyE141 := ⟨Try.underlying141, Try.t141, Try.type141, rfl, rfl, rfl, fun h => by cases h⟩
theorem tyOK_142 : TyOK Try.prog 142 tyE142 := ⟨Try.underlying142, Try.t142, Try.type142, rfl, rfl, rfl, fun h => by cases h⟩
theorem tyOK_143 : TyOK Try.prog 143 tyE143 := ⟨Try.underlying143, Try.t143, Try.type143, rfl, rfl, rfl, fun h => by cases h⟩
theorem tyOK_144 : TyOK Try.prog 144 tyE144 := ⟨Try.underlying144, Try.t144, Try.type144, rfl, rfl, rfl, fun h => by cases h⟩
theorem tyOK_145 : TyOK Try.prog 145 tyE145 := ⟨Try.underlying145, Try.t145, Try.type145, rfl, rfl, rfl, fun h => by cases h⟩
theorem tyOK_146 : TyOK Try.prog 146 tyE146 := ⟨Try.underlying146, Try.t146, Try.type146, rfl, rfl, rfl, fun h => by cases h⟩
theorem tyOK_147 : TyOK Try.prog 147 tyE147 := ⟨Try.underlying147, Try.t147, Try.type147, rfl, rfl, rfl, fun h => by cases h⟩
theorem tyOK_148 : TyOK Try.prog 148 tyE148 := ⟨Try.underlying148, Try.t148, Try.type148, rfl, rfl, rfl, fun h => by cases h⟩
theorem tyOK_149 : TyOK Try.prog 149 tyE149 := ⟨Try.underlying149, Try.t149, Try.type149, rfl, rfl, rfl, fun h => by cases h⟩
theorem tyOK_150 : TyOK Try.prog 150 tyE150 := ⟨Try.underlying150, Try.t150, Try.type150, rfl, rfl, rfl, fun h => by cases h⟩
theorem tyOK_151 : TyOK Try.prog 151 tyE151 := ⟨Try.underlying151, Try.t151, Try.type151, rfl, rfl, rfl, fun h => by cases h⟩
theorem tyOK_152 : TyOK Try.prog 152 tyE152 := ⟨Try.underlying152, Try.t152, Try.type152, rfl, rfl, rfl, fun h => by cases h⟩
theorem tyOK_153 : TyOK Try.prog 153 tyE153 := ⟨Try.underlying153, Try.t153, Try.type153, rfl, rfl, rfl, fun h => by cases h⟩
theorem tyOK_154 : TyOK Try.prog 154 tyE154 := ⟨Try.underlying154, Try.t154, Try.type154, rfl, rfl, rfl, fun h => by cases h⟩
theorem tyOK_155 : TyOK Try.prog 155 tyE155 := ⟨Try.underlying155, Try.t155, Try.type155, rfl, rfl, rfl, fun h => by cases h⟩
theorem tyOK_156 : TyOK Try.prog 156 tyE156 := ⟨Try.underlying156, Try.t156, Try.type156, rfl, rfl, rfl, fun h => by cases h⟩
theorem tyOK_157 : TyOK Try.prog 157 tyE157 := ⟨Try.underlying157, Try.t157, Try.type157, rfl, rfl, rfl, fun h => by cases h⟩
theorem tyOK_158 : TyOK Try.prog 158 tyE158 := ⟨Try.underlying158, Try.t158, Try.type158, rfl, rfl, rfl, fun h => by cases h⟩
theorem tyOK_159 : TyOK Try.prog 159 tyE159 := ⟨Try.underlying159, Try.t159, Try.type159, rfl, rfl, rfl, fun h => by cases h⟩
theorem tyOK_161 : TyOK Try.prog 161 tyE161 := ⟨Try.underlying161, Try.t161, Try.type161, rfl, rfl, rfl, fun h => by cases h⟩
theorem tyOK_162 : TyOK Try.prog 162 tyE162 := ⟨Try.underlying162, Try.t162, Try.type162, rfl, rfl, rfl, fun h => by cases h⟩
theorem tyOK_163 : TyOK Try.prog 163 tyE163 := ⟨Try.underlying163, Try.t163, Try.type163, rfl, rfl, rfl, fun h => by cases h⟩
theorem tyOK_164 : TyOK Try.prog 164 tyE164 := ⟨Try.underlying164, Try.t164, Try.type164, rfl, rfl, rfl, fun h => by cases h⟩
theorem tyOK_165 : TyOK Try.prog 165 tyE165 := ⟨Try.underlying165, Try.t165, Try.type165, rfl, rfl, rfl, fun h => by cases h⟩
theorem tyOK_166 : TyOK Try.prog 166 tyE166 := ⟨Try.underlying166, Try.t166, Try.type166, rfl, rfl, rfl, fun h => by cases h⟩
theorem tyOK_167 : TyOK Try.prog 167 tyE167 := ⟨Try.underlying167, Try.t167, Try.type167, rfl, rfl, rfl, fun h => by cases h⟩
theorem tyOK_168 : TyOK Try.prog 168 tyE168 := ⟨Try.underlying168, Try.t168, Try.type168, rfl, rfl, rfl, fun _ => ⟨by kernel_rfl, by kernel_rfl, by rintro _ ⟨⟩; rfl⟩⟩
theorem tyOK_169 : TyOK Try.prog 169 tyE169 := ⟨Try.underlying169, Try.t169, Try.type169, rfl, rfl, rfl, fun h => by cases h⟩
theorem tyOK_170 : TyOK Try.prog 170 tyE170 := ⟨Try.underlying170, Try.t170, Try.type170, rfl, rfl, rfl, fun h => by cases h⟩
theorem tyOK_171 : TyOK Try.prog 171 tyE171 := ⟨Try.underlying171, Try.t171, Try.type171, rfl, rfl, rfl, fun _ => ⟨by kernel_rfl, by kernel_rfl, by rintro _ ⟨⟩; rfl⟩⟩
theorem tyOK_172 : TyOK Try.prog 172 tyE172 := ⟨Try.underlying172, Try.t172, Try.type172, rfl, rfl, rfl, fun h => by cases h⟩
theorem tyOK_173 : TyOK Try.prog 173 tyE173 := ⟨Try.underlying173, Try.t173, Try.type173, rfl, rfl, rfl, fun h => by cases h⟩
theorem tyOK_175 : TyOK Try.prog 175 tyE175 := ⟨Try.underlying175, Try.t175, Try.type175, rfl, rfl, rfl, fun h => by cases h⟩
theorem tyOK_176 : TyOK Try.prog 176 tyE176 := ⟨Try.underlying176, Try.t176, Try.type176, rfl, rfl, rfl, fun h => by cases h⟩
theorem tyOK_177 : TyOK Try.prog 177 tyE177 := ⟨Try.underlying177, Try.t177, Try.type177, rfl, rfl, rfl, fun h => by cases h⟩
theorem tyOK_178 : TyOK Try.prog 178 tyE178 := ⟨Try.underlying178, Try.t178, Try.type178, rfl, rfl, rfl, fun h => by cases h⟩
theorem tyOK_180 : TyOK Try.prog 180 tyE180 := ⟨Try.underlying180, Try.t180, Try.type180, rfl, rfl, rfl, fun h => by cases h⟩
theorem tyOK_181 : TyOK Try.prog 181 tyE181 := ⟨Try.underlying181, Try.t181, Try.type181, rfl, rfl, rfl, fun h => by cases h⟩
theorem tyOK_182 : TyOK Try.prog 182 tyE182 := ⟨Try.underlying182, Try.t182, Try.type182, rfl, rfl, rfl, fun h => by cases h⟩
theorem tyOK_183 : TyOK Try.prog 183 tyE183 := ⟨Try.underlying183, Try.t183, Try.type183, rfl, rfl, rfl, fun h => by cases h⟩
theorem tyOK_184 : TyOK Try.prog 184 tyE184 := ⟨Try.underlying184, Try.t184, Try.type184, rfl, rfl, rfl, fun h => by cases h⟩
theorem tyOK_185 : TyOK Try.prog 185 tyE185 := ⟨Try.underlying185, Try.t185, Try.type185, rfl, rfl, rfl, fun h => by cases h⟩
theorem tyOK_186 : TyOK Try.prog 186 tyE186 := ⟨Try.underlying186, Try.t186, Try.type186, rfl, rfl, rfl, fun h => by cases h⟩
theorem tyOK_187 : TyOK Try.prog 187 tyE187 := ⟨Try.underlying187, Try.t187, Try.type187, rfl, rfl, rfl, fun h => by cases h⟩
theorem tyOK_188 : TyOK Try.prog 188 tyE188 := ⟨Try.underlying188, Try.t188, Try.type188, rfl, rfl, rfl, fun h => by cases h⟩
theorem tyOK_189 : TyOK Try.prog 189 tyE189 := ⟨Try.underlying189, Try.t189, Try.type189, rfl, rfl, rfl, fun h => by cases h⟩
theorem tyOK_190 : TyOK Try.prog 190 tyE190 := ⟨Try.underlying190, Try.t190, Try.type190, rfl, rfl, rfl, fun h => by cases h⟩
theorem tyOK_191 : TyOK Try.prog 191 tyE191 := ⟨Try.underlying191, Try.t191, Try.type191, rfl, rfl, rfl, fun h => by cases h⟩
theorem tyOK_192 : TyOK Try.prog 192 tyE192 := ⟨Try.underlying192, Try.t192, Try.type192, rfl, rfl, rfl, fun h => by cases h⟩
theorem tyOK_193 : TyOK Try.prog 193 tyE193 := ⟨Try.underlying193, Try.t193, Try.type193, rfl, rfl, rfl, fun h => by cases h⟩
theorem tyOK_194 : TyOK Try.prog 194 tyE194 := ⟨Try.underlying194, Try.t194, Try.type194, rfl, rfl, rfl, fun _ => ⟨by kernel_rfl, by kernel_rfl, by rintro _ ⟨⟩; rfl⟩⟩
theorem tyOK_195 : TyOK Try.prog 195 tyE195 := ⟨Try.underlying195, Try.t195, Try.type195, rfl, rfl, rfl, fun h => by cases h⟩
theorem tyOK_196 : TyOK Try.prog 196 tyE196 := ⟨Try.underlying196, Try.t196, Try.type196, rfl, rfl, rfl, fun h => by cases h⟩
theorem tyOK_197 : TyOK Try.prog 197 tyE197 := ⟨Try.underlying197, Try.t197, Try.type197, rfl, rfl, rfl, fun h => by cases h⟩
theorem tyOK_198 : TyOK Try.prog 198 tyE198 := ⟨Try.underlying198, Try.t198, Try.type198, rfl, rfl, rfl, fun h => by cases h⟩
theorem tyOK_199 : TyOK Try.prog 199 tyE199 := ⟨Try.underlying199, Try.t199, Try.type199, rfl, rfl, rfl, fun h => by cases h⟩
theorem tyOK_200 : TyOK Try.prog 200 tyE200 := ⟨Try.underlying200, Try.t200, Try.type200, rfl, rfl, rfl, fun h => by cases h⟩
theorem tyOK_201 : TyOK Try.prog 201 tyE201 := ⟨Try.underlying201, Try.t201, Try.type201, rfl, rfl, rfl, fun h => by cases h⟩
theorem tyOK_202 : TyOK Try.prog 202 tyE202 := ⟨Try.underlying202, Try.t202, Try.type202, rfl, rfl, rfl, fun h => by cases h⟩
theorem tyOK_203 : TyOK Try.prog 203 tyE203 := ⟨Try.underlying203, Try.t203, Try.type203, rfl, rfl, rfl, fun h => by cases h⟩
theorem tyOK_204 : TyOK Try.prog 204 tyE204 := ⟨Try.underlying204, Try.t204, Try.type204, rfl, rfl, rfl, fun h => by cases h⟩
theorem tyOK_205 : TyOK Try.prog 205 tyE205 := ⟨Try.underlying205, Try.t205, Try.type205, rfl, rfl, rfl, fun h => by cases h⟩
theorem tyOK_206 : TyOK Try.prog 206 tyE206 := ⟨Try.underlying206, Try.t206, Try.type206, rfl, rfl, rfl, fun h => by cases h⟩
theorem tyOK_207 : TyOK Try.prog 207 tyE207 := ⟨Try.underlying207, Try.t207, Try.type207, rfl, rfl, rfl, fun h => by cases h⟩
theorem tyOK_208 : TyOK Try.prog 208 tyE208 := ⟨Try.underlying208, Try.t208, Try.type208, rfl, rfl, rfl, fun h => by cases h⟩
theorem tyOK_209 : TyOK Try.prog 209 tyE209 := ⟨Try.underlying209, Try.t209, Try.type209, rfl, rfl, rfl, fun h => by cases h⟩
theorem tyOK_210 : TyOK Try.prog 210 tyE210 := ⟨Try.underlying210, Try.t210, Try.type210, rfl, rfl, rfl, fun _ => ⟨by kernel_rfl, by kernel_rfl, by rintro _ ⟨⟩; rfl⟩⟩
theorem tyOK_211 : TyOK Try.prog 211 tyE211 := ⟨Try.underlying211, Try.t211, Try.type211, rfl, rfl, rfl, fun h => by cases h⟩
theorem tyOK_212 : TyOK Try.prog 212 tyE212 := ⟨Try.underlying212, Try.t212, Try.type212, rfl, rfl, rfl, fun h => by cases h⟩
theorem tyOK_213 : TyOK Try.prog 213 tyE213 := ⟨Try.underlying213, Try.t213, Try.type213, rfl, rfl, rfl, fun h => by cases h⟩
theorem tyOK_214 : TyOK Try.prog 214 tyE214 := ⟨Try.underlying214, Try.t214, Try.type214, rfl, rfl, rfl, fun h => by cases h⟩
theorem tyOK_215 : TyOK Try.prog 215 tyE215 := ⟨Try.underlying215, Try.t215, Try.type215, rfl, rfl, rfl, fun h => by cases h⟩
theorem tyOK_216 : TyOK Try.prog 216 tyE216 := ⟨Try.underlying216, Try.t216, Try.type216, rfl, rfl, rfl, fun h => by cases h⟩
theorem tyOK_217 : TyOK Try.prog 217 tyE217 := ⟨Try.underlying217, Try.t217, Try.type217, rfl, rfl, rfl, fun h => by cases h⟩
theorem tyOK_218 : TyOK Try.prog 218 tyE218 := ⟨Try.underlying218, Try.t218, Try.type218, rfl, rfl, rfl, fun h => by cases h⟩
theorem tyOK_219 : TyOK Try.prog 219 tyE219 := ⟨Try.underlying219, Try.t219, Try.type219, rfl, rfl, rfl, fun _ => ⟨by kernel_rfl, by kernel_rfl, by rintro _ ⟨⟩; rfl⟩⟩
theorem tyOK_220 : TyOK Try.prog 220 tyE220 := ⟨Try.underlying220, Try.t220, Try.type220, rfl, rfl, rfl, fun _ => ⟨by kernel_rfl, by kernel_rfl, by rintro _ ⟨⟩; rfl⟩⟩
theorem tyOK_221 : TyOK Try.prog 221 tyE221 := ⟨Try.underlying221, Try.t221, Try.type221, rfl, rfl, rfl, fun _ => ⟨by kernel_rfl, by kernel_rfl, by rintro _ ⟨⟩; rfl⟩⟩
theorem tyOK_222 : TyOK Try.prog 222 tyE222 := ⟨Try.underlying222, Try.t222, Try.type222, rfl, rfl, rfl, fun _ => ⟨by kernel_rfl, by kernel_rfl, by rintro _ ⟨⟩; rfl⟩⟩
theorem tyOK_223 : TyOK Try.prog 223 tyE223 := ⟨Try.underlying223, Try.t223, Try.type223, rfl, rfl, rfl, fun h => by cases h⟩
theorem tyOK_224 : TyOK Try.prog 224 tyE224 := ⟨Try.underlying224, Try.t224, Try.type224, rfl, rfl, rfl, fun h => by cases h⟩
theorem tyOK_226 : TyOK Try.prog 226 tyE226 := ⟨Try.underlying226, Try.t226, Try.type226, rfl, rfl, rfl, fun h => by cases h⟩
theorem tyOK_227 : TyOK Try.prog 227 tyE227 := ⟨Try.underlying227, Try.t227, Try.type227, rfl, rfl, rfl, fun h => by cases h⟩
theorem tyOK_228 : TyOK Try.prog 228 tyE228 := ⟨Try.underlying228, Try.t228, Try.type228, rfl, rfl, rfl, fun _ => ⟨by kernel_rfl, by kernel_rfl, by rintro _ ⟨⟩; rfl⟩⟩
theorem tyOK_229 : TyOK Try.prog 229 tyE229 := ⟨Try.underlying229, Try.t229, Try.type229, rfl, rfl, rfl, fun _ => ⟨by kernel_rfl, by kernel_rfl, by rintro _ ⟨⟩; rfl⟩⟩
theorem tyOK_230 : TyOK Try.prog 230 tyE230 := ⟨Try.underlying230, Try.t230, Try.type230, rfl, rfl, rfl, fun h => by cases h⟩
theorem tyOK_231 : TyOK Try.prog 231 tyE231 := ⟨Try.underlying231, Try.t231, Try.type231, rfl, rfl, rfl, fun h => by cases h⟩
theorem tyOK_232 : TyOK Try.prog 232 tyE232 := ⟨Try.underlying232, Try.t232, Try.type232, rfl, rfl, rfl, fun h => by cases h⟩
theorem tyOK_233 : TyOK Try.prog 233 tyE233 := ⟨Try.underlying233, Try.t233, Try.type233, rfl, rfl, rfl, fun h => by cases h⟩
theorem tyOK_234 : TyOK Try.prog 234 tyE234 := ⟨Try.underlying234, Try.t234, Try.type234, rfl, rfl, rfl, fun h => by cases h⟩
theorem tyOK_235 : TyOK Try.prog 235 tyE235 := ⟨Try.underlying235, Try.t235, Try.type235, rfl, rfl, rfl, fun h => by cases h⟩
theorem tyOK_236 : TyOK Try.prog 236 tyE236 := ⟨Try.underlying236, Try.t236, Try.type236, rfl, rfl, rfl, fun h => by cases h⟩
theorem tyOK_237 : TyOK Try.prog 237 tyE237 := ⟨Try.underlying237, Try.t237, Try.type237, rfl, rfl, rfl, fun h => by cases h⟩
theorem tyOK_238 : TyOK Try.prog 238 tyE238 := ⟨Try.underlying238, Try.t238, Try.type238, rfl, rfl, rfl, fun h => by cases h⟩
theorem tyOK_239 : TyOK Try.prog 239 tyE239 := ⟨Try.underlying239, Try.t239, Try.type239, rfl, rfl, rfl, fun h => by cases h⟩
theorem tyOK_240 : TyOK Try.prog 240 tyE240 := ⟨Try.underlying240, Try.t240, Try.type240, rfl, rfl, rfl, fun h => by cases h⟩
theorem tyOK_241 : TyOK Try.prog 241 tyE241 := ⟨Try.underlying241, Try.t241, Try.type241, rfl, rfl, rfl, fun _ => ⟨by kernel_rfl, by kernel_rfl, by rintro _ ⟨⟩; rfl⟩⟩
theorem tyOK_242 : TyOK Try.prog 242 tyE242 := ⟨Try.underlying242, Try.t242, Try.type242, rfl, rfl, rfl, fun h => by cases h⟩
theorem tyOK_243 : TyOK Try.prog 243 tyE243 := ⟨Try.underlying243, Try.t243, Try.type243, rfl, rfl, rfl, fun h => by cases h⟩
theorem tyOK_244 : TyOK Try.prog 244 tyE244 := ⟨Try.underlying244, Try.t244, Try.type244, rfl, rfl, rfl, fun h => by cases h⟩
theorem tyOK_245 : TyOK Try.prog 245 tyE245 := ⟨Try.underlying245, Try.t245, Try.type245, rfl, rfl, rfl, fun h => by cases h⟩
theorem tyOK_246 : TyOK Try.prog 246 tyE246 := ⟨Try.underlying246, Try.t246, Try.type246, rfl, rfl, rfl, fun h => by cases h⟩
theorem tyOK_247 : TyOK Try.prog 247 tyE247 := ⟨Try.underlying247, Try.t247, Try.type247, rfl, rfl, rfl, fun h => by cases h⟩
theorem tyOK_248 : TyOK Try.prog 248 tyE248 := ⟨Try.underlying248, Try.t248, Try.type248, rfl, rfl, rfl, fun h => by cases h⟩
theorem tyOK_249 : TyOK Try.prog 249 tyE249 := ⟨Try.underlying249, Try.t249, Try.type249, rfl, rfl, rfl, fun h => by cases h⟩
theorem tyOK_250 : TyOK Try.prog 250 tyE250 := ⟨Try.underlying250, Try.t250, Try.type250, rfl, rfl, rfl, fun h => by cases h⟩
theorem tyOK_251 : TyOK Try.prog 251 tyE251 := ⟨Try.underlying251, Try.t251, Try.type251, rfl, rfl, rfl, fun h => by cases h⟩
theorem tyOK_252 : TyOK Try.prog 252 tyE252 := ⟨Try.underlying252, Try.t252, Try.type252, rfl, rfl, rfl, fun h => by cases h⟩
theorem tyOK_253 : TyOK Try.prog 253 tyE253 := ⟨Try.underlying253, Try.t253, Try.type253, rfl, rfl, rfl, fun h => by cases h⟩
theorem tyOK_254 : TyOK Try.prog 254 tyE254 := ⟨Try.underlying254, Try.t254, Try.type254, rfl, rfl, rfl, fun h => by cases h⟩
theorem tyOK_255 : TyOK Try.prog 255 tyE255 := ⟨Try.underlying255, Try.t255, Try.type255, rfl, rfl, rfl, fun h => by cases h⟩
theorem tyOK_256 : TyOK Try.prog 256 tyE256 := ⟨Try.underlying256, Try.t256, Try.type256, rfl, rfl, rfl, fun h => by cases h⟩
theorem tyOK_257 : TyOK Try.prog 257 tyE257 := ⟨Try.underlying257, Try.t257, Try.type257, rfl, rfl, rfl, fun _ => ⟨by kernel_rfl, by kernel_rfl, by rintro _ ⟨⟩⟩⟩
theorem tyOK_258 : TyOK Try.prog 258 tyE258 := ⟨Try.underlying258, Try.t258, Try.type258, rfl, rfl, rfl, fun h => by cases h⟩
theorem tyOK_259 : TyOK Try.prog 259 tyE259 := ⟨Try.underlying259, Try.t259, Try.type259, rfl, rfl, rfl, fun h => by cases h⟩
theorem tyOK_260 : TyOK Try.prog 260 tyE260 := ⟨Try.underlying260, Try.t260, Try.type260, rfl, rfl, rfl, fun h => by cases h⟩
theorem tyOK_261 : TyOK Try.prog 261 tyE261 := ⟨Try.underlying261, Try.t261, Try.type261, rfl, rfl, rfl, fun h => by cases h⟩
theorem tyOK_262 : TyOK Try.prog 262 tyE262 := ⟨Try.underlying262, Try.t262, Try.type262, rfl, rfl, rfl, fun h => by cases h⟩
theorem tyOK_263 : TyOK Try.prog 263 tyE263 := ⟨Try.underlying263, Try.t263, Try.type263, rfl, rfl, rfl, fun h => by cases h⟩
theorem tyOK_264 : TyOK Try.prog 264 tyE264 := ⟨Try.underlying264, Try.t264, Try.type264, rfl, rfl, rfl, fun h => by cases h⟩
theorem tyOK_265 : TyOK Try.prog 265 tyE265 := ⟨Try.underlying265, Try.t265, Try.type265, rfl, rfl, rfl, fun h => by cases h⟩
theorem tyOK_267 : TyOK Try.prog 267 tyE267 := ⟨Try.underlying267, Try.t267, Try.type267, rfl, rfl, rfl, fun h => by cases h⟩
theorem tyOK_268 : TyOK Try.prog 268 tyE268 := ⟨Try.underlying268, Try.t268, Try.type268, rfl, rfl, rfl, fun h => by cases h⟩
theorem tyOK_269 : TyOK Try.prog 269 tyE269 := ⟨Try.underlying269, Try.t269, Try.type269, rfl, rfl, rfl, fun h => by cases h⟩
theorem tyOK_270 : TyOK Try.prog 270 tyE270 := ⟨Try.underlying270, Try.t270, Try.type270, rfl, rfl, rfl, fun h => by cases h⟩
theorem tyOK_271 : TyOK Try.prog 271 tyE271 := ⟨Try.underlying271, Try.t271, Try.type271, rfl, rfl, rfl, fun h => by cases h⟩
theorem tyOK_272 : TyOK Try.prog 272 tyE272 := ⟨Try.underlying272, Try.t272, Try.type272, rfl, rfl, rfl, fun h => by cases h⟩
theorem tyOK_273 : TyOK Try.prog 273 tyE273 := ⟨Try.underlying273, Try.t273, Try.type273, rfl, rfl, rfl, fun h => by cases h⟩
theorem tyOK_274 : TyOK Try.prog 274 tyE274 := ⟨Try.underlying274, Try.t274, Try.type274, rfl, rfl, rfl, fun h => by cases h⟩
theorem tyOK_275 : TyOK Try.prog 275 tyE275 := ⟨Try.underlying275, Try.t275, Try.type275, rfl, rfl, rfl, fun h => by cases h⟩
theorem tyOK_276 : TyOK Try.prog 276 tyE276 := ⟨Try.underlying276, Try.t276, Try.type276, rfl, rfl, rfl, fun h => by cases h⟩
theorem tyOK_277 : TyOK Try.prog 277 tyE277 := ⟨Try.underlying277, Try.t277, Try.type277, rfl, rfl, rfl, fun h => by cases h⟩
theorem tyOK_278 : TyOK Try.prog 278 tyE278 := ⟨Try.underlying278, Try.t278, Try.type278, rfl, rfl, rfl, fun h => by cases h⟩
theorem tyOK_279 : TyOK Try.prog 279 tyE279 := ⟨Try.underlying279, Try.t279, Try.type279, rfl, rfl, rfl, fun h => by cases h⟩
theorem tyOK_280 : TyOK Try.prog 280 tyE280 := ⟨Try.underlying280, Try.t280, Try.type280, rfl, rfl, rfl, fun h => by cases h⟩
theorem tyOK_281 : TyOK Try.prog 281 tyE281 := ⟨Try.underlying281, Try.t281, Try.type281, rfl, rfl, rfl, fun h => by cases h⟩
theorem tyOK_282 : TyOK Try.prog 282 tyE282 := ⟨Try.underlying282, Try.t282, Try.type282, rfl, rfl, rfl, fun h => by cases h⟩
theorem tyOK_283 : TyOK Try.prog 283 tyE283 := ⟨Try.underlying283, Try.t283, Try.type283, rfl, rfl, rfl, fun h => by cases h⟩
theorem tyOK_286 : TyOK Try.prog 286 tyE286 := ⟨Try.underlying286, Try.t286, Try.type286, rfl, rfl, rfl, fun h => by cases h⟩
theorem tyOK_290 : TyOK Try.prog 290 tyE290 := ⟨Try.underlying290, Try.t290, Try.type290, rfl, rfl, rfl, fun h => by cases h⟩
theorem tyOK_291 : TyOK Try.prog 291 tyE291 := ⟨Try.underlying291, Try.t291, Try.type291, rfl, rfl, rfl, fun h => by cases h⟩
theorem tyOK_294 : TyOK Try.prog 294 tyE294 := ⟨Try.underlying294, Try.t294, Try.type294, rfl, rfl, rfl, fun h => by cases h⟩
theorem tyOK_296 : TyOK Try.prog 296 tyE296 := ⟨Try.underlying296, Try.t296, Try.type296, rfl, rfl, rfl, fun h => by cases h⟩
theorem ty_ok : ∀ t x, ty t = some x → TyOK Try.prog t x := lookT_ok (allT_cons tyOK_1 (allT_cons tyOK_2 (allT_cons tyOK_3 (allT_cons tyOK_4 (allT_cons tyOK_5 (allT_cons tyOK_7 (allT_cons tyOK_9 (allT_cons tyOK_12 (allT_cons tyOK_13 (allT_cons tyOK_15 (allT_cons tyOK_16 (allT_cons tyOK_17 (allT_cons tyOK_18 (allT_cons tyOK_21 (allT_cons tyOK_22 (allT_cons tyOK_23 (allT_cons tyOK_24 (allT_cons tyOK_25 (allT_cons tyOK_26 (allT_cons tyOK_27 (allT_cons tyOK_28 (allT_cons tyOK_30 (allT_cons tyOK_32 (allT_cons tyOK_33 (allT_cons tyOK_35 (allT_cons tyOK_37 (allT_cons tyOK_39 (allT_cons tyOK_41 (allT_cons tyOK_43 (allT_cons tyOK_44 (allT_cons tyOK_46 (allT_cons tyOK_48 (allT_cons tyOK_49 (allT_cons tyOK_50 (allT_cons tyOK_51 (allT_cons tyOK_52 (allT_cons tyOK_53 (allT_cons tyOK_54 (allT_cons tyOK_55 (allT_cons tyOK_56 (allT_cons tyOK_57 (allT_cons tyOK_58 (allT_cons tyOK_59 (allT_cons tyOK_60 (allT_cons tyOK_61 (allT_cons tyOK_62 (allT_cons tyOK_63 (allT_cons tyOK_64 (allT_cons tyOK_65 (allT_cons tyOK_66 (allT_cons tyOK_67 (allT_cons tyOK_69 (allT_cons tyOK_70 (allT_cons tyOK_71 (allT_cons tyOK_72 (allT_cons tyOK_73 (allT_cons tyOK_74 (allT_cons tyOK_75 (allT_cons tyOK_76 (allT_cons tyOK_77 (allT_cons tyOK_79 (allT_cons tyOK_81 (allT_cons tyOK_82 (allT_cons tyOK_84 (allT_cons tyOK_86 (allT_cons tyOK_87 (allT_cons tyOK_89 (allT_cons tyOK_90 (allT_cons tyOK_91 (allT_cons tyOK_93 (allT_cons tyOK_95 (allT_cons tyOK_97 (allT_cons tyOK_98 (allT_cons tyOK_100 (allT_cons tyOK_102 (allT_cons tyOK_103 (allT_cons tyOK_104 (allT_cons tyOK_105 (allT_cons tyOK_107 (allT_cons tyOK_108 (allT_cons tyOK_110 (allT_cons tyOK_111 (allT_cons tyOK_113 (allT_cons tyOK_114 (allT_cons tyOK_115 (allT_cons tyOK_116 (allT_cons tyOK_117 (allT_cons tyOK_118 (allT_cons tyOK_119 (allT_cons tyOK_120 (allT_cons tyOK_121 (allT_cons tyOK_122 (allT_cons tyOK_123 (allT_cons tyOK_124 (allT_cons tyOK_125 (allT_cons tyOK_126 (allT_cons tyOK_127 (allT_cons tyOK_129 (allT_cons tyOK_130 (allT_cons tyOK_131 (allT_cons tyOK_132 (allT_cons tyOK_133 (allT_cons tyOK_134 (allT_cons tyOK_135 (allT_cons tyOK_136 (allT_cons tyOK_137 (allT_cons tyOK_138 (allT_cons tyOK_139 (allT_cons tyOK_140 (allT_cons tyOK_141 (allT_cons tyOK_142 (allT_cons tyOK_143 (allT_cons tyOK_144 (allT_cons tyOK_145 (allT_cons tyOK_146 (allT_cons tyOK_147 (allT_cons tyOK_148 (allT_cons tyOK_149 (allT_cons tyOK_150 (allT_cons tyOK_151 (allT_cons tyOK_152 (allT_cons tyOK_153 (allT_cons tyOK_154 (allT_cons tyOK_155 (allT_cons tyOK_156 (allT_cons tyOK_157 (allT_cons tyOK_158 (allT_cons tyOK_159 (allT_cons tyOK_161 (allT_cons tyOK_162 (allT_cons tyOK_163 (allT_cons tyOK_164 (allT_cons tyOK_165 (allT_cons tyOK_166 (allT_cons tyOK_167 (allT_cons tyOK_168 (allT_cons tyOK_169 (allT_cons tyOK_170 (allT_cons tyOK_171 (allT_cons tyOK_172 (allT_cons tyOK_173 (allT_cons tyOK_175 (allT_cons tyOK_176 (allT_cons tyOK_177 (allT_cons tyOK_178 (allT_cons tyOK_180 (allT_cons tyOK_181 (allT_cons tyOK_182 (allT_cons tyOK_183 (allT_cons tyOK_184 (allT_cons tyOK_185 (allT_cons tyOK_186 (allT_cons tyOK_187 (allT_cons tyOK_188 (allT_cons tyOK_189 (allT_cons tyOK_190 (allT_cons tyOK_191 (allT_cons tyOK_192 (allT_cons tyOK_193 (allT_cons tyOK_194 (allT_cons tyOK_195 (allT_cons tyOK_196 (allT_cons tyOK_197 (allT_cons tyOK_198 (allT_cons tyOK_199 (allT_cons tyOK_200 (allT_cons tyOK_201 (allT_cons tyOK_202 (allT_cons tyOK_203 (allT_cons tyOK_204 (allT_cons tyOK_205 (allT_cons tyOK_206 (allT_cons tyOK_207 (allT_cons tyOK_208 (allT_cons tyOK_209 (allT_cons tyOK_210 (allT_cons tyOK_211 (allT_cons tyOK_212 (allT_cons tyOK_213 (allT_cons tyOK_214 (allT_cons tyOK_215 (allT_cons tyOK_216 (allT_cons tyOK_217 (allT_cons tyOK_218 (allT_cons tyOK_219 (allT_cons tyOK_220 (allT_cons tyOK_221 (allT_cons tyOK_222 (allT_cons tyOK_223 (allT_cons tyOK_224 (allT_cons tyOK_226 (allT_cons tyOK_227 (allT_cons tyOK_228 (allT_cons tyOK_229 (allT_cons tyOK_230 (allT_cons tyOK_231 (allT_cons tyOK_232 (allT_cons tyOK_233 (allT_cons tyOK_234 (allT_cons tyOK_235 (allT_cons tyOK_236 (allT_cons tyOK_237 (allT_cons tyOK_238 (allT_cons tyOK_239 (allT_cons tyOK_240 (allT_cons tyOK_241 (allT_cons tyOK_242 (allT_cons tyOK_243 (allT_cons tyOK_244 (allT_cons tyOK_245 (allT_cons tyOK_246 (allT_cons tyOK_247 (allT_cons tyOK_248 (allT_cons tyOK_249 (allT_cons tyOK_250 (allT_cons tyOK_251 (allT_cons tyOK_252 (allT_cons tyOK_253 (allT_cons tyOK_254 (allT_cons tyOK_255 (allT_cons tyOK_256 (allT_cons tyOK_257 (allT_cons tyOK_258 (allT_cons tyOK_259 (allT_cons tyOK_260 (allT_cons tyOK_261 (allT_cons tyOK_262 (allT_cons tyOK_263 (allT_cons tyOK_264 (allT_cons tyOK_265 (allT_cons tyOK_267 (allT_cons tyOK_268 (allT_cons tyOK_269 (allT_cons tyOK_270 (allT_cons tyOK_271 (allT_cons tyOK_272 (allT_cons tyOK_273 (allT_cons tyOK_274 (allT_cons tyOK_275 (allT_cons tyOK_276 (allT_cons tyOK_277 (allT_cons tyOK_278 (allT_cons tyOK_279 (allT_cons tyOK_280 (allT_cons tyOK_281 (allT_cons tyOK_282 (allT_cons tyOK_283 (allT_cons tyOK_286 (allT_cons tyOK_290 (allT_cons tyOK_291 (allT_cons tyOK_294 (allT_cons tyOK_296 allT_nil))))))))))))))))))))))))))))))))))))))))))))))))))))))))))))))))))))))))))))))))))))))))))))))))))))))))))))))))))))))))))))))))))))))))))))))))))))))))))))))))))))))))))))))))))))))))))))))))))))))))))))))))))))))))))))))))))))))))))))))))))))))))))))
end Go.Proofs.Ytjahononbnbjnaa
