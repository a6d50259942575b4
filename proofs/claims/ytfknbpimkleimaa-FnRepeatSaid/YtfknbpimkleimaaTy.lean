/- The types of the seat as a table. Made by program (genty.py). -/
import Derived.Test.YtfknbpimkleimaaProg
import Derived.Test.YtfknbpimkleimaaAbSpec
import Derived.KernelRfl
namespace Go.Proofs.Ytfknbpimkleimaa
open Go Go.Ab
set_option maxRecDepth 100000

abbrev tyE2 : TyE := ⟨.int .i64, 1, 8, .int .i64 0, false⟩
abbrev tyE3 : TyE := ⟨.int .i64, 1, 8, .int .i64 0, false⟩
abbrev tyE4 : TyE := ⟨.bool, 1, 1, .bool false, false⟩
abbrev tyE5 : TyE := ⟨.int .u8, 1, 1, .int .u8 0, false⟩
abbrev tyE7 : TyE := ⟨.struct #[{ name := "x", type := 2, offset := 0, embedded := false, tag := "", pkgPath := "runtime", byteOffset := 0 }, { name := "y", type := 3, offset := 1, embedded := false, tag := "", pkgPath := "runtime", byteOffset := 8 }, { name := "signed", type := 4, offset := 2, embedded := false, tag := "", pkgPath := "runtime", byteOffset := 16 }, { name := "code", type := 6, offset := 3, embedded := false, tag := "", pkgPath := "runtime", byteOffset := 17 }], 4, 24, .agg #[.int .i64 0, .int .i64 0, .bool false, .int .u8 0], false⟩
abbrev tyE9 : TyE := ⟨.string, 1, 16, .string ByteArray.empty, false⟩
abbrev tyE12 : TyE := ⟨.int .u64, 1, 8, .int .u64 0, false⟩
abbrev tyE13 : TyE := ⟨.struct #[{ name := "msg", type := 9, offset := 0, embedded := false, tag := "", pkgPath := "runtime", byteOffset := 0 }, { name := "addr", type := 12, offset := 1, embedded := false, tag := "", pkgPath := "runtime", byteOffset := 16 }], 2, 24, .agg #[.string ByteArray.empty, .int .u64 0], false⟩
abbrev tyE15 : TyE := ⟨.pointer 365, 1, 8, .pointer none, false⟩
abbrev tyE16 : TyE := ⟨.pointer 368, 1, 8, .pointer none, false⟩
abbrev tyE17 : TyE := ⟨.pointer 377, 1, 8, .pointer none, false⟩
abbrev tyE18 : TyE := ⟨.struct #[{ name := "typ", type := 17, offset := 0, embedded := false, tag := "", pkgPath := "internal/runtime/maps", byteOffset := 0 }], 1, 8, .agg #[.pointer none], false⟩
abbrev tyE21 : TyE := ⟨.int .i32, 1, 4, .int .i32 0, false⟩
abbrev tyE22 : TyE := ⟨.slice 5, 1, 24, .slice none 0 0, false⟩
abbrev tyE24 : TyE := ⟨.slice 9, 1, 24, .slice none 0 0, false⟩
abbrev tyE25 : TyE := ⟨.slice 236, 1, 24, .slice none 0 0, false⟩
abbrev tyE26 : TyE := ⟨.struct #[{ name := "Stops", type := 24, offset := 0, embedded := false, tag := "", pkgPath := "", byteOffset := 0 }, { name := "Lines", type := 25, offset := 1, embedded := false, tag := "", pkgPath := "", byteOffset := 24 }], 2, 48, .agg #[.slice none 0 0, .slice none 0 0], false⟩
abbrev tyE27 : TyE := ⟨.struct #[{ name := "Stops", type := 24, offset := 0, embedded := false, tag := "", pkgPath := "", byteOffset := 0 }, { name := "Lines", type := 25, offset := 1, embedded := false, tag := "", pkgPath := "", byteOffset := 24 }], 2, 48, .agg #[.slice none 0 0, .slice none 0 0], true⟩
abbrev tyE28 : TyE := ⟨.slice 39, 1, 24, .slice none 0 0, false⟩
abbrev tyE31 : TyE := ⟨.slice 3, 1, 24, .slice none 0 0, false⟩
abbrev tyE38 : TyE := ⟨.struct #[{ name := "A", type := 3, offset := 0, embedded := false, tag := "", pkgPath := "", byteOffset := 0 }, { name := "B", type := 3, offset := 1, embedded := false, tag := "", pkgPath := "", byteOffset := 8 }, { name := "Minutes", type := 3, offset := 2, embedded := false, tag := "", pkgPath := "", byteOffset := 16 }], 3, 24, .agg #[.int .i64 0, .int .i64 0, .int .i64 0], false⟩
abbrev tyE39 : TyE := ⟨.struct #[{ name := "A", type := 3, offset := 0, embedded := false, tag := "", pkgPath := "", byteOffset := 0 }, { name := "B", type := 3, offset := 1, embedded := false, tag := "", pkgPath := "", byteOffset := 8 }, { name := "Minutes", type := 3, offset := 2, embedded := false, tag := "", pkgPath := "", byteOffset := 16 }], 3, 24, .agg #[.int .i64 0, .int .i64 0, .int .i64 0], true⟩
abbrev tyE44 : TyE := ⟨.slice 31, 1, 24, .slice none 0 0, false⟩
abbrev tyE45 : TyE := ⟨.struct #[{ name := "Sizes", type := 31, offset := 0, embedded := false, tag := "", pkgPath := "", byteOffset := 0 }, { name := "Tracks", type := 44, offset := 1, embedded := false, tag := "", pkgPath := "", byteOffset := 24 }], 2, 48, .agg #[.slice none 0 0, .slice none 0 0], false⟩
abbrev tyE46 : TyE := ⟨.struct #[{ name := "Sizes", type := 31, offset := 0, embedded := false, tag := "", pkgPath := "", byteOffset := 0 }, { name := "Tracks", type := 44, offset := 1, embedded := false, tag := "", pkgPath := "", byteOffset := 24 }], 2, 48, .agg #[.slice none 0 0, .slice none 0 0], true⟩
abbrev tyE47 : TyE := ⟨.slice 173, 1, 24, .slice none 0 0, false⟩
abbrev tyE67 : TyE := ⟨.slice 81, 1, 24, .slice none 0 0, false⟩
abbrev tyE68 : TyE := ⟨.struct #[{ name := "Network", type := 27, offset := 0, embedded := false, tag := "", pkgPath := "", byteOffset := 0 }, { name := "Trips", type := 67, offset := 2, embedded := false, tag := "", pkgPath := "", byteOffset := 48 }], 3, 72, .agg #[.slice none 0 0, .slice none 0 0, .slice none 0 0], false⟩
abbrev tyE69 : TyE := ⟨.struct #[{ name := "Network", type := 27, offset := 0, embedded := false, tag := "", pkgPath := "", byteOffset := 0 }, { name := "Trips", type := 67, offset := 2, embedded := false, tag := "", pkgPath := "", byteOffset := 48 }], 3, 72, .agg #[.slice none 0 0, .slice none 0 0, .slice none 0 0], true⟩
abbrev tyE72 : TyE := ⟨.slice 75, 1, 24, .slice none 0 0, false⟩
abbrev tyE75 : TyE := ⟨.slice 78, 1, 24, .slice none 0 0, false⟩
abbrev tyE77 : TyE := ⟨.struct #[{ name := "Trip", type := 3, offset := 0, embedded := false, tag := "", pkgPath := "", byteOffset := 0 }, { name := "From", type := 3, offset := 1, embedded := false, tag := "", pkgPath := "", byteOffset := 8 }, { name := "To", type := 3, offset := 2, embedded := false, tag := "", pkgPath := "", byteOffset := 16 }, { name := "Depart", type := 3, offset := 3, embedded := false, tag := "", pkgPath := "", byteOffset := 24 }, { name := "Arrive", type := 3, offset := 4, embedded := false, tag := "", pkgPath := "", byteOffset := 32 }], 5, 40, .agg #[.int .i64 0, .int .i64 0, .int .i64 0, .int .i64 0, .int .i64 0], false⟩
abbrev tyE78 : TyE := ⟨.struct #[{ name := "Trip", type := 3, offset := 0, embedded := false, tag := "", pkgPath := "", byteOffset := 0 }, { name := "From", type := 3, offset := 1, embedded := false, tag := "", pkgPath := "", byteOffset := 8 }, { name := "To", type := 3, offset := 2, embedded := false, tag := "", pkgPath := "", byteOffset := 16 }, { name := "Depart", type := 3, offset := 3, embedded := false, tag := "", pkgPath := "", byteOffset := 24 }, { name := "Arrive", type := 3, offset := 4, embedded := false, tag := "", pkgPath := "", byteOffset := 32 }], 5, 40, .agg #[.int .i64 0, .int .i64 0, .int .i64 0, .int .i64 0, .int .i64 0], true⟩
abbrev tyE80 : TyE := ⟨.struct #[{ name := "Id", type := 3, offset := 0, embedded := false, tag := "", pkgPath := "", byteOffset := 0 }, { name := "Line", type := 3, offset := 1, embedded := false, tag := "", pkgPath := "", byteOffset := 8 }, { name := "Start", type := 3, offset := 2, embedded := false, tag := "", pkgPath := "", byteOffset := 16 }], 3, 24, .agg #[.int .i64 0, .int .i64 0, .int .i64 0], false⟩
abbrev tyE81 : TyE := ⟨.struct #[{ name := "Id", type := 3, offset := 0, embedded := false, tag := "", pkgPath := "", byteOffset := 0 }, { name := "Line", type := 3, offset := 1, embedded := false, tag := "", pkgPath := "", byteOffset := 8 }, { name := "Start", type := 3, offset := 2, embedded := false, tag := "", pkgPath := "", byteOffset := 16 }], 3, 24, .agg #[.int .i64 0, .int .i64 0, .int .i64 0], true⟩
abbrev tyE93 : TyE := ⟨.struct #[{ name := "Zones", type := 31, offset := 0, embedded := false, tag := "", pkgPath := "", byteOffset := 0 }, { name := "Day", type := 3, offset := 1, embedded := false, tag := "", pkgPath := "", byteOffset := 24 }, { name := "Week", type := 3, offset := 2, embedded := false, tag := "", pkgPath := "", byteOffset := 32 }], 3, 40, .agg #[.slice none 0 0, .int .i64 0, .int .i64 0], false⟩
abbrev tyE94 : TyE := ⟨.struct #[{ name := "Zones", type := 31, offset := 0, embedded := false, tag := "", pkgPath := "", byteOffset := 0 }, { name := "Day", type := 3, offset := 1, embedded := false, tag := "", pkgPath := "", byteOffset := 24 }, { name := "Week", type := 3, offset := 2, embedded := false, tag := "", pkgPath := "", byteOffset := 32 }], 3, 40, .agg #[.slice none 0 0, .int .i64 0, .int .i64 0], true⟩
abbrev tyE109 : TyE := ⟨.slice 225, 1, 24, .slice none 0 0, false⟩
abbrev tyE121 : TyE := ⟨.slice 307, 1, 24, .slice none 0 0, false⟩
abbrev tyE125 : TyE := ⟨.struct #[{ name := "Dead", type := 44, offset := 0, embedded := false, tag := "", pkgPath := "", byteOffset := 0 }, { name := "Turn", type := 3, offset := 1, embedded := false, tag := "", pkgPath := "", byteOffset := 24 }], 2, 32, .agg #[.slice none 0 0, .int .i64 0], false⟩
abbrev tyE126 : TyE := ⟨.struct #[{ name := "Dead", type := 44, offset := 0, embedded := false, tag := "", pkgPath := "", byteOffset := 0 }, { name := "Turn", type := 3, offset := 1, embedded := false, tag := "", pkgPath := "", byteOffset := 24 }], 2, 32, .agg #[.slice none 0 0, .int .i64 0], true⟩
abbrev tyE135 : TyE := ⟨.slice 249, 1, 24, .slice none 0 0, false⟩
abbrev tyE144 : TyE := ⟨.slice 152, 1, 24, .slice none 0 0, false⟩
abbrev tyE151 : TyE := ⟨.struct #[{ name := "From", type := 3, offset := 0, embedded := false, tag := "", pkgPath := "", byteOffset := 0 }, { name := "To", type := 3, offset := 1, embedded := false, tag := "", pkgPath := "", byteOffset := 8 }, { name := "Time", type := 3, offset := 2, embedded := false, tag := "", pkgPath := "", byteOffset := 16 }, { name := "Persons", type := 3, offset := 3, embedded := false, tag := "", pkgPath := "", byteOffset := 24 }], 4, 32, .agg #[.int .i64 0, .int .i64 0, .int .i64 0, .int .i64 0], false⟩
abbrev tyE152 : TyE := ⟨.struct #[{ name := "From", type := 3, offset := 0, embedded := false, tag := "", pkgPath := "", byteOffset := 0 }, { name := "To", type := 3, offset := 1, embedded := false, tag := "", pkgPath := "", byteOffset := 8 }, { name := "Time", type := 3, offset := 2, embedded := false, tag := "", pkgPath := "", byteOffset := 16 }, { name := "Persons", type := 3, offset := 3, embedded := false, tag := "", pkgPath := "", byteOffset := 24 }], 4, 32, .agg #[.int .i64 0, .int .i64 0, .int .i64 0, .int .i64 0], true⟩
abbrev tyE156 : TyE := ⟨.pointer 159, 1, 8, .pointer none, false⟩
abbrev tyE157 : TyE := ⟨.int .u64, 1, 8, .int .u64 0, false⟩
abbrev tyE158 : TyE := ⟨.struct #[{ name := "code", type := 22, offset := 0, embedded := false, tag := "", pkgPath := "loop.example/g00900/spec", byteOffset := 0 }, { name := "at", type := 3, offset := 1, embedded := false, tag := "", pkgPath := "loop.example/g00900/spec", byteOffset := 24 }, { name := "seed", type := 157, offset := 2, embedded := false, tag := "", pkgPath := "loop.example/g00900/spec", byteOffset := 32 }], 3, 40, .agg #[.slice none 0 0, .int .i64 0, .int .u64 0], true⟩
abbrev tyE159 : TyE := ⟨.struct #[{ name := "code", type := 22, offset := 0, embedded := false, tag := "", pkgPath := "loop.example/g00900/spec", byteOffset := 0 }, { name := "at", type := 3, offset := 1, embedded := false, tag := "", pkgPath := "loop.example/g00900/spec", byteOffset := 24 }, { name := "seed", type := 157, offset := 2, embedded := false, tag := "", pkgPath := "loop.example/g00900/spec", byteOffset := 32 }], 3, 40, .agg #[.slice none 0 0, .int .i64 0, .int .u64 0], true⟩
abbrev tyE172 : TyE := ⟨.struct #[{ name := "Vehicle", type := 3, offset := 0, embedded := false, tag := "", pkgPath := "", byteOffset := 0 }, { name := "Out", type := 4, offset := 1, embedded := false, tag := "", pkgPath := "", byteOffset := 8 }], 2, 16, .agg #[.int .i64 0, .bool false], false⟩
abbrev tyE173 : TyE := ⟨.struct #[{ name := "Vehicle", type := 3, offset := 0, embedded := false, tag := "", pkgPath := "", byteOffset := 0 }, { name := "Out", type := 4, offset := 1, embedded := false, tag := "", pkgPath := "", byteOffset := 8 }], 2, 16, .agg #[.int .i64 0, .bool false], true⟩
abbrev tyE224 : TyE := ⟨.struct #[{ name := "Kind", type := 3, offset := 0, embedded := false, tag := "", pkgPath := "", byteOffset := 0 }, { name := "Line", type := 9, offset := 1, embedded := false, tag := "", pkgPath := "", byteOffset := 8 }, { name := "Stop", type := 9, offset := 2, embedded := false, tag := "", pkgPath := "", byteOffset := 24 }, { name := "From", type := 3, offset := 3, embedded := false, tag := "", pkgPath := "", byteOffset := 40 }, { name := "To", type := 3, offset := 4, embedded := false, tag := "", pkgPath := "", byteOffset := 48 }, { name := "Minutes", type := 3, offset := 5, embedded := false, tag := "", pkgPath := "", byteOffset := 56 }], 6, 64, .agg #[.int .i64 0, .string ByteArray.empty, .string ByteArray.empty, .int .i64 0, .int .i64 0, .int .i64 0], false⟩
abbrev tyE225 : TyE := ⟨.struct #[{ name := "Kind", type := 3, offset := 0, embedded := false, tag := "", pkgPath := "", byteOffset := 0 }, { name := "Line", type := 9, offset := 1, embedded := false, tag := "", pkgPath := "", byteOffset := 8 }, { name := "Stop", type := 9, offset := 2, embedded := false, tag := "", pkgPath := "", byteOffset := 24 }, { name := "From", type := 3, offset := 3, embedded := false, tag := "", pkgPath := "", byteOffset := 40 }, { name := "To", type := 3, offset := 4, embedded := false, tag := "", pkgPath := "", byteOffset := 48 }, { name := "Minutes", type := 3, offset := 5, embedded := false, tag := "", pkgPath := "", byteOffset := 56 }], 6, 64, .agg #[.int .i64 0, .string ByteArray.empty, .string ByteArray.empty, .int .i64 0, .int .i64 0, .int .i64 0], true⟩
abbrev tyE235 : TyE := ⟨.struct #[{ name := "Name", type := 9, offset := 0, embedded := false, tag := "", pkgPath := "", byteOffset := 0 }, { name := "Stops", type := 31, offset := 1, embedded := false, tag := "", pkgPath := "", byteOffset := 16 }, { name := "Runs", type := 31, offset := 2, embedded := false, tag := "", pkgPath := "", byteOffset := 40 }], 3, 64, .agg #[.string ByteArray.empty, .slice none 0 0, .slice none 0 0], false⟩
abbrev tyE236 : TyE := ⟨.struct #[{ name := "Name", type := 9, offset := 0, embedded := false, tag := "", pkgPath := "", byteOffset := 0 }, { name := "Stops", type := 31, offset := 1, embedded := false, tag := "", pkgPath := "", byteOffset := 16 }, { name := "Runs", type := 31, offset := 2, embedded := false, tag := "", pkgPath := "", byteOffset := 40 }], 3, 64, .agg #[.string ByteArray.empty, .slice none 0 0, .slice none 0 0], true⟩
abbrev tyE248 : TyE := ⟨.struct #[{ name := "From", type := 3, offset := 0, embedded := false, tag := "", pkgPath := "", byteOffset := 0 }, { name := "To", type := 3, offset := 1, embedded := false, tag := "", pkgPath := "", byteOffset := 8 }], 2, 16, .agg #[.int .i64 0, .int .i64 0], false⟩
abbrev tyE249 : TyE := ⟨.struct #[{ name := "From", type := 3, offset := 0, embedded := false, tag := "", pkgPath := "", byteOffset := 0 }, { name := "To", type := 3, offset := 1, embedded := false, tag := "", pkgPath := "", byteOffset := 8 }], 2, 16, .agg #[.int .i64 0, .int .i64 0], true⟩
abbrev tyE255 : TyE := ⟨.slice 265, 1, 24, .slice none 0 0, false⟩
abbrev tyE256 : TyE := ⟨.struct #[{ name := "list", type := 255, offset := 0, embedded := false, tag := "", pkgPath := "loop.example/g00900/impl", byteOffset := 0 }, { name := "loads", type := 44, offset := 1, embedded := false, tag := "", pkgPath := "loop.example/g00900/impl", byteOffset := 24 }, { name := "left", type := 31, offset := 2, embedded := false, tag := "", pkgPath := "loop.example/g00900/impl", byteOffset := 48 }], 3, 72, .agg #[.slice none 0 0, .slice none 0 0, .slice none 0 0], true⟩
abbrev tyE257 : TyE := ⟨.struct #[{ name := "list", type := 255, offset := 0, embedded := false, tag := "", pkgPath := "loop.example/g00900/impl", byteOffset := 0 }, { name := "loads", type := 44, offset := 1, embedded := false, tag := "", pkgPath := "loop.example/g00900/impl", byteOffset := 24 }, { name := "left", type := 31, offset := 2, embedded := false, tag := "", pkgPath := "loop.example/g00900/impl", byteOffset := 48 }], 3, 72, .agg #[.slice none 0 0, .slice none 0 0, .slice none 0 0], true⟩
abbrev tyE259 : TyE := ⟨.struct #[{ name := "loads", type := 44, offset := 0, embedded := false, tag := "", pkgPath := "loop.example/g00900/spec", byteOffset := 0 }, { name := "left", type := 31, offset := 1, embedded := false, tag := "", pkgPath := "loop.example/g00900/spec", byteOffset := 24 }, { name := "minutes", type := 3, offset := 2, embedded := false, tag := "", pkgPath := "loop.example/g00900/spec", byteOffset := 48 }, { name := "persons", type := 3, offset := 3, embedded := false, tag := "", pkgPath := "loop.example/g00900/spec", byteOffset := 56 }, { name := "on", type := 31, offset := 4, embedded := false, tag := "", pkgPath := "loop.example/g00900/spec", byteOffset := 64 }, { name := "off", type := 31, offset := 5, embedded := false, tag := "", pkgPath := "loop.example/g00900/spec", byteOffset := 88 }], 6, 112, .agg #[.slice none 0 0, .slice none 0 0, .int .i64 0, .int .i64 0, .slice none 0 0, .slice none 0 0], true⟩
abbrev tyE260 : TyE := ⟨.struct #[{ name := "loads", type := 44, offset := 0, embedded := false, tag := "", pkgPath := "loop.example/g00900/spec", byteOffset := 0 }, { name := "left", type := 31, offset := 1, embedded := false, tag := "", pkgPath := "loop.example/g00900/spec", byteOffset := 24 }, { name := "minutes", type := 3, offset := 2, embedded := false, tag := "", pkgPath := "loop.example/g00900/spec", byteOffset := 48 }, { name := "persons", type := 3, offset := 3, embedded := false, tag := "", pkgPath := "loop.example/g00900/spec", byteOffset := 56 }, { name := "on", type := 31, offset := 4, embedded := false, tag := "", pkgPath := "loop.example/g00900/spec", byteOffset := 64 }, { name := "off", type := 31, offset := 5, embedded := false, tag := "", pkgPath := "loop.example/g00900/spec", byteOffset := 88 }], 6, 112, .agg #[.slice none 0 0, .slice none 0 0, .int .i64 0, .int .i64 0, .slice none 0 0, .slice none 0 0], true⟩
abbrev tyE262 : TyE := ⟨.struct #[{ name := "trip", type := 3, offset := 0, embedded := false, tag := "", pkgPath := "loop.example/g00900/impl", byteOffset := 0 }, { name := "from", type := 3, offset := 1, embedded := false, tag := "", pkgPath := "loop.example/g00900/impl", byteOffset := 8 }, { name := "to", type := 3, offset := 2, embedded := false, tag := "", pkgPath := "loop.example/g00900/impl", byteOffset := 16 }, { name := "arrive", type := 3, offset := 3, embedded := false, tag := "", pkgPath := "loop.example/g00900/impl", byteOffset := 24 }], 4, 32, .agg #[.int .i64 0, .int .i64 0, .int .i64 0, .int .i64 0], true⟩
abbrev tyE263 : TyE := ⟨.struct #[{ name := "trip", type := 3, offset := 0, embedded := false, tag := "", pkgPath := "loop.example/g00900/impl", byteOffset := 0 }, { name := "from", type := 3, offset := 1, embedded := false, tag := "", pkgPath := "loop.example/g00900/impl", byteOffset := 8 }, { name := "to", type := 3, offset := 2, embedded := false, tag := "", pkgPath := "loop.example/g00900/impl", byteOffset := 16 }, { name := "arrive", type := 3, offset := 3, embedded := false, tag := "", pkgPath := "loop.example/g00900/impl", byteOffset := 24 }], 4, 32, .agg #[.int .i64 0, .int .i64 0, .int .i64 0, .int .i64 0], true⟩
abbrev tyE264 : TyE := ⟨.struct #[{ name := "flow", type := 3, offset := 0, embedded := false, tag := "", pkgPath := "loop.example/g00900/impl", byteOffset := 0 }, { name := "service", type := 263, offset := 1, embedded := false, tag := "", pkgPath := "loop.example/g00900/impl", byteOffset := 8 }, { name := "persons", type := 3, offset := 5, embedded := false, tag := "", pkgPath := "loop.example/g00900/impl", byteOffset := 40 }], 6, 48, .agg #[.int .i64 0, .int .i64 0, .int .i64 0, .int .i64 0, .int .i64 0, .int .i64 0], true⟩
abbrev tyE265 : TyE := ⟨.struct #[{ name := "flow", type := 3, offset := 0, embedded := false, tag := "", pkgPath := "loop.example/g00900/impl", byteOffset := 0 }, { name := "service", type := 263, offset := 1, embedded := false, tag := "", pkgPath := "loop.example/g00900/impl", byteOffset := 8 }, { name := "persons", type := 3, offset := 5, embedded := false, tag := "", pkgPath := "loop.example/g00900/impl", byteOffset := 40 }], 6, 48, .agg #[.int .i64 0, .int .i64 0, .int .i64 0, .int .i64 0, .int .i64 0, .int .i64 0], true⟩
abbrev tyE272 : TyE := ⟨.array 100 4, 100, 100, .agg #[.bool false, .bool false, .bool false, .bool false, .bool false, .bool false, .bool false, .bool false, .bool false, .bool false, .bool false, .bool false, .bool false, .bool false, .bool false, .bool false, .bool false, .bool false, .bool false, .bool false, .bool false, .bool false, .bool false, .bool false, .bool false, .bool false, .bool false, .bool false, .bool false, .bool false, .bool false, .bool false, .bool false, .bool false, .bool false, .bool false, .bool false, .bool false, .bool false, .bool false, .bool false, .bool false, .bool false, .bool false, .bool false, .bool false, .bool false, .bool false, .bool false, .bool false, .bool false, .bool false, .bool false, .bool false, .bool false, .bool false, .bool false, .bool false, .bool false, .bool false, .bool false, .bool false, .bool false, .bool false, .bool false, .bool false, .bool false, .bool false, .bool false, .bool false, .bool false, .bool false, .bool false, .bool false, .bool false, .bool false, .bool false, .bool false, .bool false, .bool false, .bool false, .bool false, .bool false, .bool false, .bool false, .bool false, .bool false, .bool false, .bool false, .bool false, .bool false, .bool false, .bool false, .bool false, .bool false, .bool false, .bool false, .bool false, .bool false, .bool false], false⟩
abbrev tyE282 : TyE := ⟨.pointer 284, 1, 8, .pointer none, false⟩
abbrev tyE283 : TyE := ⟨.struct #[{ name := "t", type := 69, offset := 0, embedded := false, tag := "", pkgPath := "loop.example/g00900/spec", byteOffset := 0 }, { name := "change", type := 3, offset := 3, embedded := false, tag := "", pkgPath := "loop.example/g00900/spec", byteOffset := 72 }, { name := "to", type := 3, offset := 4, embedded := false, tag := "", pkgPath := "loop.example/g00900/spec", byteOffset := 80 }, { name := "arrive", type := 3, offset := 5, embedded := false, tag := "", pkgPath := "loop.example/g00900/spec", byteOffset := 88 }], 6, 96, .agg #[.slice none 0 0, .slice none 0 0, .slice none 0 0, .int .i64 0, .int .i64 0, .int .i64 0], true⟩
abbrev tyE284 : TyE := ⟨.struct #[{ name := "t", type := 69, offset := 0, embedded := false, tag := "", pkgPath := "loop.example/g00900/spec", byteOffset := 0 }, { name := "change", type := 3, offset := 3, embedded := false, tag := "", pkgPath := "loop.example/g00900/spec", byteOffset := 72 }, { name := "to", type := 3, offset := 4, embedded := false, tag := "", pkgPath := "loop.example/g00900/spec", byteOffset := 80 }, { name := "arrive", type := 3, offset := 5, embedded := false, tag := "", pkgPath := "loop.example/g00900/spec", byteOffset := 88 }], 6, 96, .agg #[.slice none 0 0, .slice none 0 0, .slice none 0 0, .int .i64 0, .int .i64 0, .int .i64 0], true⟩
abbrev tyE302 : TyE := ⟨.slice 109, 1, 24, .slice none 0 0, false⟩
abbrev tyE306 : TyE := ⟨.struct #[{ name := "Id", type := 3, offset := 0, embedded := false, tag := "", pkgPath := "", byteOffset := 0 }, { name := "Minutes", type := 3, offset := 1, embedded := false, tag := "", pkgPath := "", byteOffset := 8 }], 2, 16, .agg #[.int .i64 0, .int .i64 0], false⟩
abbrev tyE307 : TyE := ⟨.struct #[{ name := "Id", type := 3, offset := 0, embedded := false, tag := "", pkgPath := "", byteOffset := 0 }, { name := "Minutes", type := 3, offset := 1, embedded := false, tag := "", pkgPath := "", byteOffset := 8 }], 2, 16, .agg #[.int .i64 0, .int .i64 0], true⟩
abbrev tyE310 : TyE := ⟨.struct #[{ name := "t", type := 69, offset := 0, embedded := false, tag := "", pkgPath := "loop.example/g00900/impl", byteOffset := 0 }, { name := "f", type := 126, offset := 3, embedded := false, tag := "", pkgPath := "loop.example/g00900/impl", byteOffset := 72 }, { name := "memo", type := 309, offset := 5, embedded := false, tag := "", pkgPath := "loop.example/g00900/impl", byteOffset := 104 }], 6, 112, .agg #[.slice none 0 0, .slice none 0 0, .slice none 0 0, .slice none 0 0, .int .i64 0, .map none], true⟩
abbrev tyE311 : TyE := ⟨.struct #[{ name := "t", type := 69, offset := 0, embedded := false, tag := "", pkgPath := "loop.example/g00900/impl", byteOffset := 0 }, { name := "f", type := 126, offset := 3, embedded := false, tag := "", pkgPath := "loop.example/g00900/impl", byteOffset := 72 }, { name := "memo", type := 309, offset := 5, embedded := false, tag := "", pkgPath := "loop.example/g00900/impl", byteOffset := 104 }], 6, 112, .agg #[.slice none 0 0, .slice none 0 0, .slice none 0 0, .slice none 0 0, .int .i64 0, .map none], true⟩
abbrev tyE312 : TyE := ⟨.struct #[{ name := "count", type := 3, offset := 0, embedded := false, tag := "", pkgPath := "loop.example/g00900/impl", byteOffset := 0 }, { name := "dead", type := 3, offset := 1, embedded := false, tag := "", pkgPath := "loop.example/g00900/impl", byteOffset := 8 }], 2, 16, .agg #[.int .i64 0, .int .i64 0], true⟩
abbrev tyE313 : TyE := ⟨.struct #[{ name := "count", type := 3, offset := 0, embedded := false, tag := "", pkgPath := "loop.example/g00900/impl", byteOffset := 0 }, { name := "dead", type := 3, offset := 1, embedded := false, tag := "", pkgPath := "loop.example/g00900/impl", byteOffset := 8 }], 2, 16, .agg #[.int .i64 0, .int .i64 0], true⟩
abbrev tyE318 : TyE := ⟨.pointer 320, 1, 8, .pointer none, false⟩
abbrev tyE319 : TyE := ⟨.struct #[{ name := "t", type := 69, offset := 0, embedded := false, tag := "", pkgPath := "loop.example/g00900/spec", byteOffset := 0 }, { name := "f", type := 126, offset := 3, embedded := false, tag := "", pkgPath := "loop.example/g00900/spec", byteOffset := 72 }, { name := "known", type := 44, offset := 5, embedded := false, tag := "", pkgPath := "loop.example/g00900/spec", byteOffset := 104 }], 6, 128, .agg #[.slice none 0 0, .slice none 0 0, .slice none 0 0, .slice none 0 0, .int .i64 0, .slice none 0 0], true⟩
abbrev tyE320 : TyE := ⟨.struct #[{ name := "t", type := 69, offset := 0, embedded := false, tag := "", pkgPath := "loop.example/g00900/spec", byteOffset := 0 }, { name := "f", type := 126, offset := 3, embedded := false, tag := "", pkgPath := "loop.example/g00900/spec", byteOffset := 72 }, { name := "known", type := 44, offset := 5, embedded := false, tag := "", pkgPath := "loop.example/g00900/spec", byteOffset := 104 }], 6, 128, .agg #[.slice none 0 0, .slice none 0 0, .slice none 0 0, .slice none 0 0, .int .i64 0, .slice none 0 0], true⟩
abbrev tyE321 : TyE := ⟨.int .u64, 1, 8, .int .u64 0, false⟩
abbrev tyE324 : TyE := ⟨.array 12 4, 12, 12, .agg #[.bool false, .bool false, .bool false, .bool false, .bool false, .bool false, .bool false, .bool false, .bool false, .bool false, .bool false, .bool false], false⟩
abbrev tyE329 : TyE := ⟨.slice 263, 1, 24, .slice none 0 0, false⟩
abbrev tyE351 : TyE := ⟨.pointer 311, 1, 8, .pointer none, false⟩
abbrev tyE352 : TyE := ⟨.array 2 3, 2, 16, .agg #[.int .i64 0, .int .i64 0], false⟩
abbrev tyE364 : TyE := ⟨.struct #[{ name := "_interface", type := 17, offset := 0, embedded := false, tag := "", pkgPath := "runtime", byteOffset := 0 }, { name := "concrete", type := 17, offset := 1, embedded := false, tag := "", pkgPath := "runtime", byteOffset := 8 }, { name := "asserted", type := 17, offset := 2, embedded := false, tag := "", pkgPath := "runtime", byteOffset := 16 }, { name := "missingMethod", type := 9, offset := 3, embedded := false, tag := "", pkgPath := "runtime", byteOffset := 24 }], 4, 40, .agg #[.pointer none, .pointer none, .pointer none, .string ByteArray.empty], false⟩
abbrev tyE367 : TyE := ⟨.struct #[{ name := "_", type := 366, offset := 0, embedded := false, tag := "", pkgPath := "runtime", byteOffset := 0 }], 0, 0, .agg #[], false⟩
abbrev tyE369 : TyE := ⟨.int .u32, 1, 4, .int .u32 0, false⟩
abbrev tyE373 : TyE := ⟨.pointer 5, 1, 8, .pointer none, false⟩
abbrev tyE376 : TyE := ⟨.struct #[{ name := "Size_", type := 12, offset := 0, embedded := false, tag := "", pkgPath := "", byteOffset := 0 }, { name := "PtrBytes", type := 12, offset := 1, embedded := false, tag := "", pkgPath := "", byteOffset := 8 }, { name := "Hash", type := 369, offset := 2, embedded := false, tag := "", pkgPath := "", byteOffset := 16 }, { name := "TFlag", type := 370, offset := 3, embedded := false, tag := "", pkgPath := "", byteOffset := 20 }, { name := "Align_", type := 5, offset := 4, embedded := false, tag := "", pkgPath := "", byteOffset := 21 }, { name := "FieldAlign_", type := 5, offset := 5, embedded := false, tag := "", pkgPath := "", byteOffset := 22 }, { name := "Kind_", type := 371, offset := 6, embedded := false, tag := "", pkgPath := "", byteOffset := 23 }, { name := "Equal", type := 372, offset := 7, embedded := false, tag := "", pkgPath := "", byteOffset := 24 }, { name := "GCData", type := 373, offset := 8, embedded := false, tag := "", pkgPath := "", byteOffset := 32 }, { name := "Str", type := 374, offset := 9, embedded := false, tag := "", pkgPath := "", byteOffset := 40 }, { name := "PtrToThis", type := 375, offset := 10, embedded := false, tag := "", pkgPath := "", byteOffset := 44 }], 11, 48, .agg #[.int .u64 0, .int .u64 0, .int .u32 0, .int .u8 0, .int .u8 0, .int .u8 0, .int .u8 0, .nilFunc, .pointer none, .int .i32 0, .int .i32 0], false⟩
abbrev tyE378 : TyE := ⟨.unsafePointer, 1, 8, .pointer none, false⟩
def tyL : List (Nat × TyE) := [(2, tyE2), (3, tyE3), (4, tyE4), (5, tyE5), (7, tyE7), (9, tyE9), (12, tyE12), (13, tyE13), (15, tyE15), (16, tyE16), (17, tyE17), (18, tyE18), (21, tyE21), (22, tyE22), (24, tyE24), (25, tyE25), (26, tyE26), (27, tyE27), (28, tyE28), (31, tyE31), (38, tyE38), (39, tyE39), (44, tyE44), (45, tyE45), (46, tyE46), (47, tyE47), (67, tyE67), (68, tyE68), (69, tyE69), (72, tyE72), (75, tyE75), (77, tyE77), (78, tyE78), (80, tyE80), (81, tyE81), (93, tyE93), (94, tyE94), (109, tyE109), (121, tyE121), (125, tyE125), (126, tyE126), (135, tyE135), (144, tyE144), (151, tyE151), (152, tyE152), (156, tyE156), (157, tyE157), (158, tyE158), (159, tyE159), (172, tyE172), (173, tyE173), (224, tyE224), (225, tyE225), (235, tyE235), (236, tyE236), (248, tyE248), (249, tyE249), (255, tyE255), (256, tyE256), (257, tyE257), (259, tyE259), (260, tyE260), (262, tyE262), (263, tyE263), (264, tyE264), (265, tyE265), (272, tyE272), (282, tyE282), (283, tyE283), (284, tyE284), (302, tyE302), (306, tyE306), (307, tyE307), (310, tyE310), (311, tyE311), (312, tyE312), (313, tyE313), (318, tyE318), (319, tyE319), (320, tyE320), (321, tyE321), (324, tyE324), (329, tyE329), (351, tyE351), (352, tyE352), (364, tyE364), (367, tyE367), (369, tyE369), (373, tyE373), (376, tyE376), (378, tyE378)]
def ty (t : TypeId) : Option TyE := lookT t tyL
@[simp] theorem ty_2 : ty 2 = some tyE2 := rfl
@[simp] theorem ty_3 : ty 3 = some tyE3 := rfl
@[simp] theorem ty_4 : ty 4 = some tyE4 := rfl
@[simp] theorem ty_5 : ty 5 = some tyE5 := rfl
@[simp] theorem ty_7 : ty 7 = some tyE7 := rfl
@[simp] theorem ty_9 : ty 9 = some tyE9 := rfl
@[simp] theorem ty_12 : ty 12 = some tyE12 := rfl
@[simp] theorem ty_13 : ty 13 = some tyE13 := rfl
@[simp] theorem ty_15 : ty 15 = some tyE15 := rfl
@[simp] theorem ty_16 : ty 16 = some tyE16 := rfl
@[simp] theorem ty_17 : ty 17 = some tyE17 := rfl
@[simp] theorem ty_18 : ty 18 = some tyE18 := rfl
@[simp] theorem ty_21 : ty 21 = some tyE21 := rfl
@[simp] theorem ty_22 : ty 22 = some tyE22 := rfl
@[simp] theorem ty_24 : ty 24 = some tyE24 := rfl
@[simp] theorem ty_25 : ty 25 = some tyE25 := rfl
@[simp] theorem ty_26 : ty 26 = some tyE26 := rfl
@[simp] theorem ty_27 : ty 27 = some tyE27 := rfl
@[simp] theorem ty_28 : ty 28 = some tyE28 := rfl
@[simp] theorem ty_31 : ty 31 = some tyE31 := rfl
@[simp] theorem ty_38 : ty 38 = some tyE38 := rfl
@[simp] theorem ty_39 : ty 39 = some tyE39 := rfl
@[simp] theorem ty_44 : ty 44 = some tyE44 := rfl
@[simp] theorem ty_45 : ty 45 = some tyE45 := rfl
@[simp] theorem ty_46 : ty 46 = some tyE46 := rfl
@[simp] theorem ty_47 : ty 47 = some tyE47 := rfl
@[simp] theorem ty_67 : ty 67 = some tyE67 := rfl
@[simp] theorem ty_68 : ty 68 = some tyE68 := rfl
@[simp] theorem ty_69 : ty 69 = some tyE69 := rfl
@[simp] theorem ty_72 : ty 72 = some tyE72 := rfl
@[simp] theorem ty_75 : ty 75 = some tyE75 := rfl
@[simp] theorem ty_77 : ty 77 = some tyE77 := rfl
@[simp] theorem ty_78 : ty 78 = some tyE78 := rfl
@[simp] theorem ty_80 : ty 80 = some tyE80 := rfl
@[simp] theorem ty_81 : ty 81 = some tyE81 := rfl
@[simp] theorem ty_93 : ty 93 = some tyE93 := rfl
@[simp] theorem ty_94 : ty 94 = some tyE94 := rfl
@[simp] theorem ty_109 : ty 109 = some tyE109 := rfl
@[simp] theorem ty_121 : ty 121 = some tyE121 := rfl
@[simp] theorem ty_125 : ty 125 = some tyE125 := rfl
@[simp] theorem ty_126 : ty 126 = some tyE126 := rfl
@[simp] theorem ty_135 : ty 135 = some tyE135 := rfl
@[simp] theorem ty_144 : ty 144 = some tyE144 := rfl
@[simp] theorem ty_151 : ty 151 = some tyE151 := rfl
@[simp] theorem ty_152 : ty 152 = some tyE152 := rfl
@[simp] theorem ty_156 : ty 156 = some tyE156 := rfl
@[simp] theorem ty_157 : ty 157 = some tyE157 := rfl
@[simp] theorem ty_158 : ty 158 = some tyE158 := rfl
@[simp] theorem ty_159 : ty 159 = some tyE159 := rfl
@[simp] theorem ty_172 : ty 172 = some tyE172 := rfl
@[simp] theorem ty_173 : ty 173 = some tyE173 := rfl
@[simp] theorem ty_224 : ty 224 = some tyE224 := rfl
@[simp] theorem ty_225 : ty 225 = some tyE225 := rfl
@[simp] theorem ty_235 : ty 235 = some tyE235 := rfl
@[simp] theorem ty_236 : ty 236 = some tyE236 := rfl
@[simp] theorem ty_248 : ty 248 = some tyE248 := rfl
@[simp] theorem ty_249 : ty 249 = some tyE249 := rfl
@[simp] theorem ty_255 : ty 255 = some tyE255 := rfl
@[simp] theorem ty_256 : ty 256 = some tyE256 := rfl
@[simp] theorem ty_257 : ty 257 = some tyE257 := rfl
@[simp] theorem ty_259 : ty 259 = some tyE259 := rfl
@[simp] theorem ty_260 : ty 260 = some tyE260 := rfl
@[simp] theorem ty_262 : ty 262 = some tyE262 := rfl
@[simp] theorem ty_263 : ty 263 = some tyE263 := rfl
@[simp] theorem ty_264 : ty 264 = some tyE264 := rfl
@[simp] theorem ty_265 : ty 265 = some tyE265 := rfl
@[simp] theorem ty_272 : ty 272 = some tyE272 := rfl
@[simp] theorem ty_282 : ty 282 = some tyE282 := rfl
@[simp] theorem ty_283 : ty 283 = some tyE283 := rfl
@[simp] theorem ty_284 : ty 284 = some tyE284 := rfl
@[simp] theorem ty_302 : ty 302 = some tyE302 := rfl
@[simp] theorem ty_306 : ty 306 = some tyE306 := rfl
@[simp] theorem ty_307 : ty 307 = some tyE307 := rfl
@[simp] theorem ty_310 : ty 310 = some tyE310 := rfl
@[simp] theorem ty_311 : ty 311 = some tyE311 := rfl
@[simp] theorem ty_312 : ty 312 = some tyE312 := rfl
@[simp] theorem ty_313 : ty 313 = some tyE313 := rfl
@[simp] theorem ty_318 : ty 318 = some tyE318 := rfl
@[simp] theorem ty_319 : ty 319 = some tyE319 := rfl
@[simp] theorem ty_320 : ty 320 = some tyE320 := rfl
@[simp] theorem ty_321 : ty 321 = some tyE321 := rfl
@[simp] theorem ty_324 : ty 324 = some tyE324 := rfl
@[simp] theorem ty_329 : ty 329 = some tyE329 := rfl
@[simp] theorem ty_351 : ty 351 = some tyE351 := rfl
@[simp] theorem ty_352 : ty 352 = some tyE352 := rfl
@[simp] theorem ty_364 : ty 364 = some tyE364 := rfl
@[simp] theorem ty_367 : ty 367 = some tyE367 := rfl
@[simp] theorem ty_369 : ty 369 = some tyE369 := rfl
@[simp] theorem ty_373 : ty 373 = some tyE373 := rfl
@[simp] theorem ty_376 : ty 376 = some tyE376 := rfl
@[simp] theorem ty_378 : ty 378 = some tyE378 := rfl
theorem tyOK_2 : TyOK Try.prog 2 tyE2 := ⟨Try.underlying2, Try.t2, Try.type2, rfl, rfl, rfl, fun h => by cases h⟩
theorem tyOK_3 : TyOK Try.prog 3 tyE3 := ⟨Try.underlying3, Try.t3, Try.type3, rfl, rfl, rfl, fun h => by cases h⟩
theorem tyOK_4 : TyOK Try.prog 4 tyE4 := ⟨Try.underlying4, Try.t4, Try.type4, rfl, rfl, rfl, fun h => by cases h⟩
theorem tyOK_5 : TyOK Try.prog 5 tyE5 := ⟨Try.underlying5, Try.t5, Try.type5, rfl, rfl, rfl, fun h => by cases h⟩
theorem tyOK_7 : TyOK Try.prog 7 tyE7 := ⟨Try.underlying7, Try.t7, Try.type7, rfl, rfl, rfl, fun h => by cases h⟩
theorem tyOK_9 : TyOK Try.prog 9 tyE9 := ⟨Try.underlying9, Try.t9, Try.type9, rfl, rfl, rfl, fun h => by cases h⟩
theorem tyOK_12 : TyOK Try.prog 12 tyE12 := ⟨Try.underlying12, Try.t12, Try.type12, rfl, rfl, rfl, fun h => by cases h⟩
theorem tyOK_13 : TyOK Try.prog 13 tyE13 := ⟨Try.underlying13, Try.t13, Try.type13, rfl, rfl, rfl, fun h => by cases h⟩
theorem tyOK_15 : TyOK Try.prog 15 tyE15 := ⟨Try.underlying15, Try.t15, Try.type15, rfl, rfl, rfl, fun h => by cases h⟩
theorem tyOK_16 : TyOK Try.prog 16 tyE16 := ⟨Try.underlying16, Try.t16, Try.type16, rfl, rfl, rfl, fun h => by cases h⟩
theorem tyOK_17 : TyOK Try.prog 17 tyE17 := ⟨Try.underlying17, Try.t17, Try.type17, rfl, rfl, rfl, fun h => by cases h⟩
theorem tyOK_18 : TyOK Try.prog 18 tyE18 := ⟨Try.underlying18, Try.t18, Try.type18, rfl, rfl, rfl, fun h => by cases h⟩
theorem tyOK_21 : TyOK Try.prog 21 tyE21 := ⟨Try.underlying21, Try.t21, Try.type21, rfl, rfl, rfl, fun h => by cases h⟩
theorem tyOK_22 : TyOK Try.prog 22 tyE22 := ⟨Try.underlying22, Try.t22, Try.type22, rfl, rfl, rfl, fun h => by cases h⟩
theorem tyOK_24 : TyOK Try.prog 24 tyE24 := ⟨Try.underlying24, Try.t24, Try.type24, rfl, rfl, rfl, fun h => by cases h⟩
theorem tyOK_25 : TyOK Try.prog 25 tyE25 := ⟨Try.underlying25, Try.t25, Try.type25, rfl, rfl, rfl, fun h => by cases h⟩
theorem tyOK_26 : TyOK Try.prog 26 tyE26 := ⟨Try.underlying26, Try.t26, Try.type26, rfl, rfl, rfl, fun h => by cases h⟩
theorem tyOK_27 : TyOK Try.prog 27 tyE27 := ⟨Try.underlying27, Try.t27, Try.type27, rfl, rfl, rfl, fun _ => ⟨by kernel_rfl, by kernel_rfl, by rintro _ ⟨⟩; rfl⟩⟩
theorem tyOK_28 : TyOK Try.prog 28 tyE28 := ⟨Try.underlying28, Try.t28, Try.type28, rfl, rfl, rfl, fun h => by cases h⟩
theorem tyOK_31 : TyOK Try.prog 31 tyE31 := ⟨Try.underlying31, Try.t31, Try.type31, rfl, rfl, rfl, fun h => by cases h⟩
theorem tyOK_38 : TyOK Try.prog 38 tyE38 := ⟨Try.underlying38, Try.t38, Try.type38, rfl, rfl, rfl, fun h => by cases h⟩
theorem tyOK_39 : TyOK Try.prog 39 tyE39 := ⟨Try.underlying39, Try.t39, Try.type39, rfl, rfl, rfl, fun _ => ⟨by kernel_rfl, by kernel_rfl, by rintro _ ⟨⟩; rfl⟩⟩
theorem tyOK_44 : TyOK Try.prog 44 tyE44 := ⟨Try.underlying44, Try.t44, Try.type44, rfl, rfl, rfl, fun h => by cases h⟩
theorem tyOK_45 : TyOK Try.prog 45 tyE45 := ⟨Try.underlying45, Try.t45, Try.type45, rfl, rfl, rfl, fun h => by cases h⟩
theorem tyOK_46 : TyOK Try.prog 46 tyE46 := ⟨Try.underlying46, Try.t46, Try.type46, rfl, rfl, rfl, fun _ => ⟨by kernel_rfl, by kernel_rfl, by rintro _ ⟨⟩; rfl⟩⟩
theorem tyOK_47 : TyOK Try.prog 47 tyE47 := ⟨Try.underlying47, Try.t47, Try.type47, rfl, rfl, rfl, fun h => by cases h⟩
theorem tyOK_67 : TyOK Try.prog 67 tyE67 := ⟨Try.underlying67, Try.t67, Try.type67, rfl, rfl, rfl, fun h => by cases h⟩
theorem tyOK_68 : TyOK Try.prog 68 tyE68 := ⟨Try.underlying68, Try.t68, Try.type68, rfl, rfl, rfl, fun h => by cases h⟩
theorem tyOK_69 : TyOK Try.prog 69 tyE69 := ⟨Try.underlying69, Try.t69, Try.type69, rfl, rfl, rfl, fun _ => ⟨by kernel_rfl, by kernel_rfl, by rintro _ ⟨⟩; rfl⟩⟩
theorem tyOK_72 : TyOK Try.prog 72 tyE72 := ⟨Try.underlying72, Try.t72, Try.type72, rfl, rfl, rfl, fun h => by cases h⟩
theorem tyOK_75 : TyOK Try.prog 75 tyE75 := ⟨Try.underlying75, Try.t75, Try.type75, rfl, rfl, rfl, fun h => by cases h⟩
theorem tyOK_77 : TyOK Try.prog 77 tyE77 := ⟨Try.underlying77, Try.t77, Try.type77, rfl, rfl, rfl, fun h => by cases h⟩
theorem tyOK_78 : TyOK Try.prog 78 tyE78 := ⟨Try.underlying78, Try.t78, Try.type78, rfl, rfl, rfl, fun _ => ⟨by kernel_rfl, by kernel_rfl, by rintro _ ⟨⟩; rfl⟩⟩
theorem tyOK_80 : TyOK Try.prog 80 tyE80 := ⟨Try.underlying80, Try.t80, Try.type80, rfl, rfl, rfl, fun h => by cases h⟩
theorem tyOK_81 : TyOK Try.prog 81 tyE81 := ⟨Try.underlying81, Try.t81, Try.type81, rfl, rfl, rfl, fun _ => ⟨by kernel_rfl, by kernel_rfl, by rintro _ ⟨⟩; rfl⟩⟩
theorem tyOK_93 : TyOK Try.prog 93 tyE93 := ⟨Try.underlying93, Try.t93, Try.type93, rfl, rfl, rfl, fun h => by cases h⟩
theorem tyOK_94 : TyOK Try.prog 94 tyE94 := ⟨Try.underlying94, Try.t94, Try.type94, rfl, rfl, rfl, fun _ => ⟨by kernel_rfl, by kernel_rfl, by rintro _ ⟨⟩; rfl⟩⟩
theorem tyOK_109 : TyOK Try.prog 109 tyE109 := ⟨Try.underlying109, Try.t109, Try.type109, rfl, rfl, rfl, fun h => by cases h⟩
theorem tyOK_121 : TyOK Try.prog 121 tyE121 := ⟨Try.underlying121, Try.t121, Try.type121, rfl, rfl, rfl, fun h => by cases h⟩
theorem tyOK_125 : TyOK Try.prog 125 tyE125 := ⟨Try.underlying125, Try.t125, Try.type125, rfl, rfl, rfl, fun h => by cases h⟩
theorem tyOK_126 : TyOK Try.prog 126 tyE126 := ⟨Try.underlying126, Try.t126, Try.type126, rfl, rfl, rfl, fun _ => ⟨by kernel_rfl, by kernel_rfl, by rintro _ ⟨⟩; rfl⟩⟩
theorem tyOK_135 : TyOK Try.prog 135 tyE135 := ⟨Try.underlying135, Try.t135, Try.type135, rfl, rfl, rfl, fun h => by cases h⟩
theorem tyOK_144 : TyOK Try.prog 144 tyE144 := ⟨Try.underlying144, Try.t144, Try.type144, rfl, rfl, rfl, fun h => by cases h⟩
theorem tyOK_151 : TyOK Try.prog 151 tyE151 := ⟨Try.underlying151, Try.t151, Try.type151, rfl, rfl, rfl, fun h => by cases h⟩
theorem tyOK_152 : TyOK Try.prog 152 tyE152 := ⟨Try.underlying152, Try.t152, Try.type152, rfl, rfl, rfl, fun _ => ⟨by kernel_rfl, by kernel_rfl, by rintro _ ⟨⟩; rfl⟩⟩
theorem tyOK_156 : TyOK Try.prog 156 tyE156 := ⟨Try.underlying156, Try.t156, Try.type156, rfl, rfl, rfl, fun h => by cases h⟩
theorem tyOK_157 : TyOK Try.prog 157 tyE157 := ⟨Try.underlying157, Try.t157, Try.type157, rfl, rfl, rfl, fun h => by cases h⟩
theorem tyOK_158 : TyOK Try.prog 158 tyE158 := ⟨Try.underlying158, Try.t158, Try.type158, rfl, rfl, rfl, fun _ => ⟨by kernel_rfl, by kernel_rfl, by rintro _ ⟨⟩; rfl⟩⟩
theorem tyOK_159 : TyOK Try.prog 159 tyE159 := ⟨Try.underlying159, Try.t159, Try.type159, rfl, rfl, rfl, fun _ => ⟨by kernel_rfl, by kernel_rfl, by rintro _ ⟨⟩; rfl⟩⟩
theorem tyOK_172 : TyOK Try.prog 172 tyE172 := ⟨Try.underlying172, Try.t172, Try.type172, rfl, rfl, rfl, fun h => by cases h⟩
theorem tyOK_173 : TyOK Try.prog 173 tyE173 := ⟨Try.underlying173, Try.t173, Try.type173, rfl, rfl, rfl, fun _ => ⟨by kernel_rfl, by kernel_rfl, by rintro _ ⟨⟩; rfl⟩⟩
theorem tyOK_224 : TyOK Try.prog 224 tyE224 := ⟨Try.underlying224, Try.t224, Try.type224, rfl, rfl, rfl, fun h => by cases h⟩
theorem tyOK_225 : TyOK Try.prog 225 tyE225 := ⟨Try.underlying225, Try.t225, Try.type225, rfl, rfl, rfl, fun _ => ⟨by kernel_rfl, by kernel_rfl, by rintro _ ⟨⟩; rfl⟩⟩
theorem tyOK_235 : TyOK Try.prog 235 tyE235 := ⟨Try.underlying235, Try.t235, Try.type235, rfl, rfl, rfl, fun h => by cases h⟩
theorem tyOK_236 : TyOK Try.prog 236 tyE236 := ⟨Try.underlying236, Try.t236, Try.type236, rfl, rfl, rfl, fun _ => ⟨by kernel_rfl, by kernel_rfl, by rintro _ ⟨⟩; rfl⟩⟩
theorem tyOK_248 : TyOK Try.prog 248 tyE248 := ⟨Try.underlying248, Try.t248, Try.type248, rfl, rfl, rfl, fun h => by cases h⟩
theorem tyOK_249 : TyOK Try.prog 249 tyE249 := ⟨Try.underlying249, Try.t249, Try.type249, rfl, rfl, rfl, fun _ => ⟨by kernel_rfl, by kernel_rfl, by rintro _ ⟨⟩; rfl⟩⟩
theorem tyOK_255 : TyOK Try.prog 255 tyE255 := ⟨Try.underlying255, Try.t255, Try.type255, rfl, rfl, rfl, fun h => by cases h⟩
theorem tyOK_256 : TyOK Try.prog 256 tyE256 := ⟨Try.underlying256, Try.t256, Try.type256, rfl, rfl, rfl, fun _ => ⟨by kernel_rfl, by kernel_rfl, by rintro _ ⟨⟩; rfl⟩⟩
theorem tyOK_257 : TyOK Try.prog 257 tyE257 := ⟨Try.underlying257, Try.t257, Try.type257, rfl, rfl, rfl, fun _ => ⟨by kernel_rfl, by kernel_rfl, by rintro _ ⟨⟩; rfl⟩⟩
theorem tyOK_259 : TyOK Try.prog 259 tyE259 := ⟨Try.underlying259, Try.t259, Try.type259, rfl, rfl, rfl, fun _ => ⟨by kernel_rfl, by kernel_rfl, by rintro _ ⟨⟩; rfl⟩⟩
theorem tyOK_260 : TyOK Try.prog 260 tyE260 := ⟨Try.underlying260, Try.t260, Try.type260, rfl, rfl, rfl, fun _ => ⟨by kernel_rfl, by kernel_rfl, by rintro _ ⟨⟩; rfl⟩⟩
theorem tyOK_262 : TyOK Try.prog 262 tyE262 := ⟨Try.underlying262, Try.t262, Try.type262, rfl, rfl, rfl, fun _ => ⟨by kernel_rfl, by kernel_rfl, by rintro _ ⟨⟩; rfl⟩⟩
theorem tyOK_263 : TyOK Try.prog 263 tyE263 := ⟨Try.underlying263, Try.t263, Try.type263, rfl, rfl, rfl, fun _ => ⟨by kernel_rfl, by kernel_rfl, by rintro _ ⟨⟩; rfl⟩⟩
theorem tyOK_264 : TyOK Try.prog 264 tyE264 := ⟨Try.underlying264, Try.t264, Try.type264, rfl, rfl, rfl, fun _ => ⟨by kernel_rfl, by kernel_rfl, by rintro _ ⟨⟩; rfl⟩⟩
theorem tyOK_265 : TyOK Try.prog 265 tyE265 := ⟨Try.underlying265, Try.t265, Try.type265, rfl, rfl, rfl, fun _ => ⟨by kernel_rfl, by kernel_rfl, by rintro _ ⟨⟩; rfl⟩⟩
theorem tyOK_272 : TyOK Try.prog 272 tyE272 := ⟨Try.underlying272, Try.t272, Try.type272, rfl, rfl, rfl, fun h => by cases h⟩
theorem tyOK_282 : TyOK Try.prog 282 tyE282 := ⟨Try.underlying282, Try.t282, Try.type282, rfl, rfl, rfl, fun h => by cases h⟩
theorem tyOK_283 : TyOK Try.prog 283 tyE283 := ⟨Try.underlying283, Try.t283, Try.type283, rfl, rfl, rfl, fun _ => ⟨by kernel_rfl, by kernel_rfl, by rintro _ ⟨⟩; rfl⟩⟩
theorem tyOK_284 : TyOK Try.prog 284 tyE284 := ⟨Try.underlying284, Try.t284, Try.type284, rfl, rfl, rfl, fun _ => ⟨by kernel_rfl, by kernel_rfl, by rintro _ ⟨⟩; rfl⟩⟩
theorem tyOK_302 : TyOK Try.prog 302 tyE302 := ⟨Try.underlying302, Try.t302, Try.type302, rfl, rfl, rfl, fun h => by cases h⟩
theorem tyOK_306 : TyOK Try.prog 306 tyE306 := ⟨Try.underlying306, Try.t306, Try.type306, rfl, rfl, rfl, fun h => by cases h⟩
theorem tyOK_307 : TyOK Try.prog 307 tyE307 := ⟨Try.underlying307, Try.t307, Try.type307, rfl, rfl, rfl, fun _ => ⟨by kernel_rfl, by kernel_rfl, by rintro _ ⟨⟩; rfl⟩⟩
theorem tyOK_310 : TyOK Try.prog 310 tyE310 := ⟨Try.underlying310, Try.t310, Try.type310, rfl, rfl, rfl, fun _ => ⟨by kernel_rfl, by kernel_rfl, by rintro _ ⟨⟩; rfl⟩⟩
theorem tyOK_311 : TyOK Try.prog 311 tyE311 := ⟨Try.underlying311, Try.t311, Try.type311, rfl, rfl, rfl, fun _ => ⟨by kernel_rfl, by kernel_rfl, by rintro _ ⟨⟩; rfl⟩⟩
theorem tyOK_312 : TyOK Try.prog 312 tyE312 := ⟨Try.underlying312, Try.t312, Try.type312, rfl, rfl, rfl, fun _ => ⟨by kernel_rfl, by kernel_rfl, by rintro _ ⟨⟩; rfl⟩⟩
theorem tyOK_313 : TyOK Try.prog 313 tyE313 := ⟨Try.underlying313, Try.t313, Try.type313, rfl, rfl, rfl, fun _ => ⟨by kernel_rfl, by kernel_rfl, by rintro _ ⟨⟩; rfl⟩⟩
theorem tyOK_318 : TyOK Try.prog 318 tyE318 := ⟨Try.underlying318, Try.t318, Try.type318, rfl, rfl, rfl, fun h => by cases h⟩
theorem tyOK_319 : TyOK Try.prog 319 tyE319 := ⟨Try.underlying319, Try.t319, Try.type319, rfl, rfl, rfl, fun _ => ⟨by kernel_rfl, by kernel_rfl, by rintro _ ⟨⟩; rfl⟩⟩
theorem tyOK_320 : TyOK Try.prog 320 tyE320 := ⟨Try.underlying320, Try.t320, Try.type320, rfl, rfl, rfl, fun _ => ⟨by kernel_rfl, by kernel_rfl, by rintro _ ⟨⟩; rfl⟩⟩
theorem tyOK_321 : TyOK Try.prog 321 tyE321 := ⟨Try.underlying321, Try.t321, Try.type321, rfl, rfl, rfl, fun h => by cases h⟩
theorem tyOK_324 : TyOK Try.prog 324 tyE324 := ⟨Try.underlying324, Try.t324, Try.type324, rfl, rfl, rfl, fun h => by cases h⟩
theorem tyOK_329 : TyOK Try.prog 329 tyE329 := ⟨Try.underlying329, Try.t329, Try.type329, rfl, rfl, rfl, fun h => by cases h⟩
theorem tyOK_351 : TyOK Try.prog 351 tyE351 := ⟨Try.underlying351, Try.t351, Try.type351, rfl, rfl, rfl, fun h => by cases h⟩
theorem tyOK_352 : TyOK Try.prog 352 tyE352 := ⟨Try.underlying352, Try.t352, Try.type352, rfl, rfl, rfl, fun h => by cases h⟩
theorem tyOK_364 : TyOK Try.prog 364 tyE364 := ⟨Try.underlying364, Try.t364, Try.type364, rfl, rfl, rfl, fun h => by cases h⟩
theorem tyOK_367 : TyOK Try.prog 367 tyE367 := ⟨Try.underlying367, Try.t367, Try.type367, rfl, rfl, rfl, fun h => by cases h⟩
theorem tyOK_369 : TyOK Try.prog 369 tyE369 := ⟨Try.underlying369, Try.t369, Try.type369, rfl, rfl, rfl, fun h => by cases h⟩
theorem tyOK_373 : TyOK Try.prog 373 tyE373 := ⟨Try.underlying373, Try.t373, Try.type373, rfl, rfl, rfl, fun h => by cases h⟩
theorem tyOK_376 : TyOK Try.prog 376 tyE376 := ⟨Try.underlying376, Try.t376, Try.type376, rfl, rfl, rfl, fun h => by cases h⟩
theorem tyOK_378 : TyOK Try.prog 378 tyE378 := ⟨Try.underlying378, Try.t378, Try.type378, rfl, rfl, rfl, fun h => by cases h⟩
theorem ty_ok : ∀ t x, ty t = some x → TyOK Try.prog t x := lookT_ok (allT_cons tyOK_2 (allT_cons tyOK_3 (allT_cons tyOK_4 (allT_cons tyOK_5 (allT_cons tyOK_7 (allT_cons tyOK_9 (allT_cons tyOK_12 (allT_cons tyOK_13 (allT_cons tyOK_15 (allT_cons tyOK_16 (allT_cons tyOK_17 (allT_cons tyOK_18 (allT_cons tyOK_21 (allT_cons tyOK_22 (allT_cons tyOK_24 (allT_cons tyOK_25 (allT_cons tyOK_26 (allT_cons tyOK_27 (allT_cons tyOK_28 (allT_cons tyOK_31 (allT_cons tyOK_38 (allT_cons tyOK_39 (allT_cons tyOK_44 (allT_cons tyOK_45 (allT_cons tyOK_46 (allT_cons tyOK_47 (allT_cons tyOK_67 (allT_cons tyOK_68 (allT_cons tyOK_69 (allT_cons tyOK_72 (allT_cons tyOK_75 (allT_cons tyOK_77 (allT_cons tyOK_78 (allT_cons tyOK_80 (allT_cons tyOK_81 (allT_cons tyOK_93 (allT_cons tyOK_94 (allT_cons tyOK_109 (allT_cons tyOK_121 (allT_cons tyOK_125 (allT_cons tyOK_126 (allT_cons tyOK_135 (allT_cons tyOK_144 (allT_cons tyOK_151 (allT_cons tyOK_152 (allT_cons tyOK_156 (allT_cons tyOK_157 (allT_cons tyOK_158 (allT_cons tyOK_159 (allT_cons tyOK_172 (allT_cons tyOK_173 (allT_cons tyOK_224 (allT_cons tyOK_225 (allT_cons tyOK_235 (allT_cons tyOK_236 (allT_cons tyOK_248 (allT_cons tyOK_249 (allT_cons tyOK_255 (allT_cons tyOK_256 (allT_cons tyOK_257 (allT_cons tyOK_259 (allT_cons tyOK_260 (allT_cons tyOK_262 (allT_cons tyOK_263 (allT_cons tyOK_264 (allT_cons tyOK_265 (allT_cons tyOK_272 (allT_cons tyOK_282 (allT_cons tyOK_283 (allT_cons tyOK_284 (allT_cons tyOK_302 (allT_cons tyOK_306 (allT_cons tyOK_307 (allT_cons tyOK_310 (allT_cons tyOK_311 (allT_cons tyOK_312 (allT_cons tyOK_313 (allT_cons tyOK_318 (allT_cons tyOK_319 (allT_cons tyOK_320 (allT_cons tyOK_321 (allT_cons tyOK_324 (allT_cons tyOK_329 (allT_cons tyOK_351 (allT_cons tyOK_352 (allT_cons tyOK_364 (allT_cons tyOK_367 (allT_cons tyOK_369 (allT_cons tyOK_373 (allT_cons tyOK_376 (allT_cons tyOK_378 allT_nil)))))))))))))))))))))))))))))))))))))))))))))))))))))))))))))))))))))))))))))))))))))))))))
end Go.Proofs.Ytfknbpimkleimaa
