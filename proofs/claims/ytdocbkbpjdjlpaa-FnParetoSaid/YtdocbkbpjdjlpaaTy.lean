/- The types of the seat as a table. Made by program (genty.py). -/
import Derived.Test.YtdocbkbpjdjlpaaProg
import Derived.Test.YtdocbkbpjdjlpaaAbSpec
import Derived.KernelRfl
namespace Go.Proofs.Ytdocbkbpjdjlpaa
open Go Go.Ab
set_option maxRecDepth 100000

abbrev tyE2 : TyE := ⟨.int .i64, 1, 8, .int .i64 0, false⟩
abbrev tyE3 : TyE := ⟨.int .i64, 1, 8, .int .i64 0, false⟩
abbrev tyE4 : TyE := ⟨.bool, 1, 1, .bool false, false⟩
abbrev tyE5 : TyE := ⟨.int .u8, 1, 1, .int .u8 0, false⟩
abbrev tyE7 : TyE := ⟨.struct #[{ name := "x", type := 2, offset := 0, embedded := false, tag := "", pkgPath := "runtime", byteOffset := 0 }, { name := "y", type := 3, offset := 1, embedded := false, tag := "", pkgPath := "runtime", byteOffset := 8 }, { name := "signed", type := 4, offset := 2, embedded := false, tag := "", pkgPath := "runtime", byteOffset := 16 }, { name := "code", type := 6, offset := 3, embedded := false, tag := "", pkgPath := "runtime", byteOffset := 17 }], 4, 24, .agg #[.int .i64 0, .int .i64 0, .bool false, .int .u8 0], false⟩
abbrev tyE9 : TyE := ⟨.string, 1, 16, .string ByteArray.empty, false⟩
abbrev tyE12 : TyE := ⟨.int .u64, 1, 8, .int .u64 0, false⟩
abbrev tyE13 : TyE := ⟨.struct #[{ name := "msg", type := 9, offset := 0, embedded := false, tag := "", pkgPath := "runtime", byteOffset := 0 }, { name := "addr", type := 12, offset := 1, embedded := false, tag := "", pkgPath := "runtime", byteOffset := 16 }], 2, 24, .agg #[.string ByteArray.empty, .int .u64 0], false⟩
abbrev tyE15 : TyE := ⟨.pointer 276, 1, 8, .pointer none, false⟩
abbrev tyE16 : TyE := ⟨.pointer 279, 1, 8, .pointer none, false⟩
abbrev tyE17 : TyE := ⟨.pointer 287, 1, 8, .pointer none, false⟩
abbrev tyE18 : TyE := ⟨.struct #[{ name := "typ", type := 17, offset := 0, embedded := false, tag := "", pkgPath := "internal/runtime/maps", byteOffset := 0 }], 1, 8, .agg #[.pointer none], false⟩
abbrev tyE21 : TyE := ⟨.int .i32, 1, 4, .int .i32 0, false⟩
abbrev tyE22 : TyE := ⟨.slice 9, 1, 24, .slice none 0 0, false⟩
abbrev tyE23 : TyE := ⟨.slice 225, 1, 24, .slice none 0 0, false⟩
abbrev tyE24 : TyE := ⟨.struct #[{ name := "Stops", type := 22, offset := 0, embedded := false, tag := "", pkgPath := "", byteOffset := 0 }, { name := "Lines", type := 23, offset := 1, embedded := false, tag := "", pkgPath := "", byteOffset := 24 }], 2, 48, .agg #[.slice none 0 0, .slice none 0 0], false⟩
abbrev tyE25 : TyE := ⟨.struct #[{ name := "Stops", type := 22, offset := 0, embedded := false, tag := "", pkgPath := "", byteOffset := 0 }, { name := "Lines", type := 23, offset := 1, embedded := false, tag := "", pkgPath := "", byteOffset := 24 }], 2, 48, .agg #[.slice none 0 0, .slice none 0 0], true⟩
abbrev tyE26 : TyE := ⟨.slice 192, 1, 24, .slice none 0 0, false⟩
abbrev tyE27 : TyE := ⟨.struct #[{ name := "Network", type := 25, offset := 0, embedded := false, tag := "", pkgPath := "", byteOffset := 0 }, { name := "Trips", type := 26, offset := 2, embedded := false, tag := "", pkgPath := "", byteOffset := 48 }], 3, 72, .agg #[.slice none 0 0, .slice none 0 0, .slice none 0 0], false⟩
abbrev tyE28 : TyE := ⟨.struct #[{ name := "Network", type := 25, offset := 0, embedded := false, tag := "", pkgPath := "", byteOffset := 0 }, { name := "Trips", type := 26, offset := 2, embedded := false, tag := "", pkgPath := "", byteOffset := 48 }], 3, 72, .agg #[.slice none 0 0, .slice none 0 0, .slice none 0 0], true⟩
abbrev tyE30 : TyE := ⟨.slice 146, 1, 24, .slice none 0 0, false⟩
abbrev tyE31 : TyE := ⟨.struct #[{ name := "Stops", type := 22, offset := 0, embedded := false, tag := "", pkgPath := "", byteOffset := 0 }, { name := "Lines", type := 30, offset := 1, embedded := false, tag := "", pkgPath := "", byteOffset := 24 }], 2, 48, .agg #[.slice none 0 0, .slice none 0 0], false⟩
abbrev tyE32 : TyE := ⟨.struct #[{ name := "Stops", type := 22, offset := 0, embedded := false, tag := "", pkgPath := "", byteOffset := 0 }, { name := "Lines", type := 30, offset := 1, embedded := false, tag := "", pkgPath := "", byteOffset := 24 }], 2, 48, .agg #[.slice none 0 0, .slice none 0 0], true⟩
abbrev tyE33 : TyE := ⟨.slice 167, 1, 24, .slice none 0 0, false⟩
abbrev tyE34 : TyE := ⟨.struct #[{ name := "Network", type := 32, offset := 0, embedded := false, tag := "", pkgPath := "", byteOffset := 0 }, { name := "Trips", type := 33, offset := 2, embedded := false, tag := "", pkgPath := "", byteOffset := 48 }], 3, 72, .agg #[.slice none 0 0, .slice none 0 0, .slice none 0 0], false⟩
abbrev tyE35 : TyE := ⟨.struct #[{ name := "Network", type := 32, offset := 0, embedded := false, tag := "", pkgPath := "", byteOffset := 0 }, { name := "Trips", type := 33, offset := 2, embedded := false, tag := "", pkgPath := "", byteOffset := 48 }], 3, 72, .agg #[.slice none 0 0, .slice none 0 0, .slice none 0 0], true⟩
abbrev tyE36 : TyE := ⟨.struct #[{ name := "Durable", type := 9, offset := 0, embedded := false, tag := "", pkgPath := "", byteOffset := 0 }, { name := "Pending", type := 9, offset := 1, embedded := false, tag := "", pkgPath := "", byteOffset := 16 }, { name := "Count", type := 3, offset := 2, embedded := false, tag := "", pkgPath := "", byteOffset := 32 }], 3, 40, .agg #[.string ByteArray.empty, .string ByteArray.empty, .int .i64 0], false⟩
abbrev tyE37 : TyE := ⟨.struct #[{ name := "Durable", type := 9, offset := 0, embedded := false, tag := "", pkgPath := "", byteOffset := 0 }, { name := "Pending", type := 9, offset := 1, embedded := false, tag := "", pkgPath := "", byteOffset := 16 }, { name := "Count", type := 3, offset := 2, embedded := false, tag := "", pkgPath := "", byteOffset := 32 }], 3, 40, .agg #[.string ByteArray.empty, .string ByteArray.empty, .int .i64 0], true⟩
abbrev tyE38 : TyE := ⟨.struct #[{ name := "Timetable", type := 35, offset := 0, embedded := false, tag := "", pkgPath := "", byteOffset := 0 }, { name := "Change", type := 3, offset := 3, embedded := false, tag := "", pkgPath := "", byteOffset := 72 }, { name := "Log", type := 37, offset := 4, embedded := false, tag := "", pkgPath := "", byteOffset := 80 }], 7, 120, .agg #[.slice none 0 0, .slice none 0 0, .slice none 0 0, .int .i64 0, .string ByteArray.empty, .string ByteArray.empty, .int .i64 0], false⟩
abbrev tyE39 : TyE := ⟨.struct #[{ name := "Timetable", type := 35, offset := 0, embedded := false, tag := "", pkgPath := "", byteOffset := 0 }, { name := "Change", type := 3, offset := 3, embedded := false, tag := "", pkgPath := "", byteOffset := 72 }, { name := "Log", type := 37, offset := 4, embedded := false, tag := "", pkgPath := "", byteOffset := 80 }], 7, 120, .agg #[.slice none 0 0, .slice none 0 0, .slice none 0 0, .int .i64 0, .string ByteArray.empty, .string ByteArray.empty, .int .i64 0], true⟩
abbrev tyE48 : TyE := ⟨.slice 5, 1, 24, .slice none 0 0, false⟩
abbrev tyE50 : TyE := ⟨.slice 58, 1, 24, .slice none 0 0, false⟩
abbrev tyE53 : TyE := ⟨.slice 3, 1, 24, .slice none 0 0, false⟩
abbrev tyE57 : TyE := ⟨.struct #[{ name := "Line", type := 3, offset := 0, embedded := false, tag := "", pkgPath := "", byteOffset := 0 }, { name := "Offset", type := 3, offset := 1, embedded := false, tag := "", pkgPath := "", byteOffset := 8 }], 2, 16, .agg #[.int .i64 0, .int .i64 0], false⟩
abbrev tyE58 : TyE := ⟨.struct #[{ name := "Line", type := 3, offset := 0, embedded := false, tag := "", pkgPath := "", byteOffset := 0 }, { name := "Offset", type := 3, offset := 1, embedded := false, tag := "", pkgPath := "", byteOffset := 8 }], 2, 16, .agg #[.int .i64 0, .int .i64 0], true⟩
abbrev tyE72 : TyE := ⟨.slice 82, 1, 24, .slice none 0 0, false⟩
abbrev tyE75 : TyE := ⟨.slice 53, 1, 24, .slice none 0 0, false⟩
abbrev tyE81 : TyE := ⟨.struct #[{ name := "From", type := 3, offset := 0, embedded := false, tag := "", pkgPath := "", byteOffset := 0 }, { name := "To", type := 3, offset := 1, embedded := false, tag := "", pkgPath := "", byteOffset := 8 }, { name := "Time", type := 3, offset := 2, embedded := false, tag := "", pkgPath := "", byteOffset := 16 }, { name := "Persons", type := 3, offset := 3, embedded := false, tag := "", pkgPath := "", byteOffset := 24 }], 4, 32, .agg #[.int .i64 0, .int .i64 0, .int .i64 0, .int .i64 0], false⟩
abbrev tyE82 : TyE := ⟨.struct #[{ name := "From", type := 3, offset := 0, embedded := false, tag := "", pkgPath := "", byteOffset := 0 }, { name := "To", type := 3, offset := 1, embedded := false, tag := "", pkgPath := "", byteOffset := 8 }, { name := "Time", type := 3, offset := 2, embedded := false, tag := "", pkgPath := "", byteOffset := 16 }, { name := "Persons", type := 3, offset := 3, embedded := false, tag := "", pkgPath := "", byteOffset := 24 }], 4, 32, .agg #[.int .i64 0, .int .i64 0, .int .i64 0, .int .i64 0], true⟩
abbrev tyE98 : TyE := ⟨.slice 101, 1, 24, .slice none 0 0, false⟩
abbrev tyE101 : TyE := ⟨.slice 104, 1, 24, .slice none 0 0, false⟩
abbrev tyE103 : TyE := ⟨.struct #[{ name := "Trip", type := 3, offset := 0, embedded := false, tag := "", pkgPath := "", byteOffset := 0 }, { name := "From", type := 3, offset := 1, embedded := false, tag := "", pkgPath := "", byteOffset := 8 }, { name := "To", type := 3, offset := 2, embedded := false, tag := "", pkgPath := "", byteOffset := 16 }, { name := "Depart", type := 3, offset := 3, embedded := false, tag := "", pkgPath := "", byteOffset := 24 }, { name := "Arrive", type := 3, offset := 4, embedded := false, tag := "", pkgPath := "", byteOffset := 32 }], 5, 40, .agg #[.int .i64 0, .int .i64 0, .int .i64 0, .int .i64 0, .int .i64 0], false⟩
abbrev tyE104 : TyE := ⟨.struct #[{ name := "Trip", type := 3, offset := 0, embedded := false, tag := "", pkgPath := "", byteOffset := 0 }, { name := "From", type := 3, offset := 1, embedded := false, tag := "", pkgPath := "", byteOffset := 8 }, { name := "To", type := 3, offset := 2, embedded := false, tag := "", pkgPath := "", byteOffset := 16 }, { name := "Depart", type := 3, offset := 3, embedded := false, tag := "", pkgPath := "", byteOffset := 24 }, { name := "Arrive", type := 3, offset := 4, embedded := false, tag := "", pkgPath := "", byteOffset := 32 }], 5, 40, .agg #[.int .i64 0, .int .i64 0, .int .i64 0, .int .i64 0, .int .i64 0], true⟩
abbrev tyE108 : TyE := ⟨.slice 112, 1, 24, .slice none 0 0, false⟩
abbrev tyE111 : TyE := ⟨.struct #[{ name := "Depart", type := 3, offset := 0, embedded := false, tag := "", pkgPath := "", byteOffset := 0 }, { name := "Arrive", type := 3, offset := 1, embedded := false, tag := "", pkgPath := "", byteOffset := 8 }, { name := "Legs", type := 3, offset := 2, embedded := false, tag := "", pkgPath := "", byteOffset := 16 }], 3, 24, .agg #[.int .i64 0, .int .i64 0, .int .i64 0], false⟩
abbrev tyE112 : TyE := ⟨.struct #[{ name := "Depart", type := 3, offset := 0, embedded := false, tag := "", pkgPath := "", byteOffset := 0 }, { name := "Arrive", type := 3, offset := 1, embedded := false, tag := "", pkgPath := "", byteOffset := 8 }, { name := "Legs", type := 3, offset := 2, embedded := false, tag := "", pkgPath := "", byteOffset := 16 }], 3, 24, .agg #[.int .i64 0, .int .i64 0, .int .i64 0], true⟩
abbrev tyE126 : TyE := ⟨.pointer 129, 1, 8, .pointer none, false⟩
abbrev tyE127 : TyE := ⟨.int .u64, 1, 8, .int .u64 0, false⟩
abbrev tyE128 : TyE := ⟨.struct #[{ name := "code", type := 48, offset := 0, embedded := false, tag := "", pkgPath := "loop.example/g00900/spec", byteOffset := 0 }, { name := "at", type := 3, offset := 1, embedded := false, tag := "", pkgPath := "loop.example/g00900/spec", byteOffset := 24 }, { name := "seed", type := 127, offset := 2, embedded := false, tag := "", pkgPath := "loop.example/g00900/spec", byteOffset := 32 }], 3, 40, .agg #[.slice none 0 0, .int .i64 0, .int .u64 0], true⟩
abbrev tyE129 : TyE := ⟨.struct #[{ name := "code", type := 48, offset := 0, embedded := false, tag := "", pkgPath := "loop.example/g00900/spec", byteOffset := 0 }, { name := "at", type := 3, offset := 1, embedded := false, tag := "", pkgPath := "loop.example/g00900/spec", byteOffset := 24 }, { name := "seed", type := 127, offset := 2, embedded := false, tag := "", pkgPath := "loop.example/g00900/spec", byteOffset := 32 }], 3, 40, .agg #[.slice none 0 0, .int .i64 0, .int .u64 0], true⟩
abbrev tyE145 : TyE := ⟨.struct #[{ name := "Name", type := 9, offset := 0, embedded := false, tag := "", pkgPath := "", byteOffset := 0 }, { name := "Stops", type := 53, offset := 1, embedded := false, tag := "", pkgPath := "", byteOffset := 16 }, { name := "Runs", type := 53, offset := 2, embedded := false, tag := "", pkgPath := "", byteOffset := 40 }], 3, 64, .agg #[.string ByteArray.empty, .slice none 0 0, .slice none 0 0], false⟩
abbrev tyE146 : TyE := ⟨.struct #[{ name := "Name", type := 9, offset := 0, embedded := false, tag := "", pkgPath := "", byteOffset := 0 }, { name := "Stops", type := 53, offset := 1, embedded := false, tag := "", pkgPath := "", byteOffset := 16 }, { name := "Runs", type := 53, offset := 2, embedded := false, tag := "", pkgPath := "", byteOffset := 40 }], 3, 64, .agg #[.string ByteArray.empty, .slice none 0 0, .slice none 0 0], true⟩
abbrev tyE154 : TyE := ⟨.slice 164, 1, 24, .slice none 0 0, false⟩
abbrev tyE155 : TyE := ⟨.struct #[{ name := "list", type := 154, offset := 0, embedded := false, tag := "", pkgPath := "loop.example/g00900/impl", byteOffset := 0 }, { name := "loads", type := 75, offset := 1, embedded := false, tag := "", pkgPath := "loop.example/g00900/impl", byteOffset := 24 }, { name := "left", type := 53, offset := 2, embedded := false, tag := "", pkgPath := "loop.example/g00900/impl", byteOffset := 48 }], 3, 72, .agg #[.slice none 0 0, .slice none 0 0, .slice none 0 0], true⟩
abbrev tyE156 : TyE := ⟨.struct #[{ name := "list", type := 154, offset := 0, embedded := false, tag := "", pkgPath := "loop.example/g00900/impl", byteOffset := 0 }, { name := "loads", type := 75, offset := 1, embedded := false, tag := "", pkgPath := "loop.example/g00900/impl", byteOffset := 24 }, { name := "left", type := 53, offset := 2, embedded := false, tag := "", pkgPath := "loop.example/g00900/impl", byteOffset := 48 }], 3, 72, .agg #[.slice none 0 0, .slice none 0 0, .slice none 0 0], true⟩
abbrev tyE158 : TyE := ⟨.struct #[{ name := "loads", type := 75, offset := 0, embedded := false, tag := "", pkgPath := "loop.example/g00900/spec", byteOffset := 0 }, { name := "left", type := 53, offset := 1, embedded := false, tag := "", pkgPath := "loop.example/g00900/spec", byteOffset := 24 }, { name := "minutes", type := 3, offset := 2, embedded := false, tag := "", pkgPath := "loop.example/g00900/spec", byteOffset := 48 }, { name := "persons", type := 3, offset := 3, embedded := false, tag := "", pkgPath := "loop.example/g00900/spec", byteOffset := 56 }, { name := "on", type := 53, offset := 4, embedded := false, tag := "", pkgPath := "loop.example/g00900/spec", byteOffset := 64 }, { name := "off", type := 53, offset := 5, embedded := false, tag := "", pkgPath := "loop.example/g00900/spec", byteOffset := 88 }], 6, 112, .agg #[.slice none 0 0, .slice none 0 0, .int .i64 0, .int .i64 0, .slice none 0 0, .slice none 0 0], true⟩
abbrev tyE159 : TyE := ⟨.struct #[{ name := "loads", type := 75, offset := 0, embedded := false, tag := "", pkgPath := "loop.example/g00900/spec", byteOffset := 0 }, { name := "left", type := 53, offset := 1, embedded := false, tag := "", pkgPath := "loop.example/g00900/spec", byteOffset := 24 }, { name := "minutes", type := 3, offset := 2, embedded := false, tag := "", pkgPath := "loop.example/g00900/spec", byteOffset := 48 }, { name := "persons", type := 3, offset := 3, embedded := false, tag := "", pkgPath := "loop.example/g00900/spec", byteOffset := 56 }, { name := "on", type := 53, offset := 4, embedded := false, tag := "", pkgPath := "loop.example/g00900/spec", byteOffset := 64 }, { name := "off", type := 53, offset := 5, embedded := false, tag := "", pkgPath := "loop.example/g00900/spec", byteOffset := 88 }], 6, 112, .agg #[.slice none 0 0, .slice none 0 0, .int .i64 0, .int .i64 0, .slice none 0 0, .slice none 0 0], true⟩
abbrev tyE161 : TyE := ⟨.struct #[{ name := "trip", type := 3, offset := 0, embedded := false, tag := "", pkgPath := "loop.example/g00900/impl", byteOffset := 0 }, { name := "from", type := 3, offset := 1, embedded := false, tag := "", pkgPath := "loop.example/g00900/impl", byteOffset := 8 }, { name := "to", type := 3, offset := 2, embedded := false, tag := "", pkgPath := "loop.example/g00900/impl", byteOffset := 16 }, { name := "arrive", type := 3, offset := 3, embedded := false, tag := "", pkgPath := "loop.example/g00900/impl", byteOffset := 24 }], 4, 32, .agg #[.int .i64 0, .int .i64 0, .int .i64 0, .int .i64 0], true⟩
abbrev tyE162 : TyE := ⟨.struct #[{ name := "trip", type := 3, offset := 0, embedded := false, tag := "", pkgPath := "loop.example/g00900/impl", byteOffset := 0 }, { name := "from", type := 3, offset := 1, embedded := false, tag := "", pkgPath := "loop.example/g00900/impl", byteOffset := 8 }, { name := "to", type := 3, offset := 2, embedded := false, tag := "", pkgPath := "loop.example/g00900/impl", byteOffset := 16 }, { name := "arrive", type := 3, offset := 3, embedded := false, tag := "", pkgPath := "loop.example/g00900/impl", byteOffset := 24 }], 4, 32, .agg #[.int .i64 0, .int .i64 0, .int .i64 0, .int .i64 0], true⟩
abbrev tyE163 : TyE := ⟨.struct #[{ name := "flow", type := 3, offset := 0, embedded := false, tag := "", pkgPath := "loop.example/g00900/impl", byteOffset := 0 }, { name := "service", type := 162, offset := 1, embedded := false, tag := "", pkgPath := "loop.example/g00900/impl", byteOffset := 8 }, { name := "persons", type := 3, offset := 5, embedded := false, tag := "", pkgPath := "loop.example/g00900/impl", byteOffset := 40 }], 6, 48, .agg #[.int .i64 0, .int .i64 0, .int .i64 0, .int .i64 0, .int .i64 0, .int .i64 0], true⟩
abbrev tyE164 : TyE := ⟨.struct #[{ name := "flow", type := 3, offset := 0, embedded := false, tag := "", pkgPath := "loop.example/g00900/impl", byteOffset := 0 }, { name := "service", type := 162, offset := 1, embedded := false, tag := "", pkgPath := "loop.example/g00900/impl", byteOffset := 8 }, { name := "persons", type := 3, offset := 5, embedded := false, tag := "", pkgPath := "loop.example/g00900/impl", byteOffset := 40 }], 6, 48, .agg #[.int .i64 0, .int .i64 0, .int .i64 0, .int .i64 0, .int .i64 0, .int .i64 0], true⟩
abbrev tyE166 : TyE := ⟨.struct #[{ name := "Id", type := 3, offset := 0, embedded := false, tag := "", pkgPath := "", byteOffset := 0 }, { name := "Line", type := 3, offset := 1, embedded := false, tag := "", pkgPath := "", byteOffset := 8 }, { name := "Start", type := 3, offset := 2, embedded := false, tag := "", pkgPath := "", byteOffset := 16 }], 3, 24, .agg #[.int .i64 0, .int .i64 0, .int .i64 0], false⟩
abbrev tyE167 : TyE := ⟨.struct #[{ name := "Id", type := 3, offset := 0, embedded := false, tag := "", pkgPath := "", byteOffset := 0 }, { name := "Line", type := 3, offset := 1, embedded := false, tag := "", pkgPath := "", byteOffset := 8 }, { name := "Start", type := 3, offset := 2, embedded := false, tag := "", pkgPath := "", byteOffset := 16 }], 3, 24, .agg #[.int .i64 0, .int .i64 0, .int .i64 0], true⟩
abbrev tyE173 : TyE := ⟨.slice 162, 1, 24, .slice none 0 0, false⟩
abbrev tyE192 : TyE := ⟨.struct #[{ name := "Id", type := 3, offset := 0, embedded := false, tag := "", pkgPath := "", byteOffset := 0 }, { name := "Line", type := 3, offset := 1, embedded := false, tag := "", pkgPath := "", byteOffset := 8 }, { name := "Start", type := 3, offset := 2, embedded := false, tag := "", pkgPath := "", byteOffset := 16 }], 3, 24, .agg #[.int .i64 0, .int .i64 0, .int .i64 0], true⟩
abbrev tyE213 : TyE := ⟨.pointer 215, 1, 8, .pointer none, false⟩
abbrev tyE214 : TyE := ⟨.struct #[{ name := "t", type := 35, offset := 0, embedded := false, tag := "", pkgPath := "loop.example/g00900/spec", byteOffset := 0 }, { name := "change", type := 3, offset := 3, embedded := false, tag := "", pkgPath := "loop.example/g00900/spec", byteOffset := 72 }, { name := "to", type := 3, offset := 4, embedded := false, tag := "", pkgPath := "loop.example/g00900/spec", byteOffset := 80 }, { name := "arrive", type := 3, offset := 5, embedded := false, tag := "", pkgPath := "loop.example/g00900/spec", byteOffset := 88 }], 6, 96, .agg #[.slice none 0 0, .slice none 0 0, .slice none 0 0, .int .i64 0, .int .i64 0, .int .i64 0], true⟩
abbrev tyE215 : TyE := ⟨.struct #[{ name := "t", type := 35, offset := 0, embedded := false, tag := "", pkgPath := "loop.example/g00900/spec", byteOffset := 0 }, { name := "change", type := 3, offset := 3, embedded := false, tag := "", pkgPath := "loop.example/g00900/spec", byteOffset := 72 }, { name := "to", type := 3, offset := 4, embedded := false, tag := "", pkgPath := "loop.example/g00900/spec", byteOffset := 80 }, { name := "arrive", type := 3, offset := 5, embedded := false, tag := "", pkgPath := "loop.example/g00900/spec", byteOffset := 88 }], 6, 96, .agg #[.slice none 0 0, .slice none 0 0, .slice none 0 0, .int .i64 0, .int .i64 0, .int .i64 0], true⟩
abbrev tyE225 : TyE := ⟨.struct #[{ name := "Name", type := 9, offset := 0, embedded := false, tag := "", pkgPath := "", byteOffset := 0 }, { name := "Stops", type := 53, offset := 1, embedded := false, tag := "", pkgPath := "", byteOffset := 16 }, { name := "Runs", type := 53, offset := 2, embedded := false, tag := "", pkgPath := "", byteOffset := 40 }], 3, 64, .agg #[.string ByteArray.empty, .slice none 0 0, .slice none 0 0], true⟩
abbrev tyE241 : TyE := ⟨.int .u64, 1, 8, .int .u64 0, false⟩
abbrev tyE254 : TyE := ⟨.int .i64, 1, 8, .int .i64 0, false⟩
abbrev tyE262 : TyE := ⟨.int .u32, 1, 4, .int .u32 0, false⟩
abbrev tyE266 : TyE := ⟨.int .u64, 1, 8, .int .u64 0, false⟩
abbrev tyE270 : TyE := ⟨.pointer 3, 1, 8, .pointer none, false⟩
abbrev tyE272 : TyE := ⟨.pointer 266, 1, 8, .pointer none, false⟩
abbrev tyE275 : TyE := ⟨.struct #[{ name := "_interface", type := 17, offset := 0, embedded := false, tag := "", pkgPath := "runtime", byteOffset := 0 }, { name := "concrete", type := 17, offset := 1, embedded := false, tag := "", pkgPath := "runtime", byteOffset := 8 }, { name := "asserted", type := 17, offset := 2, embedded := false, tag := "", pkgPath := "runtime", byteOffset := 16 }, { name := "missingMethod", type := 9, offset := 3, embedded := false, tag := "", pkgPath := "runtime", byteOffset := 24 }], 4, 40, .agg #[.pointer none, .pointer none, .pointer none, .string ByteArray.empty], false⟩
abbrev tyE278 : TyE := ⟨.struct #[{ name := "_", type := 277, offset := 0, embedded := false, tag := "", pkgPath := "runtime", byteOffset := 0 }], 0, 0, .agg #[], false⟩
abbrev tyE283 : TyE := ⟨.pointer 5, 1, 8, .pointer none, false⟩
abbrev tyE286 : TyE := ⟨.struct #[{ name := "Size_", type := 12, offset := 0, embedded := false, tag := "", pkgPath := "", byteOffset := 0 }, { name := "PtrBytes", type := 12, offset := 1, embedded := false, tag := "", pkgPath := "", byteOffset := 8 }, { name := "Hash", type := 262, offset := 2, embedded := false, tag := "", pkgPath := "", byteOffset := 16 }, { name := "TFlag", type := 280, offset := 3, embedded := false, tag := "", pkgPath := "", byteOffset := 20 }, { name := "Align_", type := 5, offset := 4, embedded := false, tag := "", pkgPath := "", byteOffset := 21 }, { name := "FieldAlign_", type := 5, offset := 5, embedded := false, tag := "", pkgPath := "", byteOffset := 22 }, { name := "Kind_", type := 281, offset := 6, embedded := false, tag := "", pkgPath := "", byteOffset := 23 }, { name := "Equal", type := 282, offset := 7, embedded := false, tag := "", pkgPath := "", byteOffset := 24 }, { name := "GCData", type := 283, offset := 8, embedded := false, tag := "", pkgPath := "", byteOffset := 32 }, { name := "Str", type := 284, offset := 9, embedded := false, tag := "", pkgPath := "", byteOffset := 40 }, { name := "PtrToThis", type := 285, offset := 10, embedded := false, tag := "", pkgPath := "", byteOffset := 44 }], 11, 48, .agg #[.int .u64 0, .int .u64 0, .int .u32 0, .int .u8 0, .int .u8 0, .int .u8 0, .int .u8 0, .nilFunc, .pointer none, .int .i32 0, .int .i32 0], false⟩
abbrev tyE288 : TyE := ⟨.unsafePointer, 1, 8, .pointer none, false⟩
def tyL : List (Nat × TyE) := [(2, tyE2), (3, tyE3), (4, tyE4), (5, tyE5), (7, tyE7), (9, tyE9), (12, tyE12), (13, tyE13), (15, tyE15), (16, tyE16), (17, tyE17), (18, tyE18), (21, tyE21), (22, tyE22), (23, tyE23), (24, tyE24), (25, tyE25), (26, tyE26), (27, tyE27), (28, tyE28), (30, tyE30), (31, tyE31), (32, tyE32), (33, tyE33), (34, tyE34), (35, tyE35), (36, tyE36), (37, tyE37), (38, tyE38), (39, tyE39), (48, tyE48), (50, tyE50), (53, tyE53), (57, tyE57), (58, tyE58), (72, tyE72), (75, tyE75), (81, tyE81), (82, tyE82), (98, tyE98), (101, tyE101), (103, tyE103), (104, tyE104), (108, tyE108), (111, tyE111), (112, tyE112), (126, tyE126), (127, tyE127), (128, tyE128), (129, tyE129), (145, tyE145), (146, tyE146), (154, tyE154), (155, tyE155), (156, tyE156), (158, tyE158), (159, tyE159), (161, tyE161), (162, tyE162), (163, tyE163), (164, tyE164), (166, tyE166), (167, tyE167), (173, tyE173), (192, tyE192), (213, tyE213), (214, tyE214), (215, tyE215), (225, tyE225), (241, tyE241), (254, tyE254), (262, tyE262), (266, tyE266), (270, tyE270), (272, tyE272), (275, tyE275), (278, tyE278), (283, tyE283), (286, tyE286), (288, tyE288)]
def ty (t : TypeId) : Option TyE := lookT t tyL
@[simp] theorem ty_2 : ty 2 = some tyE2 := rfl
@[simp] theorem ty_3 : ty 3 = some tyE3 := rfl
@[simp] theorem ty_4 : ty 4 = some tyE4 := rfl
@[simp] theorem ty_5 : ty 5 = some tyE5 := rfl
@[simp] theorem ty_7 : ty 7 = some tyE7 := rfl
@[simp] theorem ty_9 : ty 9 = some tyE9 := rfl
@[simp] theorem ty_12 : ty 12 = some tyE12 := rfl
@[simp] theorem ty_13 : ty 13 = some tyE13 := rfl
@[simp] theorem ty_15 : ty 15 = some tyE15 := rfl
@[simp] theorem ty_16 : ty 16 = some tyE16 := rfl
@[simp] theorem ty_17 : ty 17 = some tyE17 := rfl
@[simp] theorem ty_18 : ty 18 = some tyE18 := rfl
@[simp] theorem ty_21 : ty 21 = some tyE21 := rfl
@[simp] theorem ty_22 : ty 22 = some tyE22 := rfl
@[simp] theorem ty_23 : ty 23 = some tyE23 := rfl
@[simp] theorem ty_24 : ty 24 = some tyE24 := rfl
@[simp] theorem ty_25 : ty 25 = some tyE25 := rfl
@[simp] theorem ty_26 : ty 26 = some tyE26 := rfl
@[simp] theorem ty_27 : ty 27 = some tyE27 := rfl
@[simp] theorem ty_28 : ty 28 = some tyE28 := rfl
@[simp] theorem ty_30 : ty 30 = some tyE30 := rfl
@[simp] theorem ty_31 : ty 31 = some tyE31 := rfl
@[simp] theorem ty_32 : ty 32 = some tyE32 := rfl
@[simp] theorem ty_33 : ty 33 = some tyE33 := rfl
@[simp] theorem ty_34 : ty 34 = some tyE34 := rfl
@[simp] theorem ty_35 : ty 35 = some tyE35 := rfl
@[simp] theorem ty_36 : ty 36 = some tyE36 := rfl
@[simp] theorem ty_37 : ty 37 = some tyE37 := rfl
@[simp] theorem ty_38 : ty 38 = some tyE38 := rfl
@[simp] theorem ty_39 : ty 39 = some tyE39 := rfl
@[simp] theorem ty_48 : ty 48 = some tyE48 := rfl
@[simp] theorem ty_50 : ty 50 = some tyE50 := rfl
@[simp] theorem ty_53 : ty 53 = some tyE53 := rfl
@[simp] theorem ty_57 : ty 57 = some tyE57 := rfl
@[simp] theorem ty_58 : ty 58 = some tyE58 := rfl
@[simp] theorem ty_72 : ty 72 = some tyE72 := rfl
@[simp] theorem ty_75 : ty 75 = some tyE75 := rfl
@[simp] theorem ty_81 : ty 81 = some tyE81 := rfl
@[simp] theorem ty_82 : ty 82 = some tyE82 := rfl
@[simp] theorem ty_98 : ty 98 = some tyE98 := rfl
@[simp] theorem ty_101 : ty 101 = some tyE101 := rfl
@[simp] theorem ty_103 : ty 103 = some tyE103 := rfl
@[simp] theorem ty_104 : ty 104 = some tyE104 := rfl
@[simp] theorem ty_108 : ty 108 = some tyE108 := rfl
@[simp] theorem ty_111 : ty 111 = some tyE111 := rfl
@[simp] theorem ty_112 : ty 112 = some tyE112 := rfl
@[simp] theorem ty_126 : ty 126 = some tyE126 := rfl
@[simp] theorem ty_127 : ty 127 = some tyE127 := rfl
@[simp] theorem ty_128 : ty 128 = some tyE128 := rfl
@[simp] theorem ty_129 : ty 129 = some tyE129 := rfl
@[simp] theorem ty_145 : ty 145 = some tyE145 := rfl
@[simp] theorem ty_146 : ty 146 = some tyE146 := rfl
@[simp] theorem ty_154 : ty 154 = some tyE154 := rfl
@[simp] theorem ty_155 : ty 155 = some tyE155 := rfl
@[simp] theorem ty_156 : ty 156 = some tyE156 := rfl
@[simp] theorem ty_158 : ty 158 = some tyE158 := rfl
@[simp] theorem ty_159 : ty 159 = some tyE159 := rfl
@[simp] theorem ty_161 : ty 161 = some tyE161 := rfl
@[simp] theorem ty_162 : ty 162 = some tyE162 := rfl
@[simp] theorem ty_163 : ty 163 = some tyE163 := rfl
@[simp] theorem ty_164 : ty 164 = some tyE164 := rfl
@[simp] theorem ty_166 : ty 166 = some tyE166 := rfl
@[simp] theorem ty_167 : ty 167 = some tyE167 := rfl
@[simp] theorem ty_173 : ty 173 = some tyE173 := rfl
@[simp] theorem ty_192 : ty 192 = some tyE192 := rfl
@[simp] theorem ty_213 : ty 213 = some tyE213 := rfl
@[simp] theorem ty_214 : ty 214 = some tyE214 := rfl
@[simp] theorem ty_215 : ty 215 = some tyE215 := rfl
@[simp] theorem ty_225 : ty 225 = some tyE225 := rfl
@[simp] theorem ty_241 : ty 241 = some tyE241 := rfl
@[simp] theorem ty_254 : ty 254 = some tyE254 := rfl
@[simp] theorem ty_262 : ty 262 = some tyE262 := rfl
@[simp] theorem ty_266 : ty 266 = some tyE266 := rfl
@[simp] theorem ty_270 : ty 270 = some tyE270 := rfl
@[simp] theorem ty_272 : ty 272 = some tyE272 := rfl
@[simp] theorem ty_275 : ty 275 = some tyE275 := rfl
@[simp] theorem ty_278 : ty 278 = some tyE278 := rfl
@[simp] theorem ty_283 : ty 283 = some tyE283 := rfl
@[simp] theorem ty_286 : ty 286 = some tyE286 := rfl
@[simp] theorem ty_288 : ty 288 = some tyE288 := rfl
theorem tyOK_2 : TyOK Try.prog 2 tyE2 := ⟨Try.underlying2, Try.t2, Try.type2, rfl, rfl, rfl, fun h => by cases h⟩
theorem tyOK_3 : TyOK Try.prog 3 tyE3 := ⟨Try.underlying3, Try.t3, Try.type3, rfl, rfl, rfl, fun h => by cases h⟩
theorem tyOK_4 : TyOK Try.prog 4 tyE4 := ⟨Try.underlying4, Try.t4, Try.type4, rfl, rfl, rfl, fun h => by cases h⟩
theorem tyOK_5 : TyOK Try.prog 5 tyE5 := ⟨Try.underlying5, Try.t5, Try.type5, rfl, rfl, rfl, fun h => by cases h⟩
theorem tyOK_7 : TyOK Try.prog 7 tyE7 := ⟨Try.underlying7, Try.t7, Try.type7, rfl, rfl, rfl, fun h => by cases h⟩
theorem tyOK_9 : TyOK Try.prog 9 tyE9 := ⟨Try.underlying9, Try.t9, Try.type9, rfl, rfl, rfl, fun h => by cases h⟩
theorem tyOK_12 : TyOK Try.prog 12 tyE12 := ⟨Try.underlying12, Try.t12, Try.type12, rfl, rfl, rfl, fun h => by cases h⟩
theorem tyOK_13 : TyOK Try.prog 13 tyE13 := ⟨Try.underlying13, Try.t13, Try.type13, rfl, rfl, rfl, fun h => by cases h⟩
theorem tyOK_15 : TyOK Try.prog 15 tyE15 := ⟨Try.underlying15, Try.t15, Try.type15, rfl, rfl, rfl, fun h => by cases h⟩
theorem tyOK_16 : TyOK Try.prog 16 tyE16 := ⟨Try.underlying16, Try.t16, Try.type16, rfl, rfl, rfl, fun h => by cases h⟩
theorem tyOK_17 : TyOK Try.prog 17 tyE17 := ⟨Try.underlying17, Try.t17, Try.type17, rfl, rfl, rfl, fun h => by cases h⟩
theorem tyOK_18 : TyOK Try.prog 18 tyE18 := ⟨Try.underlying18, Try.t18, Try.type18, rfl, rfl, rfl, fun h => by cases h⟩
theorem tyOK_21 : TyOK Try.prog 21 tyE21 := ⟨Try.underlying21, Try.t21, Try.type21, rfl, rfl, rfl, fun h => by cases h⟩
theorem tyOK_22 : TyOK Try.prog 22 tyE22 := ⟨Try.underlying22, Try.t22, Try.type22, rfl, rfl, rfl, fun h => by cases h⟩
theorem tyOK_23 : TyOK Try.prog 23 tyE23 := ⟨Try.underlying23, Try.t23, Try.type23, rfl, rfl, rfl, fun h => by cases h⟩
theorem tyOK_24 : TyOK Try.prog 24 tyE24 := ⟨Try.underlying24, Try.t24, Try.type24, rfl, rfl, rfl, fun h => by cases h⟩
theorem tyOK_25 : TyOK Try.prog 25 tyE25 := ⟨Try.underlying25, Try.t25, Try.type25, rfl, rfl, rfl, fun _ => ⟨by kernel_rfl, by kernel_rfl, by rintro _ ⟨⟩; rfl⟩⟩
theorem tyOK_26 : TyOK Try.prog 26 tyE26 := ⟨Try.underlying26, Try.t26, Try.type26, rfl, rfl, rfl, fun h => by cases h⟩
theorem tyOK_27 : TyOK Try.prog 27 tyE27 := ⟨Try.underlying27, Try.t27, Try.type27, rfl, rfl, rfl, fun h => by cases h⟩
theorem tyOK_28 : TyOK Try.prog 28 tyE28 := ⟨Try.underlying28, Try.t28, Try.type28, rfl, rfl, rfl, fun _ => ⟨by kernel_rfl, by kernel_rfl, by rintro _ ⟨⟩; rfl⟩⟩
theorem tyOK_30 : TyOK Try.prog 30 tyE30 := ⟨Try.underlying30, Try.t30, Try.type30, rfl, rfl, rfl, fun h => by cases h⟩
theorem tyOK_31 : TyOK Try.prog 31 tyE31 := ⟨Try.underlying31, Try.t31, Try.type31, rfl, rfl, rfl, fun h => by cases h⟩
theorem tyOK_32 : TyOK Try.prog 32 tyE32 := ⟨Try.underlying32, Try.t32, Try.type32, rfl, rfl, rfl, fun _ => ⟨by kernel_rfl, by kernel_rfl, by rintro _ ⟨⟩; rfl⟩⟩
theorem tyOK_33 : TyOK Try.prog 33 tyE33 := ⟨Try.underlying33, Try.t33, Try.type33, rfl, rfl, rfl, fun h => by cases h⟩
theorem tyOK_34 : TyOK Try.prog 34 tyE34 := ⟨Try.underlying34, Try.t34, Try.type34, rfl, rfl, rfl, fun h => by cases h⟩
theorem tyOK_35 : TyOK Try.prog 35 tyE35 := ⟨Try.underlying35, Try.t35, Try.type35, rfl, rfl, rfl, fun _ => ⟨by kernel_rfl, by kernel_rfl, by rintro _ ⟨⟩; rfl⟩⟩
theorem tyOK_36 : TyOK Try.prog 36 tyE36 := ⟨Try.underlying36, Try.t36, Try.type36, rfl, rfl, rfl, fun h => by cases h⟩
theorem tyOK_37 : TyOK Try.prog 37 tyE37 := ⟨Try.underlying37, Try.t37, Try.type37, rfl, rfl, rfl, fun _ => ⟨by kernel_rfl, by kernel_rfl, by rintro _ ⟨⟩; rfl⟩⟩
theorem tyOK_38 : TyOK Try.prog 38 tyE38 := ⟨Try.underlying38, Try.t38, Try.type38, rfl, rfl, rfl, fun h => by cases h⟩
theorem tyOK_39 : TyOK Try.prog 39 tyE39 := ⟨Try.underlying39, Try.t39, Try.type39, rfl, rfl, rfl, fun _ => ⟨by kernel_rfl, by kernel_rfl, by rintro _ ⟨⟩; rfl⟩⟩
theorem tyOK_48 : TyOK Try.prog 48 tyE48 := ⟨Try.underlying48, Try.t48, Try.type48, rfl, rfl, rfl, fun h => by cases h⟩
theorem tyOK_50 : TyOK Try.prog 50 tyE50 := ⟨Try.underlying50, Try.t50, Try.type50, rfl, rfl, rfl, fun h => by cases h⟩
theorem tyOK_53 : TyOK Try.prog 53 tyE53 := ⟨Try.underlying53, Try.t53, Try.type53, rfl, rfl, rfl, fun h => by cases h⟩
theorem tyOK_57 : TyOK Try.prog 57 tyE57 := ⟨Try.underlying57, Try.t57, Try.type57, rfl, rfl, rfl, fun h => by cases h⟩
theorem tyOK_58 : TyOK Try.prog 58 tyE58 := ⟨Try.underlying58, Try.t58, Try.type58, rfl, rfl, rfl, fun _ => ⟨by kernel_rfl, by kernel_rfl, by rintro _ ⟨⟩; rfl⟩⟩
theorem tyOK_72 : TyOK Try.prog 72 tyE72 := ⟨Try.underlying72, Try.t72, Try.type72, rfl, rfl, rfl, fun h => by cases h⟩
theorem tyOK_75 : TyOK Try.prog 75 tyE75 := ⟨Try.underlying75, Try.t75, Try.type75, rfl, rfl, rfl, fun h => by cases h⟩
theorem tyOK_81 : TyOK Try.prog 81 tyE81 := ⟨Try.underlying81, Try.t81, Try.type81, rfl, rfl, rfl, fun h => by cases h⟩
theorem tyOK_82 : TyOK Try.prog 82 tyE82 := ⟨Try.underlying82, Try.t82, Try.type82, rfl, rfl, rfl, fun _ => ⟨by kernel_rfl, by kernel_rfl, by rintro _ ⟨⟩; rfl⟩⟩
theorem tyOK_98 : TyOK Try.prog 98 tyE98 := ⟨Try.underlying98, Try.t98, Try.type98, rfl, rfl, rfl, fun h => by cases h⟩
theorem tyOK_101 : TyOK Try.prog 101 tyE101 := ⟨Try.underlying101, Try.t101, Try.type101, rfl, rfl, rfl, fun h => by cases h⟩
theorem tyOK_103 : TyOK Try.prog 103 tyE103 := ⟨Try.underlying103, Try.t103, Try.type103, rfl, rfl, rfl, fun h => by cases h⟩
theorem tyOK_104 : TyOK Try.prog 104 tyE104 := ⟨Try.underlying104, Try.t104, Try.type104, rfl, rfl, rfl, fun _ => ⟨by kernel_rfl, by kernel_rfl, by rintro _ ⟨⟩; rfl⟩⟩
theorem tyOK_108 : TyOK Try.prog 108 tyE108 := ⟨Try.underlying108, Try.t108, Try.type108, rfl, rfl, rfl, fun h => by cases h⟩
theorem tyOK_111 : TyOK Try.prog 111 tyE111 := ⟨Try.underlying111, Try.t111, Try.type111, rfl, rfl, rfl, fun h => by cases h⟩
theorem tyOK_112 : TyOK Try.prog 112 tyE112 := ⟨Try.underlying112, Try.t112, Try.type112, rfl, rfl, rfl, fun _ => ⟨by kernel_rfl, by kernel_rfl, by rintro _ ⟨⟩; rfl⟩⟩
theorem tyOK_126 : TyOK Try.prog 126 tyE126 := ⟨Try.underlying126, Try.t126, Try.type126, rfl, rfl, rfl, fun h => by cases h⟩
theorem tyOK_127 : TyOK Try.prog 127 tyE127 := ⟨Try.underlying127, Try.t127, Try.type127, rfl, rfl, rfl, fun h => by cases h⟩
theorem tyOK_128 : TyOK Try.prog 128 tyE128 := ⟨Try.underlying128, Try.t128, Try.type128, rfl, rfl, rfl, fun _ => ⟨by kernel_rfl, by kernel_rfl, by rintro _ ⟨⟩; rfl⟩⟩
theorem tyOK_129 : TyOK Try.prog 129 tyE129 := ⟨Try.underlying129, Try.t129, Try.type129, rfl, rfl, rfl, fun _ => ⟨by kernel_rfl, by kernel_rfl, by rintro _ ⟨⟩; rfl⟩⟩
theorem tyOK_145 : TyOK Try.prog 145 tyE145 := ⟨Try.underlying145, Try.t145, Try.type145, rfl, rfl, rfl, fun h => by cases h⟩
theorem tyOK_146 : TyOK Try.prog 146 tyE146 := ⟨Try.underlying146, Try.t146, Try.type146, rfl, rfl, rfl, fun _ => ⟨by kernel_rfl, by kernel_rfl, by rintro _ ⟨⟩; rfl⟩⟩
theorem tyOK_154 : TyOK Try.prog 154 tyE154 := ⟨Try.underlying154, Try.t154, Try.type154, rfl, rfl, rfl, fun h => by cases h⟩
theorem tyOK_155 : TyOK Try.prog 155 tyE155 := ⟨Try.underlying155, Try.t155, Try.type155, rfl, rfl, rfl, fun _ => ⟨by kernel_rfl, by kernel_rfl, by rintro _ ⟨⟩; rfl⟩⟩
theorem tyOK_156 : TyOK Try.prog 156 tyE156 := ⟨Try.underlying156, Try.t156, Try.type156, rfl, rfl, rfl, fun _ => ⟨by kernel_rfl, by kernel_rfl, by rintro _ ⟨⟩; rfl⟩⟩
theorem tyOK_158 : TyOK Try.prog 158 tyE158 := ⟨Try.underlying158, Try.t158, Try.type158, rfl, rfl, rfl, fun _ => ⟨by kernel_rfl, by kernel_rfl, by rintro _ ⟨⟩; rfl⟩⟩
theorem tyOK_159 : TyOK Try.prog 159 tyE159 := ⟨Try.underlying159, Try.t159, Try.type159, rfl, rfl, rfl, fun _ => ⟨by kernel_rfl, by kernel_rfl, by rintro _ ⟨⟩; rfl⟩⟩
theorem tyOK_161 : TyOK Try.prog 161 tyE161 := ⟨Try.underlying161, Try.t161, Try.type161, rfl, rfl, rfl, fun _ => ⟨by kernel_rfl, by kernel_rfl, by rintro _ ⟨⟩; rfl⟩⟩
theorem tyOK_162 : TyOK Try.prog 162 tyE162 := ⟨Try.underlying162, Try.t162, Try.type162, rfl, rfl, rfl, fun _ => ⟨by kernel_rfl, by kernel_rfl, by rintro _ ⟨⟩; rfl⟩⟩
theorem tyOK_163 : TyOK Try.prog 163 tyE163 := ⟨Try.underlying163, Try.t163, Try.type163, rfl, rfl, rfl, fun _ => ⟨by kernel_rfl, by kernel_rfl, by rintro _ ⟨⟩; rfl⟩⟩
theorem tyOK_164 : TyOK Try.prog 164 tyE164 := ⟨Try.underlying164, Try.t164, Try.type164, rfl, rfl, rfl, fun _ => ⟨by kernel_rfl, by kernel_rfl, by rintro _ ⟨⟩; rfl⟩⟩
theorem tyOK_166 : TyOK Try.prog 166 tyE166 := ⟨Try.underlying166, Try.t166, Try.type166, rfl, rfl, rfl, fun h => by cases h⟩
theorem tyOK_167 : TyOK Try.prog 167 tyE167 := ⟨Try.underlying167, Try.t167, Try.type167, rfl, rfl, rfl, fun _ => ⟨by kernel_rfl, by kernel_rfl, by rintro _ ⟨⟩; rfl⟩⟩
theorem tyOK_173 : TyOK Try.prog 173 tyE173 := ⟨Try.underlying173, Try.t173, Try.type173, rfl, rfl, rfl, fun h => by cases h⟩
theorem tyOK_192 : TyOK Try.prog 192 tyE192 := ⟨Try.underlying192, Try.t192, Try.type192, rfl, rfl, rfl, fun _ => ⟨by kernel_rfl, by kernel_rfl, by rintro _ ⟨⟩; rfl⟩⟩
theorem tyOK_213 : TyOK Try.prog 213 tyE213 := ⟨Try.underlying213, Try.t213, Try.type213, rfl, rfl, rfl, fun h => by cases h⟩
theorem tyOK_214 : TyOK Try.prog 214 tyE214 := ⟨Try.underlying214, Try.t214, Try.type214, rfl, rfl, rfl, fun _ => ⟨by kernel_rfl, by kernel_rfl, by rintro _ ⟨⟩; rfl⟩⟩
theorem tyOK_215 : TyOK Try.prog 215 tyE215 := ⟨Try.underlying215, Try.t215, Try.type215, rfl, rfl, rfl, fun _ => ⟨by kernel_rfl, by kernel_rfl, by rintro _ ⟨⟩; rfl⟩⟩
theorem tyOK_225 : TyOK Try.prog 225 tyE225 := ⟨Try.underlying225, Try.t225, Try.type225, rfl, rfl, rfl, fun _ => ⟨by kernel_rfl, by kernel_rfl, by rintro _ ⟨⟩; rfl⟩⟩
theorem tyOK_241 : TyOK Try.prog 241 tyE241 := ⟨Try.underlying241, Try.t241, Try.type241, rfl, rfl, rfl, fun h => by cases h⟩
theorem tyOK_254 : TyOK Try.prog 254 tyE254 := ⟨Try.underlying254, Try.t254, Try.type254, rfl, rfl, rfl, fun h => by cases h⟩
theorem tyOK_262 : TyOK Try.prog 262 tyE262 := ⟨Try.underlying262, Try.t262, Try.type262, rfl, rfl, rfl, fun h => by cases h⟩
theorem tyOK_266 : TyOK Try.prog 266 tyE266 := ⟨Try.underlying266, Try.t266, Try.type266, rfl, rfl, rfl, fun h => by cases h⟩
theorem tyOK_270 : TyOK Try.prog 270 tyE270 := ⟨Try.underlying270, Try.t270, Try.type270, rfl, rfl, rfl, fun h => by cases h⟩
theorem tyOK_272 : TyOK Try.prog 272 tyE272 := ⟨Try.underlying272, Try.t272, Try.type272, rfl, rfl, rfl, fun h => by cases h⟩
theorem tyOK_275 : TyOK Try.prog 275 tyE275 := ⟨Try.underlying275, Try.t275, Try.type275, rfl, rfl, rfl, fun h => by cases h⟩
theorem tyOK_278 : TyOK Try.prog 278 tyE278 := ⟨Try.underlying278, Try.t278, Try.type278, rfl, rfl, rfl, fun h => by cases h⟩
theorem tyOK_283 : TyOK Try.prog 283 tyE283 := ⟨Try.underlying283, Try.t283, Try.type283, rfl, rfl, rfl, fun h => by cases h⟩
theorem tyOK_286 : TyOK Try.prog 286 tyE286 := ⟨Try.underlying286, Try.t286, Try.type286, rfl, rfl, rfl, fun h => by cases h⟩
theorem tyOK_288 : TyOK Try.prog 288 tyE288 := ⟨Try.underlying288, Try.t288, Try.type288, rfl, rfl, rfl, fun h => by cases h⟩
theorem ty_ok : ∀ t x, ty t = some x → TyOK Try.prog t x := lookT_ok (allT_cons tyOK_2 (allT_cons tyOK_3 (allT_cons tyOK_4 (allT_cons tyOK_5 (allT_cons tyOK_7 (allT_cons tyOK_9 (allT_cons tyOK_12 (allT_cons tyOK_13 (allT_cons tyOK_15 (allT_cons tyOK_16 (allT_cons tyOK_17 (allT_cons tyOK_18 (allT_cons tyOK_21 (allT_cons tyOK_22 (allT_cons tyOK_23 (allT_cons tyOK_24 (allT_cons tyOK_25 (allT_cons tyOK_26 (allT_cons tyOK_27 (allT_cons tyOK_28 (allT_cons tyOK_30 (allT_cons tyOK_31 (allT_cons tyOK_32 (allT_cons tyOK_33 (allT_cons tyOK_34 (allT_cons tyOK_35 (allT_cons tyOK_36 (allT_cons tyOK_37 (allT_cons tyOK_38 (allT_cons tyOK_39 (allT_cons tyOK_48 (allT_cons tyOK_50 (allT_cons tyOK_53 (allT_cons tyOK_57 (allT_cons tyOK_58 (allT_cons tyOK_72 (allT_cons tyOK_75 (allT_cons tyOK_81 (allT_cons tyOK_82 (allT_cons tyOK_98 (allT_cons tyOK_101 (allT_cons tyOK_103 (allT_cons tyOK_104 (allT_cons tyOK_108 (allT_cons tyOK_111 (allT_cons tyOK_112 (allT_cons tyOK_126 (allT_cons tyOK_127 (allT_cons tyOK_128 (allT_cons tyOK_129 (allT_cons tyOK_145 (allT_cons tyOK_146 (allT_cons tyOK_154 (allT_cons tyOK_155 (allT_cons tyOK_156 (allT_cons tyOK_158 (allT_cons tyOK_159 (allT_cons tyOK_161 (allT_cons tyOK_162 (allT_cons tyOK_163 (allT_cons tyOK_164 (allT_cons tyOK_166 (allT_cons tyOK_167 (allT_cons tyOK_173 (allT_cons tyOK_192 (allT_cons tyOK_213 (allT_cons tyOK_214 (allT_cons tyOK_215 (allT_cons tyOK_225 (allT_cons tyOK_241 (allT_cons tyOK_254 (allT_cons tyOK_262 (allT_cons tyOK_266 (allT_cons tyOK_270 (allT_cons tyOK_272 (allT_cons tyOK_275 (allT_cons tyOK_278 (allT_cons tyOK_283 (allT_cons tyOK_286 (allT_cons tyOK_288 allT_nil))))))))))))))))))))))))))))))))))))))))))))))))))))))))))))))))))))))))))))))))
end Go.Proofs.Ytdocbkbpjdjlpaa
