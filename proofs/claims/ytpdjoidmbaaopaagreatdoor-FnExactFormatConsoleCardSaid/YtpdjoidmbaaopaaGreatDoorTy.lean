/- The types of the seat as a table. Made by program (genty.py). -/
import Derived.Test.YtpdjoidmbaaopaaGreatDoorProg
import Derived.Test.YtpdjoidmbaaopaaGreatDoorAbSpec
import Derived.KernelRfl
namespace Go.Proofs.YtpdjoidmbaaopaaGreatDoor
open Go Go.Ab
set_option maxRecDepth 100000

abbrev tyE2 : TyE := ⟨.int .i64, 1, 8, .int .i64 0, false⟩
abbrev tyE3 : TyE := ⟨.int .i64, 1, 8, .int .i64 0, false⟩
abbrev tyE4 : TyE := ⟨.bool, 1, 1, .bool false, false⟩
abbrev tyE5 : TyE := ⟨.int .u8, 1, 1, .int .u8 0, false⟩
abbrev tyE7 : TyE := ⟨.struct #[{ name := "x", type := 2, offset := 0, embedded := false, tag := "", pkgPath := "runtime", byteOffset := 0 }, { name := "y", type := 3, offset := 1, embedded := false, tag := "", pkgPath := "runtime", byteOffset := 8 }, { name := "signed", type := 4, offset := 2, embedded := false, tag := "", pkgPath := "runtime", byteOffset := 16 }, { name := "code", type := 6, offset := 3, embedded := false, tag := "", pkgPath := "runtime", byteOffset := 17 }], 4, 24, .agg #[.int .i64 0, .int .i64 0, .bool false, .int .u8 0], false⟩
abbrev tyE9 : TyE := ⟨.string, 1, 16, .string ByteArray.empty, false⟩
abbrev tyE12 : TyE := ⟨.int .u64, 1, 8, .int .u64 0, false⟩
abbrev tyE13 : TyE := ⟨.struct #[{ name := "msg", type := 9, offset := 0, embedded := false, tag := "", pkgPath := "runtime", byteOffset := 0 }, { name := "addr", type := 12, offset := 1, embedded := false, tag := "", pkgPath := "runtime", byteOffset := 16 }], 2, 24, .agg #[.string ByteArray.empty, .int .u64 0], false⟩
abbrev tyE15 : TyE := ⟨.pointer 221, 1, 8, .pointer none, false⟩
abbrev tyE16 : TyE := ⟨.pointer 224, 1, 8, .pointer none, false⟩
abbrev tyE17 : TyE := ⟨.pointer 231, 1, 8, .pointer none, false⟩
abbrev tyE18 : TyE := ⟨.struct #[{ name := "typ", type := 17, offset := 0, embedded := false, tag := "", pkgPath := "internal/runtime/maps", byteOffset := 0 }], 1, 8, .agg #[.pointer none], false⟩
abbrev tyE21 : TyE := ⟨.int .i32, 1, 4, .int .i32 0, false⟩
abbrev tyE22 : TyE := ⟨.slice 5, 1, 24, .slice none 0 0, false⟩
abbrev tyE24 : TyE := ⟨.slice 9, 1, 24, .slice none 0 0, false⟩
abbrev tyE25 : TyE := ⟨.slice 106, 1, 24, .slice none 0 0, false⟩
abbrev tyE26 : TyE := ⟨.struct #[{ name := "Stops", type := 24, offset := 0, embedded := false, tag := "", pkgPath := "", byteOffset := 0 }, { name := "Lines", type := 25, offset := 1, embedded := false, tag := "", pkgPath := "", byteOffset := 24 }], 2, 48, .agg #[.slice none 0 0, .slice none 0 0], false⟩
abbrev tyE27 : TyE := ⟨.struct #[{ name := "Stops", type := 24, offset := 0, embedded := false, tag := "", pkgPath := "", byteOffset := 0 }, { name := "Lines", type := 25, offset := 1, embedded := false, tag := "", pkgPath := "", byteOffset := 24 }], 2, 48, .agg #[.slice none 0 0, .slice none 0 0], true⟩
abbrev tyE28 : TyE := ⟨.slice 71, 1, 24, .slice none 0 0, false⟩
abbrev tyE29 : TyE := ⟨.struct #[{ name := "Network", type := 27, offset := 0, embedded := false, tag := "", pkgPath := "", byteOffset := 0 }, { name := "Trips", type := 28, offset := 2, embedded := false, tag := "", pkgPath := "", byteOffset := 48 }], 3, 72, .agg #[.slice none 0 0, .slice none 0 0, .slice none 0 0], false⟩
abbrev tyE30 : TyE := ⟨.struct #[{ name := "Network", type := 27, offset := 0, embedded := false, tag := "", pkgPath := "", byteOffset := 0 }, { name := "Trips", type := 28, offset := 2, embedded := false, tag := "", pkgPath := "", byteOffset := 48 }], 3, 72, .agg #[.slice none 0 0, .slice none 0 0, .slice none 0 0], true⟩
abbrev tyE33 : TyE := ⟨.slice 76, 1, 24, .slice none 0 0, false⟩
abbrev tyE42 : TyE := ⟨.slice 187, 1, 24, .slice none 0 0, false⟩
abbrev tyE43 : TyE := ⟨.struct #[{ name := "Stops", type := 24, offset := 0, embedded := false, tag := "", pkgPath := "", byteOffset := 0 }, { name := "Lines", type := 42, offset := 1, embedded := false, tag := "", pkgPath := "", byteOffset := 24 }], 2, 48, .agg #[.slice none 0 0, .slice none 0 0], false⟩
abbrev tyE44 : TyE := ⟨.struct #[{ name := "Stops", type := 24, offset := 0, embedded := false, tag := "", pkgPath := "", byteOffset := 0 }, { name := "Lines", type := 42, offset := 1, embedded := false, tag := "", pkgPath := "", byteOffset := 24 }], 2, 48, .agg #[.slice none 0 0, .slice none 0 0], true⟩
abbrev tyE45 : TyE := ⟨.slice 164, 1, 24, .slice none 0 0, false⟩
abbrev tyE46 : TyE := ⟨.struct #[{ name := "Network", type := 44, offset := 0, embedded := false, tag := "", pkgPath := "", byteOffset := 0 }, { name := "Trips", type := 45, offset := 2, embedded := false, tag := "", pkgPath := "", byteOffset := 48 }], 3, 72, .agg #[.slice none 0 0, .slice none 0 0, .slice none 0 0], false⟩
abbrev tyE47 : TyE := ⟨.struct #[{ name := "Network", type := 44, offset := 0, embedded := false, tag := "", pkgPath := "", byteOffset := 0 }, { name := "Trips", type := 45, offset := 2, embedded := false, tag := "", pkgPath := "", byteOffset := 48 }], 3, 72, .agg #[.slice none 0 0, .slice none 0 0, .slice none 0 0], true⟩
abbrev tyE48 : TyE := ⟨.struct #[{ name := "Durable", type := 9, offset := 0, embedded := false, tag := "", pkgPath := "", byteOffset := 0 }, { name := "Pending", type := 9, offset := 1, embedded := false, tag := "", pkgPath := "", byteOffset := 16 }, { name := "Count", type := 3, offset := 2, embedded := false, tag := "", pkgPath := "", byteOffset := 32 }], 3, 40, .agg #[.string ByteArray.empty, .string ByteArray.empty, .int .i64 0], false⟩
abbrev tyE49 : TyE := ⟨.struct #[{ name := "Durable", type := 9, offset := 0, embedded := false, tag := "", pkgPath := "", byteOffset := 0 }, { name := "Pending", type := 9, offset := 1, embedded := false, tag := "", pkgPath := "", byteOffset := 16 }, { name := "Count", type := 3, offset := 2, embedded := false, tag := "", pkgPath := "", byteOffset := 32 }], 3, 40, .agg #[.string ByteArray.empty, .string ByteArray.empty, .int .i64 0], true⟩
abbrev tyE50 : TyE := ⟨.struct #[{ name := "Timetable", type := 47, offset := 0, embedded := false, tag := "", pkgPath := "", byteOffset := 0 }, { name := "Change", type := 3, offset := 3, embedded := false, tag := "", pkgPath := "", byteOffset := 72 }, { name := "Log", type := 49, offset := 4, embedded := false, tag := "", pkgPath := "", byteOffset := 80 }], 7, 120, .agg #[.slice none 0 0, .slice none 0 0, .slice none 0 0, .int .i64 0, .string ByteArray.empty, .string ByteArray.empty, .int .i64 0], false⟩
abbrev tyE51 : TyE := ⟨.struct #[{ name := "Timetable", type := 47, offset := 0, embedded := false, tag := "", pkgPath := "", byteOffset := 0 }, { name := "Change", type := 3, offset := 3, embedded := false, tag := "", pkgPath := "", byteOffset := 72 }, { name := "Log", type := 49, offset := 4, embedded := false, tag := "", pkgPath := "", byteOffset := 80 }], 7, 120, .agg #[.slice none 0 0, .slice none 0 0, .slice none 0 0, .int .i64 0, .string ByteArray.empty, .string ByteArray.empty, .int .i64 0], true⟩
abbrev tyE54 : TyE := ⟨.struct #[{ name := "Durable", type := 9, offset := 0, embedded := false, tag := "", pkgPath := "", byteOffset := 0 }, { name := "Pending", type := 9, offset := 1, embedded := false, tag := "", pkgPath := "", byteOffset := 16 }, { name := "Count", type := 3, offset := 2, embedded := false, tag := "", pkgPath := "", byteOffset := 32 }], 3, 40, .agg #[.string ByteArray.empty, .string ByteArray.empty, .int .i64 0], true⟩
abbrev tyE55 : TyE := ⟨.struct #[{ name := "Timetable", type := 30, offset := 0, embedded := false, tag := "", pkgPath := "", byteOffset := 0 }, { name := "Change", type := 3, offset := 3, embedded := false, tag := "", pkgPath := "", byteOffset := 72 }, { name := "Log", type := 54, offset := 4, embedded := false, tag := "", pkgPath := "", byteOffset := 80 }], 7, 120, .agg #[.slice none 0 0, .slice none 0 0, .slice none 0 0, .int .i64 0, .string ByteArray.empty, .string ByteArray.empty, .int .i64 0], false⟩
abbrev tyE56 : TyE := ⟨.struct #[{ name := "Timetable", type := 30, offset := 0, embedded := false, tag := "", pkgPath := "", byteOffset := 0 }, { name := "Change", type := 3, offset := 3, embedded := false, tag := "", pkgPath := "", byteOffset := 72 }, { name := "Log", type := 54, offset := 4, embedded := false, tag := "", pkgPath := "", byteOffset := 80 }], 7, 120, .agg #[.slice none 0 0, .slice none 0 0, .slice none 0 0, .int .i64 0, .string ByteArray.empty, .string ByteArray.empty, .int .i64 0], true⟩
abbrev tyE62 : TyE := ⟨.pointer 65, 1, 8, .pointer none, false⟩
abbrev tyE63 : TyE := ⟨.int .u64, 1, 8, .int .u64 0, false⟩
abbrev tyE64 : TyE := ⟨.struct #[{ name := "code", type := 22, offset := 0, embedded := false, tag := "", pkgPath := "loop.example/g00900/spec", byteOffset := 0 }, { name := "at", type := 3, offset := 1, embedded := false, tag := "", pkgPath := "loop.example/g00900/spec", byteOffset := 24 }, { name := "seed", type := 63, offset := 2, embedded := false, tag := "", pkgPath := "loop.example/g00900/spec", byteOffset := 32 }], 3, 40, .agg #[.slice none 0 0, .int .i64 0, .int .u64 0], true⟩
abbrev tyE65 : TyE := ⟨.struct #[{ name := "code", type := 22, offset := 0, embedded := false, tag := "", pkgPath := "loop.example/g00900/spec", byteOffset := 0 }, { name := "at", type := 3, offset := 1, embedded := false, tag := "", pkgPath := "loop.example/g00900/spec", byteOffset := 24 }, { name := "seed", type := 63, offset := 2, embedded := false, tag := "", pkgPath := "loop.example/g00900/spec", byteOffset := 32 }], 3, 40, .agg #[.slice none 0 0, .int .i64 0, .int .u64 0], true⟩
abbrev tyE70 : TyE := ⟨.struct #[{ name := "Id", type := 3, offset := 0, embedded := false, tag := "", pkgPath := "", byteOffset := 0 }, { name := "Line", type := 3, offset := 1, embedded := false, tag := "", pkgPath := "", byteOffset := 8 }, { name := "Start", type := 3, offset := 2, embedded := false, tag := "", pkgPath := "", byteOffset := 16 }], 3, 24, .agg #[.int .i64 0, .int .i64 0, .int .i64 0], false⟩
abbrev tyE71 : TyE := ⟨.struct #[{ name := "Id", type := 3, offset := 0, embedded := false, tag := "", pkgPath := "", byteOffset := 0 }, { name := "Line", type := 3, offset := 1, embedded := false, tag := "", pkgPath := "", byteOffset := 8 }, { name := "Start", type := 3, offset := 2, embedded := false, tag := "", pkgPath := "", byteOffset := 16 }], 3, 24, .agg #[.int .i64 0, .int .i64 0, .int .i64 0], true⟩
abbrev tyE75 : TyE := ⟨.struct #[{ name := "Kind", type := 3, offset := 0, embedded := false, tag := "", pkgPath := "", byteOffset := 0 }, { name := "Trip", type := 71, offset := 1, embedded := false, tag := "", pkgPath := "", byteOffset := 8 }, { name := "To", type := 3, offset := 4, embedded := false, tag := "", pkgPath := "", byteOffset := 32 }], 5, 40, .agg #[.int .i64 0, .int .i64 0, .int .i64 0, .int .i64 0, .int .i64 0], false⟩
abbrev tyE76 : TyE := ⟨.struct #[{ name := "Kind", type := 3, offset := 0, embedded := false, tag := "", pkgPath := "", byteOffset := 0 }, { name := "Trip", type := 71, offset := 1, embedded := false, tag := "", pkgPath := "", byteOffset := 8 }, { name := "To", type := 3, offset := 4, embedded := false, tag := "", pkgPath := "", byteOffset := 32 }], 5, 40, .agg #[.int .i64 0, .int .i64 0, .int .i64 0, .int .i64 0, .int .i64 0], true⟩
abbrev tyE96 : TyE := ⟨.slice 3, 1, 24, .slice none 0 0, false⟩
abbrev tyE98 : TyE := ⟨.pointer 100, 1, 8, .pointer none, false⟩
abbrev tyE99 : TyE := ⟨.struct #[{ name := "addr", type := 98, offset := 0, embedded := false, tag := "", pkgPath := "strings", byteOffset := 0 }, { name := "buf", type := 22, offset := 1, embedded := false, tag := "", pkgPath := "strings", byteOffset := 8 }], 2, 32, .agg #[.pointer none, .slice none 0 0], false⟩
abbrev tyE100 : TyE := ⟨.struct #[{ name := "addr", type := 98, offset := 0, embedded := false, tag := "", pkgPath := "strings", byteOffset := 0 }, { name := "buf", type := 22, offset := 1, embedded := false, tag := "", pkgPath := "strings", byteOffset := 8 }], 2, 32, .agg #[.pointer none, .slice none 0 0], false⟩
abbrev tyE105 : TyE := ⟨.struct #[{ name := "Name", type := 9, offset := 0, embedded := false, tag := "", pkgPath := "", byteOffset := 0 }, { name := "Stops", type := 96, offset := 1, embedded := false, tag := "", pkgPath := "", byteOffset := 16 }, { name := "Runs", type := 96, offset := 2, embedded := false, tag := "", pkgPath := "", byteOffset := 40 }], 3, 64, .agg #[.string ByteArray.empty, .slice none 0 0, .slice none 0 0], false⟩
abbrev tyE106 : TyE := ⟨.struct #[{ name := "Name", type := 9, offset := 0, embedded := false, tag := "", pkgPath := "", byteOffset := 0 }, { name := "Stops", type := 96, offset := 1, embedded := false, tag := "", pkgPath := "", byteOffset := 16 }, { name := "Runs", type := 96, offset := 2, embedded := false, tag := "", pkgPath := "", byteOffset := 40 }], 3, 64, .agg #[.string ByteArray.empty, .slice none 0 0, .slice none 0 0], true⟩
abbrev tyE113 : TyE := ⟨.int .u64, 1, 8, .int .u64 0, false⟩
abbrev tyE122 : TyE := ⟨.slice 166, 1, 24, .slice none 0 0, false⟩
abbrev tyE142 : TyE := ⟨.pointer 5, 1, 8, .pointer none, false⟩
abbrev tyE144 : TyE := ⟨.int .i64, 1, 8, .int .i64 0, false⟩
abbrev tyE152 : TyE := ⟨.int .u32, 1, 4, .int .u32 0, false⟩
abbrev tyE164 : TyE := ⟨.struct #[{ name := "Id", type := 3, offset := 0, embedded := false, tag := "", pkgPath := "", byteOffset := 0 }, { name := "Line", type := 3, offset := 1, embedded := false, tag := "", pkgPath := "", byteOffset := 8 }, { name := "Start", type := 3, offset := 2, embedded := false, tag := "", pkgPath := "", byteOffset := 16 }], 3, 24, .agg #[.int .i64 0, .int .i64 0, .int .i64 0], true⟩
abbrev tyE165 : TyE := ⟨.struct #[{ name := "Command", type := 9, offset := 0, embedded := false, tag := "", pkgPath := "", byteOffset := 0 }, { name := "Reply", type := 9, offset := 1, embedded := false, tag := "", pkgPath := "", byteOffset := 16 }], 2, 32, .agg #[.string ByteArray.empty, .string ByteArray.empty], false⟩
abbrev tyE166 : TyE := ⟨.struct #[{ name := "Command", type := 9, offset := 0, embedded := false, tag := "", pkgPath := "", byteOffset := 0 }, { name := "Reply", type := 9, offset := 1, embedded := false, tag := "", pkgPath := "", byteOffset := 16 }], 2, 32, .agg #[.string ByteArray.empty, .string ByteArray.empty], true⟩
abbrev tyE176 : TyE := ⟨.unsafePointer, 1, 8, .pointer none, false⟩
abbrev tyE178 : TyE := ⟨.int .u64, 1, 8, .int .u64 0, false⟩
abbrev tyE182 : TyE := ⟨.pointer 3, 1, 8, .pointer none, false⟩
abbrev tyE187 : TyE := ⟨.struct #[{ name := "Name", type := 9, offset := 0, embedded := false, tag := "", pkgPath := "", byteOffset := 0 }, { name := "Stops", type := 96, offset := 1, embedded := false, tag := "", pkgPath := "", byteOffset := 16 }, { name := "Runs", type := 96, offset := 2, embedded := false, tag := "", pkgPath := "", byteOffset := 40 }], 3, 64, .agg #[.string ByteArray.empty, .slice none 0 0, .slice none 0 0], true⟩
abbrev tyE197 : TyE := ⟨.array 24 5, 24, 24, .agg #[.int .u8 0, .int .u8 0, .int .u8 0, .int .u8 0, .int .u8 0, .int .u8 0, .int .u8 0, .int .u8 0, .int .u8 0, .int .u8 0, .int .u8 0, .int .u8 0, .int .u8 0, .int .u8 0, .int .u8 0, .int .u8 0, .int .u8 0, .int .u8 0, .int .u8 0, .int .u8 0, .int .u8 0, .int .u8 0, .int .u8 0, .int .u8 0], false⟩
abbrev tyE201 : TyE := ⟨.pointer 178, 1, 8, .pointer none, false⟩
abbrev tyE206 : TyE := ⟨.array 20 63, 20, 160, .agg #[.int .u64 0, .int .u64 0, .int .u64 0, .int .u64 0, .int .u64 0, .int .u64 0, .int .u64 0, .int .u64 0, .int .u64 0, .int .u64 0, .int .u64 0, .int .u64 0, .int .u64 0, .int .u64 0, .int .u64 0, .int .u64 0, .int .u64 0, .int .u64 0, .int .u64 0, .int .u64 0], false⟩
abbrev tyE207 : TyE := ⟨.array 65 5, 65, 65, .agg #[.int .u8 0, .int .u8 0, .int .u8 0, .int .u8 0, .int .u8 0, .int .u8 0, .int .u8 0, .int .u8 0, .int .u8 0, .int .u8 0, .int .u8 0, .int .u8 0, .int .u8 0, .int .u8 0, .int .u8 0, .int .u8 0, .int .u8 0, .int .u8 0, .int .u8 0, .int .u8 0, .int .u8 0, .int .u8 0, .int .u8 0, .int .u8 0, .int .u8 0, .int .u8 0, .int .u8 0, .int .u8 0, .int .u8 0, .int .u8 0, .int .u8 0, .int .u8 0, .int .u8 0, .int .u8 0, .int .u8 0, .int .u8 0, .int .u8 0, .int .u8 0, .int .u8 0, .int .u8 0, .int .u8 0, .int .u8 0, .int .u8 0, .int .u8 0, .int .u8 0, .int .u8 0, .int .u8 0, .int .u8 0, .int .u8 0, .int .u8 0, .int .u8 0, .int .u8 0, .int .u8 0, .int .u8 0, .int .u8 0, .int .u8 0, .int .u8 0, .int .u8 0, .int .u8 0, .int .u8 0, .int .u8 0, .int .u8 0, .int .u8 0, .int .u8 0, .int .u8 0], false⟩
abbrev tyE216 : TyE := ⟨.array 32 5, 32, 32, .agg #[.int .u8 0, .int .u8 0, .int .u8 0, .int .u8 0, .int .u8 0, .int .u8 0, .int .u8 0, .int .u8 0, .int .u8 0, .int .u8 0, .int .u8 0, .int .u8 0, .int .u8 0, .int .u8 0, .int .u8 0, .int .u8 0, .int .u8 0, .int .u8 0, .int .u8 0, .int .u8 0, .int .u8 0, .int .u8 0, .int .u8 0, .int .u8 0, .int .u8 0, .int .u8 0, .int .u8 0, .int .u8 0, .int .u8 0, .int .u8 0, .int .u8 0, .int .u8 0], false⟩
abbrev tyE217 : TyE := ⟨.array 64 5, 64, 64, .agg #[.int .u8 0, .int .u8 0, .int .u8 0, .int .u8 0, .int .u8 0, .int .u8 0, .int .u8 0, .int .u8 0, .int .u8 0, .int .u8 0, .int .u8 0, .int .u8 0, .int .u8 0, .int .u8 0, .int .u8 0, .int .u8 0, .int .u8 0, .int .u8 0, .int .u8 0, .int .u8 0, .int .u8 0, .int .u8 0, .int .u8 0, .int .u8 0, .int .u8 0, .int .u8 0, .int .u8 0, .int .u8 0, .int .u8 0, .int .u8 0, .int .u8 0, .int .u8 0, .int .u8 0, .int .u8 0, .int .u8 0, .int .u8 0, .int .u8 0, .int .u8 0, .int .u8 0, .int .u8 0, .int .u8 0, .int .u8 0, .int .u8 0, .int .u8 0, .int .u8 0, .int .u8 0, .int .u8 0, .int .u8 0, .int .u8 0, .int .u8 0, .int .u8 0, .int .u8 0, .int .u8 0, .int .u8 0, .int .u8 0, .int .u8 0, .int .u8 0, .int .u8 0, .int .u8 0, .int .u8 0, .int .u8 0, .int .u8 0, .int .u8 0, .int .u8 0], false⟩
abbrev tyE220 : TyE := ⟨.struct #[{ name := "_interface", type := 17, offset := 0, embedded := false, tag := "", pkgPath := "runtime", byteOffset := 0 }, { name := "concrete", type := 17, offset := 1, embedded := false, tag := "", pkgPath := "runtime", byteOffset := 8 }, { name := "asserted", type := 17, offset := 2, embedded := false, tag := "", pkgPath := "runtime", byteOffset := 16 }, { name := "missingMethod", type := 9, offset := 3, embedded := false, tag := "", pkgPath := "runtime", byteOffset := 24 }], 4, 40, .agg #[.pointer none, .pointer none, .pointer none, .string ByteArray.empty], false⟩
abbrev tyE223 : TyE := ⟨.struct #[{ name := "_", type := 222, offset := 0, embedded := false, tag := "", pkgPath := "runtime", byteOffset := 0 }], 0, 0, .agg #[], false⟩
abbrev tyE230 : TyE := ⟨.struct #[{ name := "Size_", type := 12, offset := 0, embedded := false, tag := "", pkgPath := "", byteOffset := 0 }, { name := "PtrBytes", type := 12, offset := 1, embedded := false, tag := "", pkgPath := "", byteOffset := 8 }, { name := "Hash", type := 152, offset := 2, embedded := false, tag := "", pkgPath := "", byteOffset := 16 }, { name := "TFlag", type := 225, offset := 3, embedded := false, tag := "", pkgPath := "", byteOffset := 20 }, { name := "Align_", type := 5, offset := 4, embedded := false, tag := "", pkgPath := "", byteOffset := 21 }, { name := "FieldAlign_", type := 5, offset := 5, embedded := false, tag := "", pkgPath := "", byteOffset := 22 }, { name := "Kind_", type := 226, offset := 6, embedded := false, tag := "", pkgPath := "", byteOffset := 23 }, { name := "Equal", type := 227, offset := 7, embedded := false, tag := "", pkgPath := "", byteOffset := 24 }, { name := "GCData", type := 142, offset := 8, embedded := false, tag := "", pkgPath := "", byteOffset := 32 }, { name := "Str", type := 228, offset := 9, embedded := false, tag := "", pkgPath := "", byteOffset := 40 }, { name := "PtrToThis", type := 229, offset := 10, embedded := false, tag := "", pkgPath := "", byteOffset := 44 }], 11, 48, .agg #[.int .u64 0, .int .u64 0, .int .u32 0, .int .u8 0, .int .u8 0, .int .u8 0, .int .u8 0, .nilFunc, .pointer none, .int .i32 0, .int .i32 0], false⟩
def tyL : List (Nat × TyE) := [(2, tyE2), (3, tyE3), (4, tyE4), (5, tyE5), (7, tyE7), (9, tyE9), (12, tyE12), (13, tyE13), (15, tyE15), (16, tyE16), (17, tyE17), (18, tyE18), (21, tyE21), (22, tyE22), (24, tyE24), (25, tyE25), (26, tyE26), (27, tyE27), (28, tyE28), (29, tyE29), (30, tyE30), (33, tyE33), (42, tyE42), (43, tyE43), (44, tyE44), (45, tyE45), (46, tyE46), (47, tyE47), (48, tyE48), (49, tyE49), (50, tyE50), (51, tyE51), (54, tyE54), (55, tyE55), (56, tyE56), (62, tyE62), (63, tyE63), (64, tyE64), (65, tyE65), (70, tyE70), (71, tyE71), (75, tyE75), (76, tyE76), (96, tyE96), (98, tyE98), (99, tyE99), (100, tyE100), (105, tyE105), (106, tyE106), (113, tyE113), (122, tyE122), (142, tyE142), (144, tyE144), (152, tyE152), (164, tyE164), (165, tyE165), (166, tyE166), (176, tyE176), (178, tyE178), (182, tyE182), (187, tyE187), (197, tyE197), (201, tyE201), (206, tyE206), (207, tyE207), (216, tyE216), (217, tyE217), (220, tyE220), (223, tyE223), (230, tyE230)]
def ty (t : TypeId) : Option TyE := lookT t tyL
@[simp] theorem ty_2 : ty 2 = some tyE2 := rfl
@[simp] theorem ty_3 : ty 3 = some tyE3 := rfl
@[simp] theorem ty_4 : ty 4 = some tyE4 := rfl
@[simp] theorem ty_5 : ty 5 = some tyE5 := rfl
@[simp] theorem ty_7 : ty 7 = some tyE7 := rfl
@[simp] theorem ty_9 : ty 9 = some tyE9 := rfl
@[simp] theorem ty_12 : ty 12 = some tyE12 := rfl
@[simp] theorem ty_13 : ty 13 = some tyE13 := rfl
@[simp] theorem ty_15 : ty 15 = some tyE15 := rfl
@[simp] theorem ty_16 : ty 16 = some tyE16 := rfl
@[simp] theorem ty_17 : ty 17 = some tyE17 := rfl
@[simp] theorem ty_18 : ty 18 = some tyE18 := rfl
@[simp] theorem ty_21 : ty 21 = some tyE21 := rfl
@[simp] theorem ty_22 : ty 22 = some tyE22 := rfl
@[simp] theorem ty_24 : ty 24 = some tyE24 := rfl
@[simp] theorem ty_25 : ty 25 = some tyE25 := rfl
@[simp] theorem ty_26 : ty 26 = some tyE26 := rfl
@[simp] theorem ty_27 : ty 27 = some tyE27 := rfl
@[simp] theorem ty_28 : ty 28 = some tyE28 := rfl
@[simp] theorem ty_29 : ty 29 = some tyE29 := rfl
@[simp] theorem ty_30 : ty 30 = some tyE30 := rfl
@[simp] theorem ty_33 : ty 33 = some tyE33 := rfl
@[simp] theorem ty_42 : ty 42 = some tyE42 := rfl
@[simp] theorem ty_43 : ty 43 = some tyE43 := rfl
@[simp] theorem ty_44 : ty 44 = some tyE44 := rfl
@[simp] theorem ty_45 : ty 45 = some tyE45 := rfl
@[simp] theorem ty_46 : ty 46 = some tyE46 := rfl
@[simp] theorem ty_47 : ty 47 = some tyE47 := rfl
@[simp] theorem ty_48 : ty 48 = some tyE48 := rfl
@[simp] theorem ty_49 : ty 49 = some tyE49 := rfl
@[simp] theorem ty_50 : ty 50 = some tyE50 := rfl
@[simp] theorem ty_51 : ty 51 = some tyE51 := rfl
@[simp] theorem ty_54 : ty 54 = some tyE54 := rfl
@[simp] theorem ty_55 : ty 55 = some tyE55 := rfl
@[simp] theorem ty_56 : ty 56 = some tyE56 := rfl
@[simp] theorem ty_62 : ty 62 = some tyE62 := rfl
@[simp] theorem ty_63 : ty 63 = some tyE63 := rfl
@[simp] theorem ty_64 : ty 64 = some tyE64 := rfl
@[simp] theorem ty_65 : ty 65 = some tyE65 := rfl
@[simp] theorem ty_70 : ty 70 = some tyE70 := rfl
@[simp] theorem ty_71 : ty 71 = some tyE71 := rfl
@[simp] theorem ty_75 : ty 75 = some tyE75 := rfl
@[simp] theorem ty_76 : ty 76 = some tyE76 := rfl
@[simp] theorem ty_96 : ty 96 = some tyE96 := rfl
@[simp] theorem ty_98 : ty 98 = some tyE98 := rfl
@[simp] theorem ty_99 : ty 99 = some tyE99 := rfl
@[simp] theorem ty_100 : ty 100 = some tyE100 := rfl
@[simp] theorem ty_105 : ty 105 = some tyE105 := rfl
@[simp] theorem ty_106 : ty 106 = some tyE106 := rfl
@[simp] theorem ty_113 : ty 113 = some tyE113 := rfl
@[simp] theorem ty_122 : ty 122 = some tyE122 := rfl
@[simp] theorem ty_142 : ty 142 = some tyE142 := rfl
@[simp] theorem ty_144 : ty 144 = some tyE144 := rfl
@[simp] theorem ty_152 : ty 152 = some tyE152 := rfl
@[simp] theorem ty_164 : ty 164 = some tyE164 := rfl
@[simp] theorem ty_165 : ty 165 = some tyE165 := rfl
@[simp] theorem ty_166 : ty 166 = some tyE166 := rfl
@[simp] theorem ty_176 : ty 176 = some tyE176 := rfl
@[simp] theorem ty_178 : ty 178 = some tyE178 := rfl
@[simp] theorem ty_182 : ty 182 = some tyE182 := rfl
@[simp] theorem ty_187 : ty 187 = some tyE187 := rfl
@[simp] theorem ty_197 : ty 197 = some tyE197 := rfl
@[simp] theorem ty_201 : ty 201 = some tyE201 := rfl
@[simp] theorem ty_206 : ty 206 = some tyE206 := rfl
@[simp] theorem ty_207 : ty 207 = some tyE207 := rfl
@[simp] theorem ty_216 : ty 216 = some tyE216 := rfl
@[simp] theorem ty_217 : ty 217 = some tyE217 := rfl
@[simp] theorem ty_220 : ty 220 = some tyE220 := rfl
@[simp] theorem ty_223 : ty 223 = some tyE223 := rfl
@[simp] theorem ty_230 : ty 230 = some tyE230 := rfl
theorem tyOK_2 : TyOK Tryz.prog 2 tyE2 := ⟨Tryz.underlying2, Tryz.t2, Tryz.type2, rfl, rfl, rfl, fun h => by cases h⟩
theorem tyOK_3 : TyOK Tryz.prog 3 tyE3 := ⟨Tryz.underlying3, Tryz.t3, Tryz.type3, rfl, rfl, rfl, fun h => by cases h⟩
theorem tyOK_4 : TyOK Tryz.prog 4 tyE4 := ⟨Tryz.underlying4, Tryz.t4, Tryz.type4, rfl, rfl, rfl, fun h => by cases h⟩
theorem tyOK_5 : TyOK Tryz.prog 5 tyE5 := ⟨Tryz.underlying5, Tryz.t5, Tryz.type5, rfl, rfl, rfl, fun h => by cases h⟩
theorem tyOK_7 : TyOK Tryz.prog 7 tyE7 := ⟨Tryz.underlying7, Tryz.t7, Tryz.type7, rfl, rfl, rfl, fun h => by cases h⟩
theorem tyOK_9 : TyOK Tryz.prog 9 tyE9 := ⟨Tryz.underlying9, Tryz.t9, Tryz.type9, rfl, rfl, rfl, fun h => by cases h⟩
theorem tyOK_12 : TyOK Tryz.prog 12 tyE12 := ⟨Tryz.underlying12, Tryz.t12, Tryz.type12, rfl, rfl, rfl, fun h => by cases h⟩
theorem tyOK_13 : TyOK Tryz.prog 13 tyE13 := ⟨Tryz.underlying13, Tryz.t13, Tryz.type13, rfl, rfl, rfl, fun h => by cases h⟩
theorem tyOK_15 : TyOK Tryz.prog 15 tyE15 := ⟨Tryz.underlying15, Tryz.t15, Tryz.type15, rfl, rfl, rfl, fun h => by cases h⟩
theorem tyOK_16 : TyOK Tryz.prog 16 tyE16 := ⟨Tryz.underlying16, Tryz.t16, Tryz.type16, rfl, rfl, rfl, fun h => by cases h⟩
theorem tyOK_17 : TyOK Tryz.prog 17 tyE17 := ⟨Tryz.underlying17, Tryz.t17, Tryz.type17, rfl, rfl, rfl, fun h => by cases h⟩
theorem tyOK_18 : TyOK Tryz.prog 18 tyE18 := ⟨Tryz.underlying18, Tryz.t18, Tryz.type18, rfl, rfl, rfl, fun h => by cases h⟩
theorem tyOK_21 : TyOK Tryz.prog 21 tyE21 := ⟨Tryz.underlying21, Tryz.t21, Tryz.type21, rfl, rfl, rfl, fun h => by cases h⟩
theorem tyOK_22 : TyOK Tryz.prog 22 tyE22 := ⟨Tryz.underlying22, Tryz.t22, Tryz.type22, rfl, rfl, rfl, fun h => by cases h⟩
theorem tyOK_24 : TyOK Tryz.prog 24 tyE24 := ⟨Tryz.underlying24, Tryz.t24, Tryz.type24, rfl, rfl, rfl, fun h => by cases h⟩
theorem tyOK_25 : TyOK Tryz.prog 25 tyE25 := ⟨Tryz.underlying25, Tryz.t25, Tryz.type25, rfl, rfl, rfl, fun h => by cases h⟩
theorem tyOK_26 : TyOK Tryz.prog 26 tyE26 := ⟨Tryz.underlying26, Tryz.t26, Tryz.type26, rfl, rfl, rfl, fun h => by cases h⟩
theorem tyOK_27 : TyOK Tryz.prog 27 tyE27 := ⟨Tryz.underlying27, Tryz.t27, Tryz.type27, rfl, rfl, rfl, fun _ => ⟨by kernel_rfl, by kernel_rfl, by rintro _ ⟨⟩; rfl⟩⟩
theorem tyOK_28 : TyOK Tryz.prog 28 tyE28 := ⟨Tryz.underlying28, Tryz.t28, Tryz.type28, rfl, rfl, rfl, fun h => by cases h⟩
theorem tyOK_29 : TyOK Tryz.prog 29 tyE29 := ⟨Tryz.underlying29, Tryz.t29, Tryz.type29, rfl, rfl, rfl, fun h => by cases h⟩
theorem tyOK_30 : TyOK Tryz.prog 30 tyE30 := ⟨Tryz.underlying30, Tryz.t30, Tryz.type30, rfl, rfl, rfl, fun _ => ⟨by kernel_rfl, by kernel_rfl, by rintro _ ⟨⟩; rfl⟩⟩
theorem tyOK_33 : TyOK Tryz.prog 33 tyE33 := ⟨Tryz.underlying33, Tryz.t33, Tryz.type33, rfl, rfl, rfl, fun h => by cases h⟩
theorem tyOK_42 : TyOK Tryz.prog 42 tyE42 := ⟨Tryz.underlying42, Tryz.t42, Tryz.type42, rfl, rfl, rfl, fun h => by cases h⟩
theorem tyOK_43 : TyOK Tryz.prog 43 tyE43 := ⟨Tryz.underlying43, Tryz.t43, Tryz.type43, rfl, rfl, rfl, fun h => by cases h⟩
theorem tyOK_44 : TyOK Tryz.prog 44 tyE44 := ⟨Tryz.underlying44, Tryz.t44, Tryz.type44, rfl, rfl, rfl, fun _ => ⟨by kernel_rfl, by kernel_rfl, by rintro _ ⟨⟩; rfl⟩⟩
theorem tyOK_45 : TyOK Tryz.prog 45 tyE45 := ⟨Tryz.underlying45, Tryz.t45, Tryz.type45, rfl, rfl, rfl, fun h => by cases h⟩
theorem tyOK_46 : TyOK Tryz.prog 46 tyE46 := ⟨Tryz.underlying46, Tryz.t46, Tryz.type46, rfl, rfl, rfl, fun h => by cases h⟩
theorem tyOK_47 : TyOK Tryz.prog 47 tyE47 := ⟨Tryz.underlying47, Tryz.t47, Tryz.type47, rfl, rfl, rfl, fun _ => ⟨by kernel_rfl, by kernel_rfl, by rintro _ ⟨⟩; rfl⟩⟩
theorem tyOK_48 : TyOK Tryz.prog 48 tyE48 := ⟨Tryz.underlying48, Tryz.t48, Tryz.type48, rfl, rfl, rfl, fun h => by cases h⟩
theorem tyOK_49 : TyOK Tryz.prog 49 tyE49 := ⟨Tryz.underlying49, Tryz.t49, Tryz.type49, rfl, rfl, rfl, fun _ => ⟨by kernel_rfl, by kernel_rfl, by rintro _ ⟨⟩; rfl⟩⟩
theorem tyOK_50 : TyOK Tryz.prog 50 tyE50 := ⟨Tryz.underlying50, Tryz.t50, Tryz.type50, rfl, rfl, rfl, fun h => by cases h⟩
theorem tyOK_51 : TyOK Tryz.prog 51 tyE51 := ⟨Tryz.underlying51, Tryz.t51, Tryz.type51, rfl, rfl, rfl, fun _ => ⟨by kernel_rfl, by kernel_rfl, by rintro _ ⟨⟩; rfl⟩⟩
theorem tyOK_54 : TyOK Tryz.prog 54 tyE54 := ⟨Tryz.underlying54, Tryz.t54, Tryz.type54, rfl, rfl, rfl, fun _ => ⟨by kernel_rfl, by kernel_rfl, by rintro _ ⟨⟩; rfl⟩⟩
theorem tyOK_55 : TyOK Tryz.prog 55 tyE55 := ⟨Tryz.underlying55, Tryz.t55, Tryz.type55, rfl, rfl, rfl, fun h => by cases h⟩
theorem tyOK_56 : TyOK Tryz.prog 56 tyE56 := ⟨Tryz.underlying56, Tryz.t56, Tryz.type56, rfl, rfl, rfl, fun _ => ⟨by kernel_rfl, by kernel_rfl, by rintro _ ⟨⟩; rfl⟩⟩
theorem tyOK_62 : TyOK Tryz.prog 62 tyE62 := ⟨Tryz.underlying62, Tryz.t62, Tryz.type62, rfl, rfl, rfl, fun h => by cases h⟩
theorem tyOK_63 : TyOK Tryz.prog 63 tyE63 := ⟨Tryz.underlying63, Tryz.t63, Tryz.type63, rfl, rfl, rfl, fun h => by cases h⟩
theorem tyOK_64 : TyOK Tryz.prog 64 tyE64 := ⟨Tryz.underlying64, Tryz.t64, Tryz.type64, rfl, rfl, rfl, fun _ => ⟨by kernel_rfl, by kernel_rfl, by rintro _ ⟨⟩; rfl⟩⟩
theorem tyOK_65 : TyOK Tryz.prog 65 tyE65 := ⟨Tryz.underlying65, Tryz.t65, Tryz.type65, rfl, rfl, rfl, fun _ => ⟨by kernel_rfl, by kernel_rfl, by rintro _ ⟨⟩; rfl⟩⟩
theorem tyOK_70 : TyOK Tryz.prog 70 tyE70 := ⟨Tryz.underlying70, Tryz.t70, Tryz.type70, rfl, rfl, rfl, fun h => by cases h⟩
theorem tyOK_71 : TyOK Tryz.prog 71 tyE71 := ⟨Tryz.underlying71, Tryz.t71, Tryz.type71, rfl, rfl, rfl, fun _ => ⟨by kernel_rfl, by kernel_rfl, by rintro _ ⟨⟩; rfl⟩⟩
theorem tyOK_75 : TyOK Tryz.prog 75 tyE75 := ⟨Tryz.underlying75, Tryz.t75, Tryz.type75, rfl, rfl, rfl, fun h => by cases h⟩
theorem tyOK_76 : TyOK Tryz.prog 76 tyE76 := ⟨Tryz.underlying76, Tryz.t76, Tryz.type76, rfl, rfl, rfl, fun _ => ⟨by kernel_rfl, by kernel_rfl, by rintro _ ⟨⟩; rfl⟩⟩
theorem tyOK_96 : TyOK Tryz.prog 96 tyE96 := ⟨Tryz.underlying96, Tryz.t96, Tryz.type96, rfl, rfl, rfl, fun h => by cases h⟩
theorem tyOK_98 : TyOK Tryz.prog 98 tyE98 := ⟨Tryz.underlying98, Tryz.t98, Tryz.type98, rfl, rfl, rfl, fun h => by cases h⟩
theorem tyOK_99 : TyOK Tryz.prog 99 tyE99 := ⟨Tryz.underlying99, Tryz.t99, Tryz.type99, rfl, rfl, rfl, fun h => by cases h⟩
theorem tyOK_100 : TyOK Tryz.prog 100 tyE100 := ⟨Tryz.underlying100, Tryz.t100, Tryz.type100, rfl, rfl, rfl, fun h => by cases h⟩
theorem tyOK_105 : TyOK Tryz.prog 105 tyE105 := ⟨Tryz.underlying105, Tryz.t105, Tryz.type105, rfl, rfl, rfl, fun h => by cases h⟩
theorem tyOK_106 : TyOK Tryz.prog 106 tyE106 := ⟨Tryz.underlying106, Tryz.t106, Tryz.type106, rfl, rfl, rfl, fun _ => ⟨by kernel_rfl, by kernel_rfl, by rintro _ ⟨⟩; rfl⟩⟩
theorem tyOK_113 : TyOK Tryz.prog 113 tyE113 := ⟨Tryz.underlying113, Tryz.t113, Tryz.type113, rfl, rfl, rfl, fun h => by cases h⟩
theorem tyOK_122 : TyOK Tryz.prog 122 tyE122 := ⟨Tryz.underlying122, Tryz.t122, Tryz.type122, rfl, rfl, rfl, fun h => by cases h⟩
theorem tyOK_142 : TyOK Tryz.prog 142 tyE142 := ⟨Tryz.underlying142, Tryz.t142, Tryz.type142, rfl, rfl, rfl, fun h => by cases h⟩
theorem tyOK_144 : TyOK Tryz.prog 144 tyE144 := ⟨Tryz.underlying144, Tryz.t144, Tryz.type144, rfl, rfl, rfl, fun h => by cases h⟩
theorem tyOK_152 : TyOK Tryz.prog 152 tyE152 := ⟨Tryz.underlying152, Tryz.t152, Tryz.type152, rfl, rfl, rfl, fun h => by cases h⟩
theorem tyOK_164 : TyOK Tryz.prog 164 tyE164 := ⟨Tryz.underlying164, Tryz.t164, Tryz.type164, rfl, rfl, rfl, fun _ => ⟨by kernel_rfl, by kernel_rfl, by rintro _ ⟨⟩; rfl⟩⟩
theorem tyOK_165 : TyOK Tryz.prog 165 tyE165 := ⟨Tryz.underlying165, Tryz.t165, Tryz.type165, rfl, rfl, rfl, fun h => by cases h⟩
theorem tyOK_166 : TyOK Tryz.prog 166 tyE166 := ⟨Tryz.underlying166, Tryz.t166, Tryz.type166, rfl, rfl, rfl, fun _ => ⟨by kernel_rfl, by kernel_rfl, by rintro _ ⟨⟩; rfl⟩⟩
theorem tyOK_176 : TyOK Tryz.prog 176 tyE176 := ⟨Tryz.underlying176, Tryz.t176, Tryz.type176, rfl, rfl, rfl, fun h => by cases h⟩
theorem tyOK_178 : TyOK Tryz.prog 178 tyE178 := ⟨Tryz.underlying178, Tryz.t178, Tryz.type178, rfl, rfl, rfl, fun h => by cases h⟩
theorem tyOK_182 : TyOK Tryz.prog 182 tyE182 := ⟨Tryz.underlying182, Tryz.t182, Tryz.type182, rfl, rfl, rfl, fun h => by cases h⟩
theorem tyOK_187 : TyOK Tryz.prog 187 tyE187 := ⟨Tryz.underlying187, Tryz.t187, Tryz.type187, rfl, rfl, rfl, fun _ => ⟨by kernel_rfl, by kernel_rfl, by rintro _ ⟨⟩; rfl⟩⟩
theorem tyOK_197 : TyOK Tryz.prog 197 tyE197 := ⟨Tryz.underlying197, Tryz.t197, Tryz.type197, rfl, rfl, rfl, fun h => by cases h⟩
theorem tyOK_201 : TyOK Tryz.prog 201 tyE201 := ⟨Tryz.underlying201, Tryz.t201, Tryz.type201, rfl, rfl, rfl, fun h => by cases h⟩
theorem tyOK_206 : TyOK Tryz.prog 206 tyE206 := ⟨Tryz.underlying206, Tryz.t206, Tryz.type206, rfl, rfl, rfl, fun h => by cases h⟩
theorem tyOK_207 : TyOK Tryz.prog 207 tyE207 := ⟨Tryz.underlying207, Tryz.t207, Tryz.type207, rfl, rfl, rfl, fun h => by cases h⟩
theorem tyOK_216 : TyOK Tryz.prog 216 tyE216 := ⟨Tryz.underlying216, Tryz.t216, Tryz.type216, rfl, rfl, rfl, fun h => by cases h⟩
theorem tyOK_217 : TyOK Tryz.prog 217 tyE217 := ⟨Tryz.underlying217, Tryz.t217, Tryz.type217, rfl, rfl, rfl, fun h => by cases h⟩
theorem tyOK_220 : TyOK Tryz.prog 220 tyE220 := ⟨Tryz.underlying220, Tryz.t220, Tryz.type220, rfl, rfl, rfl, fun h => by cases h⟩
theorem tyOK_223 : TyOK Tryz.prog 223 tyE223 := ⟨Tryz.underlying223, Tryz.t223, Tryz.type223, rfl, rfl, rfl, fun h => by cases h⟩
theorem tyOK_230 : TyOK Tryz.prog 230 tyE230 := ⟨Tryz.underlying230, Tryz.t230, Tryz.type230, rfl, rfl, rfl, fun h => by cases h⟩
theorem ty_ok : ∀ t x, ty t = some x → TyOK Tryz.prog t x := lookT_ok (allT_cons tyOK_2 (allT_cons tyOK_3 (allT_cons tyOK_4 (allT_cons tyOK_5 (allT_cons tyOK_7 (allT_cons tyOK_9 (allT_cons tyOK_12 (allT_cons tyOK_13 (allT_cons tyOK_15 (allT_cons tyOK_16 (allT_cons tyOK_17 (allT_cons tyOK_18 (allT_cons tyOK_21 (allT_cons tyOK_22 (allT_cons tyOK_24 (allT_cons tyOK_25 (allT_cons tyOK_26 (allT_cons tyOK_27 (allT_cons tyOK_28 (allT_cons tyOK_29 (allT_cons tyOK_30 (allT_cons tyOK_33 (allT_cons tyOK_42 (allT_cons tyOK_43 (allT_cons tyOK_44 (allT_cons tyOK_45 (allT_cons tyOK_46 (allT_cons tyOK_47 (allT_cons tyOK_48 (allT_cons tyOK_49 (allT_cons tyOK_50 (allT_cons tyOK_51 (allT_cons tyOK_54 (allT_cons tyOK_55 (allT_cons tyOK_56 (allT_cons tyOK_62 (allT_cons tyOK_63 (allT_cons tyOK_64 (allT_cons tyOK_65 (allT_cons tyOK_70 (allT_cons tyOK_71 (allT_cons tyOK_75 (allT_cons tyOK_76 (allT_cons tyOK_96 (allT_cons tyOK_98 (allT_cons tyOK_99 (allT_cons tyOK_100 (allT_cons tyOK_105 (allT_cons tyOK_106 (allT_cons tyOK_113 (allT_cons tyOK_122 (allT_cons tyOK_142 (allT_cons tyOK_144 (allT_cons tyOK_152 (allT_cons tyOK_164 (allT_cons tyOK_165 (allT_cons tyOK_166 (allT_cons tyOK_176 (allT_cons tyOK_178 (allT_cons tyOK_182 (allT_cons tyOK_187 (allT_cons tyOK_197 (allT_cons tyOK_201 (allT_cons tyOK_206 (allT_cons tyOK_207 (allT_cons tyOK_216 (allT_cons tyOK_217 (allT_cons tyOK_220 (allT_cons tyOK_223 (allT_cons tyOK_230 allT_nil))))))))))))))))))))))))))))))))))))))))))))))))))))))))))))))))))))))
end Go.Proofs.YtpdjoidmbaaopaaGreatDoor
