/- The types of the seat as a table. Made by program (genty.py). -/
import Derived.Test.YtjljkjbdkjjdcaaProg
import Derived.Test.YtjljkjbdkjjdcaaAbSpec
import Derived.KernelRfl
namespace Go.Proofs.Ytjljkjbdkjjdcaa
open Go Go.Ab
set_option maxRecDepth 100000

abbrev tyE2 : TyE := ⟨.int .i64, 1, 8, .int .i64 0, false⟩
abbrev tyE3 : TyE := ⟨.int .i64, 1, 8, .int .i64 0, false⟩
abbrev tyE4 : TyE := ⟨.bool, 1, 1, .bool false, false⟩
abbrev tyE5 : TyE := ⟨.int .u8, 1, 1, .int .u8 0, false⟩
abbrev tyE7 : TyE := ⟨.struct #[{ name := "x", type := 2, offset := 0, embedded := false, tag := "", pkgPath := "runtime", byteOffset := 0 }, { name := "y", type := 3, offset := 1, embedded := false, tag := "", pkgPath := "runtime", byteOffset := 8 }, { name := "signed", type := 4, offset := 2, embedded := false, tag := "", pkgPath := "runtime", byteOffset := 16 }, { name := "code", type := 6, offset := 3, embedded := false, tag := "", pkgPath := "runtime", byteOffset := 17 }], 4, 24, .agg #[.int .i64 0, .int .i64 0, .bool false, .int .u8 0], false⟩
abbrev tyE9 : TyE := ⟨.string, 1, 16, .string ByteArray.empty, false⟩
abbrev tyE12 : TyE := ⟨.int .u64, 1, 8, .int .u64 0, false⟩
abbrev tyE13 : TyE := ⟨.struct #[{ name := "msg", type := 9, offset := 0, embedded := false, tag := "", pkgPath := "runtime", byteOffset := 0 }, { name := "addr", type := 12, offset := 1, embedded := false, tag := "", pkgPath := "runtime", byteOffset := 16 }], 2, 24, .agg #[.string ByteArray.empty, .int .u64 0], false⟩
abbrev tyE15 : TyE := ⟨.pointer 211, 1, 8, .pointer none, false⟩
abbrev tyE16 : TyE := ⟨.pointer 214, 1, 8, .pointer none, false⟩
abbrev tyE17 : TyE := ⟨.pointer 222, 1, 8, .pointer none, false⟩
abbrev tyE18 : TyE := ⟨.struct #[{ name := "typ", type := 17, offset := 0, embedded := false, tag := "", pkgPath := "internal/runtime/maps", byteOffset := 0 }], 1, 8, .agg #[.pointer none], false⟩
abbrev tyE21 : TyE := ⟨.int .i32, 1, 4, .int .i32 0, false⟩
abbrev tyE22 : TyE := ⟨.slice 5, 1, 24, .slice none 0 0, false⟩
abbrev tyE24 : TyE := ⟨.slice 9, 1, 24, .slice none 0 0, false⟩
abbrev tyE25 : TyE := ⟨.slice 80, 1, 24, .slice none 0 0, false⟩
abbrev tyE26 : TyE := ⟨.struct #[{ name := "Stops", type := 24, offset := 0, embedded := false, tag := "", pkgPath := "", byteOffset := 0 }, { name := "Lines", type := 25, offset := 1, embedded := false, tag := "", pkgPath := "", byteOffset := 24 }], 2, 48, .agg #[.slice none 0 0, .slice none 0 0], false⟩
abbrev tyE27 : TyE := ⟨.struct #[{ name := "Stops", type := 24, offset := 0, embedded := false, tag := "", pkgPath := "", byteOffset := 0 }, { name := "Lines", type := 25, offset := 1, embedded := false, tag := "", pkgPath := "", byteOffset := 24 }], 2, 48, .agg #[.slice none 0 0, .slice none 0 0], true⟩
abbrev tyE28 : TyE := ⟨.slice 107, 1, 24, .slice none 0 0, false⟩
abbrev tyE29 : TyE := ⟨.struct #[{ name := "Network", type := 27, offset := 0, embedded := false, tag := "", pkgPath := "", byteOffset := 0 }, { name := "Trips", type := 28, offset := 2, embedded := false, tag := "", pkgPath := "", byteOffset := 48 }], 3, 72, .agg #[.slice none 0 0, .slice none 0 0, .slice none 0 0], false⟩
abbrev tyE30 : TyE := ⟨.struct #[{ name := "Network", type := 27, offset := 0, embedded := false, tag := "", pkgPath := "", byteOffset := 0 }, { name := "Trips", type := 28, offset := 2, embedded := false, tag := "", pkgPath := "", byteOffset := 48 }], 3, 72, .agg #[.slice none 0 0, .slice none 0 0, .slice none 0 0], true⟩
abbrev tyE31 : TyE := ⟨.slice 37, 1, 24, .slice none 0 0, false⟩
abbrev tyE36 : TyE := ⟨.struct #[{ name := "Id", type := 3, offset := 0, embedded := false, tag := "", pkgPath := "", byteOffset := 0 }, { name := "Minutes", type := 3, offset := 1, embedded := false, tag := "", pkgPath := "", byteOffset := 8 }], 2, 16, .agg #[.int .i64 0, .int .i64 0], false⟩
abbrev tyE37 : TyE := ⟨.struct #[{ name := "Id", type := 3, offset := 0, embedded := false, tag := "", pkgPath := "", byteOffset := 0 }, { name := "Minutes", type := 3, offset := 1, embedded := false, tag := "", pkgPath := "", byteOffset := 8 }], 2, 16, .agg #[.int .i64 0, .int .i64 0], true⟩
abbrev tyE40 : TyE := ⟨.slice 46, 1, 24, .slice none 0 0, false⟩
abbrev tyE46 : TyE := ⟨.slice 3, 1, 24, .slice none 0 0, false⟩
abbrev tyE50 : TyE := ⟨.slice 56, 1, 24, .slice none 0 0, false⟩
abbrev tyE55 : TyE := ⟨.struct #[{ name := "Line", type := 3, offset := 0, embedded := false, tag := "", pkgPath := "", byteOffset := 0 }, { name := "Offset", type := 3, offset := 1, embedded := false, tag := "", pkgPath := "", byteOffset := 8 }], 2, 16, .agg #[.int .i64 0, .int .i64 0], false⟩
abbrev tyE56 : TyE := ⟨.struct #[{ name := "Line", type := 3, offset := 0, embedded := false, tag := "", pkgPath := "", byteOffset := 0 }, { name := "Offset", type := 3, offset := 1, embedded := false, tag := "", pkgPath := "", byteOffset := 8 }], 2, 16, .agg #[.int .i64 0, .int .i64 0], true⟩
abbrev tyE69 : TyE := ⟨.struct #[{ name := "Vehicle", type := 3, offset := 0, embedded := false, tag := "", pkgPath := "", byteOffset := 0 }, { name := "Time", type := 3, offset := 1, embedded := false, tag := "", pkgPath := "", byteOffset := 8 }, { name := "Line", type := 3, offset := 2, embedded := false, tag := "", pkgPath := "", byteOffset := 16 }, { name := "Done", type := 3, offset := 3, embedded := false, tag := "", pkgPath := "", byteOffset := 24 }], 4, 32, .agg #[.int .i64 0, .int .i64 0, .int .i64 0, .int .i64 0], false⟩
abbrev tyE70 : TyE := ⟨.struct #[{ name := "Vehicle", type := 3, offset := 0, embedded := false, tag := "", pkgPath := "", byteOffset := 0 }, { name := "Time", type := 3, offset := 1, embedded := false, tag := "", pkgPath := "", byteOffset := 8 }, { name := "Line", type := 3, offset := 2, embedded := false, tag := "", pkgPath := "", byteOffset := 16 }, { name := "Done", type := 3, offset := 3, embedded := false, tag := "", pkgPath := "", byteOffset := 24 }], 4, 32, .agg #[.int .i64 0, .int .i64 0, .int .i64 0, .int .i64 0], true⟩
abbrev tyE74 : TyE := ⟨.slice 78, 1, 24, .slice none 0 0, false⟩
abbrev tyE77 : TyE := ⟨.struct #[{ name := "Vehicle", type := 3, offset := 0, embedded := false, tag := "", pkgPath := "", byteOffset := 0 }, { name := "Id", type := 3, offset := 1, embedded := false, tag := "", pkgPath := "", byteOffset := 8 }, { name := "Delay", type := 3, offset := 2, embedded := false, tag := "", pkgPath := "", byteOffset := 16 }], 3, 24, .agg #[.int .i64 0, .int .i64 0, .int .i64 0], false⟩
abbrev tyE78 : TyE := ⟨.struct #[{ name := "Vehicle", type := 3, offset := 0, embedded := false, tag := "", pkgPath := "", byteOffset := 0 }, { name := "Id", type := 3, offset := 1, embedded := false, tag := "", pkgPath := "", byteOffset := 8 }, { name := "Delay", type := 3, offset := 2, embedded := false, tag := "", pkgPath := "", byteOffset := 16 }], 3, 24, .agg #[.int .i64 0, .int .i64 0, .int .i64 0], true⟩
abbrev tyE79 : TyE := ⟨.struct #[{ name := "Name", type := 9, offset := 0, embedded := false, tag := "", pkgPath := "", byteOffset := 0 }, { name := "Stops", type := 46, offset := 1, embedded := false, tag := "", pkgPath := "", byteOffset := 16 }, { name := "Runs", type := 46, offset := 2, embedded := false, tag := "", pkgPath := "", byteOffset := 40 }], 3, 64, .agg #[.string ByteArray.empty, .slice none 0 0, .slice none 0 0], false⟩
abbrev tyE80 : TyE := ⟨.struct #[{ name := "Name", type := 9, offset := 0, embedded := false, tag := "", pkgPath := "", byteOffset := 0 }, { name := "Stops", type := 46, offset := 1, embedded := false, tag := "", pkgPath := "", byteOffset := 16 }, { name := "Runs", type := 46, offset := 2, embedded := false, tag := "", pkgPath := "", byteOffset := 40 }], 3, 64, .agg #[.string ByteArray.empty, .slice none 0 0, .slice none 0 0], true⟩
abbrev tyE84 : TyE := ⟨.slice 70, 1, 24, .slice none 0 0, false⟩
abbrev tyE91 : TyE := ⟨.pointer 94, 1, 8, .pointer none, false⟩
abbrev tyE92 : TyE := ⟨.int .u64, 1, 8, .int .u64 0, false⟩
abbrev tyE93 : TyE := ⟨.struct #[{ name := "code", type := 22, offset := 0, embedded := false, tag := "", pkgPath := "loop.example/g00900/spec", byteOffset := 0 }, { name := "at", type := 3, offset := 1, embedded := false, tag := "", pkgPath := "loop.example/g00900/spec", byteOffset := 24 }, { name := "seed", type := 92, offset := 2, embedded := false, tag := "", pkgPath := "loop.example/g00900/spec", byteOffset := 32 }], 3, 40, .agg #[.slice none 0 0, .int .i64 0, .int .u64 0], true⟩
abbrev tyE94 : TyE := ⟨.struct #[{ name := "code", type := 22, offset := 0, embedded := false, tag := "", pkgPath := "loop.example/g00900/spec", byteOffset := 0 }, { name := "at", type := 3, offset := 1, embedded := false, tag := "", pkgPath := "loop.example/g00900/spec", byteOffset := 24 }, { name := "seed", type := 92, offset := 2, embedded := false, tag := "", pkgPath := "loop.example/g00900/spec", byteOffset := 32 }], 3, 40, .agg #[.slice none 0 0, .int .i64 0, .int .u64 0], true⟩
abbrev tyE104 : TyE := ⟨.slice 109, 1, 24, .slice none 0 0, false⟩
abbrev tyE106 : TyE := ⟨.struct #[{ name := "Id", type := 3, offset := 0, embedded := false, tag := "", pkgPath := "", byteOffset := 0 }, { name := "Line", type := 3, offset := 1, embedded := false, tag := "", pkgPath := "", byteOffset := 8 }, { name := "Start", type := 3, offset := 2, embedded := false, tag := "", pkgPath := "", byteOffset := 16 }], 3, 24, .agg #[.int .i64 0, .int .i64 0, .int .i64 0], false⟩
abbrev tyE107 : TyE := ⟨.struct #[{ name := "Id", type := 3, offset := 0, embedded := false, tag := "", pkgPath := "", byteOffset := 0 }, { name := "Line", type := 3, offset := 1, embedded := false, tag := "", pkgPath := "", byteOffset := 8 }, { name := "Start", type := 3, offset := 2, embedded := false, tag := "", pkgPath := "", byteOffset := 16 }], 3, 24, .agg #[.int .i64 0, .int .i64 0, .int .i64 0], true⟩
abbrev tyE108 : TyE := ⟨.struct #[{ name := "trip", type := 107, offset := 0, embedded := false, tag := "", pkgPath := "loop.example/g00900/impl", byteOffset := 0 }, { name := "time", type := 3, offset := 3, embedded := false, tag := "", pkgPath := "loop.example/g00900/impl", byteOffset := 24 }, { name := "delay", type := 3, offset := 4, embedded := false, tag := "", pkgPath := "loop.example/g00900/impl", byteOffset := 32 }], 5, 40, .agg #[.int .i64 0, .int .i64 0, .int .i64 0, .int .i64 0, .int .i64 0], true⟩
abbrev tyE109 : TyE := ⟨.struct #[{ name := "trip", type := 107, offset := 0, embedded := false, tag := "", pkgPath := "loop.example/g00900/impl", byteOffset := 0 }, { name := "time", type := 3, offset := 3, embedded := false, tag := "", pkgPath := "loop.example/g00900/impl", byteOffset := 24 }, { name := "delay", type := 3, offset := 4, embedded := false, tag := "", pkgPath := "loop.example/g00900/impl", byteOffset := 32 }], 5, 40, .agg #[.int .i64 0, .int .i64 0, .int .i64 0, .int .i64 0, .int .i64 0], true⟩
abbrev tyE113 : TyE := ⟨.slice 117, 1, 24, .slice none 0 0, false⟩
abbrev tyE117 : TyE := ⟨.array 2 3, 2, 16, .agg #[.int .i64 0, .int .i64 0], false⟩
abbrev tyE157 : TyE := ⟨.int .u64, 1, 8, .int .u64 0, false⟩
abbrev tyE168 : TyE := ⟨.array 100 70, 400, 3200, .agg #[.int .i64 0, .int .i64 0, .int .i64 0, .int .i64 0, .int .i64 0, .int .i64 0, .int .i64 0, .int .i64 0, .int .i64 0, .int .i64 0, .int .i64 0, .int .i64 0, .int .i64 0, .int .i64 0, .int .i64 0, .int .i64 0, .int .i64 0, .int .i64 0, .int .i64 0, .int .i64 0, .int .i64 0, .int .i64 0, .int .i64 0, .int .i64 0, .int .i64 0, .int .i64 0, .int .i64 0, .int .i64 0, .int .i64 0, .int .i64 0, .int .i64 0, .int .i64 0, .int .i64 0, .int .i64 0, .int .i64 0, .int .i64 0, .int .i64 0, .int .i64 0, .int .i64 0, .int .i64 0, .int .i64 0, .int .i64 0, .int .i64 0, .int .i64 0, .int .i64 0, .int .i64 0, .int .i64 0, .int .i64 0, .int .i64 0, .int .i64 0, .int .i64 0, .int .i64 0, .int .i64 0, .int .i64 0, .int .i64 0, .int .i64 0, .int .i64 0, .int .i64 0, .int .i64 0, .int .i64 0, .int .i64 0, .int .i64 0, .int .i64 0, .int .i64 0, .int .i64 0, .int .i64 0, .int .i64 0, .int .i64 0, .int .i64 0, .int .i64 0, .int .i64 0, .int .i64 0, .int .i64 0, .int .i64 0, .int .i64 0, .int .i64 0, .int .i64 0, .int .i64 0, .int .i64 0, .int .i64 0, .int .i64 0, .int .i64 0, .int .i64 0, .int .i64 0, .int .i64 0, .int .i64 0, .int .i64 0, .int .i64 0, .int .i64 0, .int .i64 0, .int .i64 0, .int .i64 0, .int .i64 0, .int .i64 0, .int .i64 0, .int .i64 0, .int .i64 0, .int .i64 0, .int .i64 0, .int .i64 0, .int .i64 0, .int .i64 0, .int .i64 0, .int .i64 0, .int .i64 0, .int .i64 0, .int .i64 0, .int .i64 0, .int .i64 0, .int .i64 0, .int .i64 0, .int .i64 0, .int .i64 0, .int .i64 0, .int .i64 0, .int .i64 0, .int .i64 0, .int .i64 0, .int .i64 0, .int .i64 0, .int .i64 0, .int .i64 0, .int .i64 0, .int .i64 0, .int .i64 0, .int .i64 0, .int .i64 0, .int .i64 0, .int .i64 0, .int .i64 0, .int .i64 0, .int .i64 0, .int .i64 0, .int .i64 0, .int .i64 0, .int .i64 0, .int .i64 0, .int .i64 0, .int .i64 0, .int .i64 0, .int .i64 0, .int .i64 0, .int .i64 0, .int .i64 0, .int .i64 0, .int .i64 0, .int .i64 0, .int .i64 0, .int .i64 0, .int .i64 0, .int .i64 0, .int .i64 0, .int .i64 0, .int .i64 0, .int .i64 0, .int .i64 0, .int .i64 0, .int .i64 0, .int .i64 0, .int .i64 0, .int .i64 0, .int .i64 0, .int .i64 0, .int .i64 0, .int .i64 0, .int .i64 0, .int .i64 0, .int .i64 0, .int .i64 0, .int .i64 0, .int .i64 0, .int .i64 0, .int .i64 0, .int .i64 0, .int .i64 0, .int .i64 0, .int .i64 0, .int .i64 0, .int .i64 0, .int .i64 0, .int .i64 0, .int .i64 0, .int .i64 0, .int .i64 0, .int .i64 0, .int .i64 0, .int .i64 0, .int .i64 0, .int .i64 0, .int .i64 0, .int .i64 0, .int .i64 0, .int .i64 0, .int .i64 0, .int .i64 0, .int .i64 0, .int .i64 0, .int .i64 0, .int .i64 0, .int .i64 0, .int .i64 0, .int .i64 0, .int .i64 0, .int .i64 0, .int .i64 0, .int .i64 0, .int .i64 0, .int .i64 0, .int .i64 0, .int .i64 0, .int .i64 0, .int .i64 0, .int .i64 0, .int .i64 0, .int .i64 0, .int .i64 0, .int .i64 0, .int .i64 0, .int .i64 0, .int .i64 0, .int .i64 0, .int .i64 0, .int .i64 0, .int .i64 0, .int .i64 0, .int .i64 0, .int .i64 0, .int .i64 0, .int .i64 0, .int .i64 0, .int .i64 0, .int .i64 0, .int .i64 0, .int .i64 0, .int .i64 0, .int .i64 0, .int .i64 0, .int .i64 0, .int .i64 0, .int .i64 0, .int .i64 0, .int .i64 0, .int .i64 0, .int .i64 0, .int .i64 0, .int .i64 0, .int .i64 0, .int .i64 0, .int .i64 0, .int .i64 0, .int .i64 0, .int .i64 0, .int .i64 0, .int .i64 0, .int .i64 0, .int .i64 0, .int .i64 0, .int .i64 0, .int .i64 0, .int .i64 0, .int .i64 0, .int .i64 0, .int .i64 0, .int .i64 0, .int .i64 0, .int .i64 0, .int .i64 0, .int .i64 0, .int .i64 0, .int .i64 0, .int .i64 0, .int .i64 0, .int .i64 0, .int .i64 0, .int .i64 0, .int .i64 0, .int .i64 0, .int .i64 0, .int .i64 0, .int .i64 0, .int .i64 0, .int .i64 0, .int .i64 0, .int .i64 0, .int .i64 0, .int .i64 0, .int .i64 0, .int .i64 0, .int .i64 0, .int .i64 0, .int .i64 0, .int .i64 0, .int .i64 0, .int .i64 0, .int .i64 0, .int .i64 0, .int .i64 0, .int .i64 0, .int .i64 0, .int .i64 0, .int .i64 0, .int .i64 0, .int .i64 0, .int .i64 0, .int .i64 0, .int .i64 0, .int .i64 0, .int .i64 0, .int .i64 0, .int .i64 0, .int .i64 0, .int .i64 0, .int .i64 0, .int .i64 0, .int .i64 0, .int .i64 0, .int .i64 0, .int .i64 0, .int .i64 0, .int .i64 0, .int .i64 0, .int .i64 0, .int .i64 0, .int .i64 0, .int .i64 0, .int .i64 0, .int .i64 0, .int .i64 0, .int .i64 0, .int .i64 0, .int .i64 0, .int .i64 0, .int .i64 0, .int .i64 0, .int .i64 0, .int .i64 0, .int .i64 0, .int .i64 0, .int .i64 0, .int .i64 0, .int .i64 0, .int .i64 0, .int .i64 0, .int .i64 0, .int .i64 0, .int .i64 0, .int .i64 0, .int .i64 0, .int .i64 0, .int .i64 0, .int .i64 0, .int .i64 0, .int .i64 0, .int .i64 0, .int .i64 0, .int .i64 0, .int .i64 0, .int .i64 0, .int .i64 0, .int .i64 0, .int .i64 0, .int .i64 0, .int .i64 0, .int .i64 0, .int .i64 0, .int .i64 0, .int .i64 0, .int .i64 0, .int .i64 0, .int .i64 0, .int .i64 0, .int .i64 0, .int .i64 0, .int .i64 0, .int .i64 0, .int .i64 0, .int .i64 0, .int .i64 0, .int .i64 0, .int .i64 0, .int .i64 0, .int .i64 0, .int .i64 0, .int .i64 0, .int .i64 0, .int .i64 0, .int .i64 0, .int .i64 0, .int .i64 0, .int .i64 0, .int .i64 0, .int .i64 0, .int .i64 0, .int .i64 0, .int .i64 0, .int .i64 0, .int .i64 0, .int .i64 0, .int .i64 0, .int .i64 0], false⟩
abbrev tyE173 : TyE := ⟨.int .i64, 1, 8, .int .i64 0, false⟩
abbrev tyE180 : TyE := ⟨.int .u32, 1, 4, .int .u32 0, false⟩
abbrev tyE190 : TyE := ⟨.int .u64, 1, 8, .int .u64 0, false⟩
abbrev tyE194 : TyE := ⟨.pointer 3, 1, 8, .pointer none, false⟩
abbrev tyE204 : TyE := ⟨.pointer 190, 1, 8, .pointer none, false⟩
abbrev tyE210 : TyE := ⟨.struct #[{ name := "_interface", type := 17, offset := 0, embedded := false, tag := "", pkgPath := "runtime", byteOffset := 0 }, { name := "concrete", type := 17, offset := 1, embedded := false, tag := "", pkgPath := "runtime", byteOffset := 8 }, { name := "asserted", type := 17, offset := 2, embedded := false, tag := "", pkgPath := "runtime", byteOffset := 16 }, { name := "missingMethod", type := 9, offset := 3, embedded := false, tag := "", pkgPath := "runtime", byteOffset := 24 }], 4, 40, .agg #[.pointer none, .pointer none, .pointer none, .string ByteArray.empty], false⟩
abbrev tyE213 : TyE := ⟨.struct #[{ name := "_", type := 212, offset := 0, embedded := false, tag := "", pkgPath := "runtime", byteOffset := 0 }], 0, 0, .agg #[], false⟩
abbrev tyE218 : TyE := ⟨.pointer 5, 1, 8, .pointer none, false⟩
abbrev tyE221 : TyE := ⟨.struct #[{ name := "Size_", type := 12, offset := 0, embedded := false, tag := "", pkgPath := "", byteOffset := 0 }, { name := "PtrBytes", type := 12, offset := 1, embedded := false, tag := "", pkgPath := "", byteOffset := 8 }, { name := "Hash", type := 180, offset := 2, embedded := false, tag := "", pkgPath := "", byteOffset := 16 }, { name := "TFlag", type := 215, offset := 3, embedded := false, tag := "", pkgPath := "", byteOffset := 20 }, { name := "Align_", type := 5, offset := 4, embedded := false, tag := "", pkgPath := "", byteOffset := 21 }, { name := "FieldAlign_", type := 5, offset := 5, embedded := false, tag := "", pkgPath := "", byteOffset := 22 }, { name := "Kind_", type := 216, offset := 6, embedded := false, tag := "", pkgPath := "", byteOffset := 23 }, { name := "Equal", type := 217, offset := 7, embedded := false, tag := "", pkgPath := "", byteOffset := 24 }, { name := "GCData", type := 218, offset := 8, embedded := false, tag := "", pkgPath := "", byteOffset := 32 }, { name := "Str", type := 219, offset := 9, embedded := false, tag := "", pkgPath := "", byteOffset := 40 }, { name := "PtrToThis", type := 220, offset := 10, embedded := false, tag := "", pkgPath := "", byteOffset := 44 }], 11, 48, .agg #[.int .u64 0, .int .u64 0, .int .u32 0, .int .u8 0, .int .u8 0, .int .u8 0, .int .u8 0, .nilFunc, .pointer none, .int .i32 0, .int .i32 0], false⟩
abbrev tyE223 : TyE := ⟨.unsafePointer, 1, 8, .pointer none, false⟩
def tyL : List (Nat × TyE) := [(2, tyE2), (3, tyE3), (4, tyE4), (5, tyE5), (7, tyE7), (9, tyE9), (12, tyE12), (13, tyE13), (15, tyE15), (16, tyE16), (17, tyE17), (18, tyE18), (21, tyE21), (22, tyE22), (24, tyE24), (25, tyE25), (26, tyE26), (27, tyE27), (28, tyE28), (29, tyE29), (30, tyE30), (31, tyE31), (36, tyE36), (37, tyE37), (40, tyE40), (46, tyE46), (50, tyE50), (55, tyE55), (56, tyE56), (69, tyE69), (70, tyE70), (74, tyE74), (77, tyE77), (78, tyE78), (79, tyE79), (80, tyE80), (84, tyE84), (91, tyE91), (92, tyE92), (93, tyE93), (94, tyE94), (104, tyE104), (106, tyE106), (107, tyE107), (108, tyE108), (109, tyE109), (113, tyE113), (117, tyE117), (157, tyE157), (168, tyE168), (173, tyE173), (180, tyE180), (190, tyE190), (194, tyE194), (204, tyE204), (210, tyE210), (213, tyE213), (218, tyE218), (221, tyE221), (223, tyE223)]
def ty (t : TypeId) : Option TyE := lookT t tyL
@[simp] theorem ty_2 : ty 2 = some tyE2 := rfl
@[simp] theorem ty_3 : ty 3 = some tyE3 := rfl
@[simp] theorem ty_4 : ty 4 = some tyE4 := rfl
@[simp] theorem ty_5 : ty 5 = some tyE5 := rfl
@[simp] theorem ty_7 : ty 7 = some tyE7 := rfl
@[simp] theorem ty_9 : ty 9 = some tyE9 := rfl
@[simp] theorem ty_12 : ty 12 = some tyE12 := rfl
@[simp] theorem ty_13 : ty 13 = some tyE13 := rfl
@[simp] theorem ty_15 : ty 15 = some tyE15 := rfl
@[simp] theorem ty_16 : ty 16 = some tyE16 := rfl
@[simp] theorem ty_17 : ty 17 = some tyE17 := rfl
@[simp] theorem ty_18 : ty 18 = some tyE18 := rfl
@[simp] theorem ty_21 : ty 21 = some tyE21 := rfl
@[simp] theorem ty_22 : ty 22 = some tyE22 := rfl
@[simp] theorem ty_24 : ty 24 = some tyE24 := rfl
@[simp] theorem ty_25 : ty 25 = some tyE25 := rfl
@[simp] theorem ty_26 : ty 26 = some tyE26 := rfl
@[simp] theorem ty_27 : ty 27 = some tyE27 := rfl
@[simp] theorem ty_28 : ty 28 = some tyE28 := rfl
@[simp] theorem ty_29 : ty 29 = some tyE29 := rfl
@[simp] theorem ty_30 : ty 30 = some tyE30 := rfl
@[simp] theorem ty_31 : ty 31 = some tyE31 := rfl
@[simp] theorem ty_36 : ty 36 = some tyE36 := rfl
@[simp] theorem ty_37 : ty 37 = some tyE37 := rfl
@[simp] theorem ty_40 : ty 40 = some tyE40 := rfl
@[simp] theorem ty_46 : ty 46 = some tyE46 := rfl
@[simp] theorem ty_50 : ty 50 = some tyE50 := rfl
@[simp] theorem ty_55 : ty 55 = some tyE55 := rfl
@[simp] theorem ty_56 : ty 56 = some tyE56 := rfl
@[simp] theorem ty_69 : ty 69 = some tyE69 := rfl
@[simp] theorem ty_70 : ty 70 = some tyE70 := rfl
@[simp] theorem ty_74 : ty 74 = some tyE74 := rfl
@[simp] theorem ty_77 : ty 77 = some tyE77 := rfl
@[simp] theorem ty_78 : ty 78 = some tyE78 := rfl
@[simp] theorem ty_79 : ty 79 = some tyE79 := rfl
@[simp] theorem ty_80 : ty 80 = some tyE80 := rfl
@[simp] theorem ty_84 : ty 84 = some tyE84 := rfl
@[simp] theorem ty_91 : ty 91 = some tyE91 := rfl
@[simp] theorem ty_92 : ty 92 = some tyE92 := rfl
@[simp] theorem ty_93 : ty 93 = some tyE93 := rfl
@[simp] theorem ty_94 : ty 94 = some tyE94 := rfl
@[simp] theorem ty_104 : ty 104 = some tyE104 := rfl
@[simp] theorem ty_106 : ty 106 = some tyE106 := rfl
@[simp] theorem ty_107 : ty 107 = some tyE107 := rfl
@[simp] theorem ty_108 : ty 108 = some tyE108 := rfl
@[simp] theorem ty_109 : ty 109 = some tyE109 := rfl
@[simp] theorem ty_113 : ty 113 = some tyE113 := rfl
@[simp] theorem ty_117 : ty 117 = some tyE117 := rfl
@[simp] theorem ty_157 : ty 157 = some tyE157 := rfl
@[simp] theorem ty_168 : ty 168 = some tyE168 := rfl
@[simp] theorem ty_173 : ty 173 = some tyE173 := rfl
@[simp] theorem ty_180 : ty 180 = some tyE180 := rfl
@[simp] theorem ty_190 : ty 190 = some tyE190 := rfl
@[simp] theorem ty_194 : ty 194 = some tyE194 := rfl
@[simp] theorem ty_204 : ty 204 = some tyE204 := rfl
@[simp] theorem ty_210 : ty 210 = some tyE210 := rfl
@[simp] theorem ty_213 : ty 213 = some tyE213 := rfl
@[simp] theorem ty_218 : ty 218 = some tyE218 := rfl
@[simp] theorem ty_221 : ty 221 = some tyE221 := rfl
@[simp] theorem ty_223 : ty 223 = some tyE223 := rfl
theorem tyOK_2 : TyOK Try.prog 2 tyE2 := ⟨Try.underlying2, Try.t2, Try.type2, rfl, rfl, rfl, fun h => by cases h⟩
theorem tyOK_3 : TyOK Try.prog 3 tyE3 := ⟨Try.underlying3, Try.t3, Try.type3, rfl, rfl, rfl, fun h => by cases h⟩
theorem tyOK_4 : TyOK Try.prog 4 tyE4 := ⟨Try.underlying4, Try.t4, Try.type4, rfl, rfl, rfl, fun h => by cases h⟩
theorem tyOK_5 : TyOK Try.prog 5 tyE5 := ⟨Try.underlying5, Try.t5, Try.type5, rfl, rfl, rfl, fun h => by cases h⟩
theorem tyOK_7 : TyOK Try.prog 7 tyE7 := ⟨Try.underlying7, Try.t7, Try.type7, rfl, rfl, rfl, fun h => by cases h⟩
theorem tyOK_9 : TyOK Try.prog 9 tyE9 := ⟨Try.underlying9, Try.t9, Try.type9, rfl, rfl, rfl, fun h => by cases h⟩
theorem tyOK_12 : TyOK Try.prog 12 tyE12 := ⟨Try.underlying12, Try.t12, Try.type12, rfl, rfl, rfl, fun h => by cases h⟩
theorem tyOK_13 : TyOK Try.prog 13 tyE13 := ⟨Try.underlying13, Try.t13, Try.type13, rfl, rfl, rfl, fun h => by cases h⟩
theorem tyOK_15 : TyOK Try.prog 15 tyE15 := ⟨Try.underlying15, Try.t15, Try.type15, rfl, rfl, rfl, fun h => by cases h⟩
theorem tyOK_16 : TyOK Try.prog 16 tyE16 := ⟨Try.underlying16, Try.t16, Try.type16, rfl, rfl, rfl, fun h => by cases h⟩
theorem tyOK_17 : TyOK Try.prog 17 tyE17 := ⟨Try.underlying17, Try.t17, Try.type17, rfl, rfl, rfl, fun h => by cases h⟩
theorem tyOK_18 : TyOK Try.prog 18 tyE18 := ⟨Try.underlying18, Try.t18, Try.type18, rfl, rfl, rfl, fun h => by cases h⟩
theorem tyOK_21 : TyOK Try.prog 21 tyE21 := ⟨Try.underlying21, Try.t21, Try.type21, rfl, rfl, rfl, fun h => by cases h⟩
theorem tyOK_22 : TyOK Try.prog 22 tyE22 := ⟨Try.underlying22, Try.t22, Try.type22, rfl, rfl, rfl, fun h => by cases h⟩
theorem tyOK_24 : TyOK Try.prog 24 tyE24 := ⟨Try.underlying24, Try.t24, Try.type24, rfl, rfl, rfl, fun h => by cases h⟩
theorem tyOK_25 : TyOK Try.prog 25 tyE25 := ⟨Try.underlying25, Try.t25, Try.type25, rfl, rfl, rfl, fun h => by cases h⟩
theorem tyOK_26 : TyOK Try.prog 26 tyE26 := ⟨Try.underlying26, Try.t26, Try.type26, rfl, rfl, rfl, fun h => by cases h⟩
theorem tyOK_27 : TyOK Try.prog 27 tyE27 := ⟨Try.underlying27, Try.t27, Try.type27, rfl, rfl, rfl, fun _ => ⟨by kernel_rfl, by kernel_rfl, by rintro _ ⟨⟩; rfl⟩⟩
theorem tyOK_28 : TyOK Try.prog 28 tyE28 := ⟨Try.underlying28, Try.t28, Try.type28, rfl, rfl, rfl, fun h => by cases h⟩
theorem tyOK_29 : TyOK Try.prog 29 tyE29 := ⟨Try.underlying29, Try.t29, Try.type29, rfl, rfl, rfl, fun h => by cases h⟩
theorem tyOK_30 : TyOK Try.prog 30 tyE30 := ⟨Try.underlying30, Try.t30, Try.type30, rfl, rfl, rfl, fun _ => ⟨by kernel_rfl, by kernel_rfl, by rintro _ ⟨⟩; rfl⟩⟩
theorem tyOK_31 : TyOK Try.prog 31 tyE31 := ⟨Try.underlying31, Try.t31, Try.type31, rfl, rfl, rfl, fun h => by cases h⟩
theorem tyOK_36 : TyOK Try.prog 36 tyE36 := ⟨Try.underlying36, Try.t36, Try.type36, rfl, rfl, rfl, fun h => by cases h⟩
theorem tyOK_37 : TyOK Try.prog 37 tyE37 := ⟨Try.underlying37, Try.t37, Try.type37, rfl, rfl, rfl, fun _ => ⟨by kernel_rfl, by kernel_rfl, by rintro _ ⟨⟩; rfl⟩⟩
theorem tyOK_40 : TyOK Try.prog 40 tyE40 := ⟨Try.underlying40, Try.t40, Try.type40, rfl, rfl, rfl, fun h => by cases h⟩
theorem tyOK_46 : TyOK Try.prog 46 tyE46 := ⟨Try.underlying46, Try.t46, Try.type46, rfl, rfl, rfl, fun h => by cases h⟩
theorem tyOK_50 : TyOK Try.prog 50 tyE50 := ⟨Try.underlying50, Try.t50, Try.type50, rfl, rfl, rfl, fun h => by cases h⟩
theorem tyOK_55 : TyOK Try.prog 55 tyE55 := ⟨Try.underlying55, Try.t55, Try.type55, rfl, rfl, rfl, fun h => by cases h⟩
theorem tyOK_56 : TyOK Try.prog 56 tyE56 := ⟨Try.underlying56, Try.t56, Try.type56, rfl, rfl, rfl, fun _ => ⟨by kernel_rfl, by kernel_rfl, by rintro _ ⟨⟩; rfl⟩⟩
theorem tyOK_69 : TyOK Try.prog 69 tyE69 := ⟨Try.underlying69, Try.t69, Try.type69, rfl, rfl, rfl, fun h => by cases h⟩
theorem tyOK_70 : TyOK Try.prog 70 tyE70 := ⟨Try.underlying70, Try.t70, Try.type70, rfl, rfl, rfl, fun _ => ⟨by kernel_rfl, by kernel_rfl, by rintro _ ⟨⟩; rfl⟩⟩
theorem tyOK_74 : TyOK Try.prog 74 tyE74 := ⟨Try.underlying74, Try.t74, Try.type74, rfl, rfl, rfl, fun h => by cases h⟩
theorem tyOK_77 : TyOK Try.prog 77 tyE77 := ⟨Try.underlying77, Try.t77, Try.type77, rfl, rfl, rfl, fun h => by cases h⟩
theorem tyOK_78 : TyOK Try.prog 78 tyE78 := ⟨Try.underlying78, Try.t78, Try.type78, rfl, rfl, rfl, fun _ => ⟨by kernel_rfl, by kernel_rfl, by rintro _ ⟨⟩; rfl⟩⟩
theorem tyOK_79 : TyOK Try.prog 79 tyE79 := ⟨Try.underlying79, Try.t79, Try.type79, rfl, rfl, rfl, fun h => by cases h⟩
theorem tyOK_80 : TyOK Try.prog 80 tyE80 := ⟨Try.underlying80, Try.t80, Try.type80, rfl, rfl, rfl, fun _ => ⟨by kernel_rfl, by kernel_rfl, by rintro _ ⟨⟩; rfl⟩⟩
theorem tyOK_84 : TyOK Try.prog 84 tyE84 := ⟨Try.underlying84, Try.t84, Try.type84, rfl, rfl, rfl, fun h => by cases h⟩
theorem tyOK_91 : TyOK Try.prog 91 tyE91 := ⟨Try.underlying91, Try.t91, Try.type91, rfl, rfl, rfl, fun h => by cases h⟩
theorem tyOK_92 : TyOK Try.prog 92 tyE92 := ⟨Try.underlying92, Try.t92, Try.type92, rfl, rfl, rfl, fun h => by cases h⟩
theorem tyOK_93 : TyOK Try.prog 93 tyE93 := ⟨Try.underlying93, Try.t93, Try.type93, rfl, rfl, rfl, fun _ => ⟨by kernel_rfl, by kernel_rfl, by rintro _ ⟨⟩; rfl⟩⟩
theorem tyOK_94 : TyOK Try.prog 94 tyE94 := ⟨Try.underlying94, Try.t94, Try.type94, rfl, rfl, rfl, fun _ => ⟨by kernel_rfl, by kernel_rfl, by rintro _ ⟨⟩; rfl⟩⟩
theorem tyOK_104 : TyOK Try.prog 104 tyE104 := ⟨Try.underlying104, Try.t104, Try.type104, rfl, rfl, rfl, fun h => by cases h⟩
theorem tyOK_106 : TyOK Try.prog 106 tyE106 := ⟨Try.underlying106, Try.t106, Try.type106, rfl, rfl, rfl, fun h => by cases h⟩
theorem tyOK_107 : TyOK Try.prog 107 tyE107 := ⟨Try.underlying107, Try.t107, Try.type107, rfl, rfl, rfl, fun _ => ⟨by kernel_rfl, by kernel_rfl, by rintro _ ⟨⟩; rfl⟩⟩
theorem tyOK_108 : TyOK Try.prog 108 tyE108 := ⟨Try.underlying108, Try.t108, Try.type108, rfl, rfl, rfl, fun _ => ⟨by kernel_rfl, by kernel_rfl, by rintro _ ⟨⟩; rfl⟩⟩
theorem tyOK_109 : TyOK Try.prog 109 tyE109 := ⟨Try.underlying109, Try.t109, Try.type109, rfl, rfl, rfl, fun _ => ⟨by kernel_rfl, by kernel_rfl, by rintro _ ⟨⟩; rfl⟩⟩
theorem tyOK_113 : TyOK Try.prog 113 tyE113 := ⟨Try.underlying113, Try.t113, Try.type113, rfl, rfl, rfl, fun h => by cases h⟩
theorem tyOK_117 : TyOK Try.prog 117 tyE117 := ⟨Try.underlying117, Try.t117, Try.type117, rfl, rfl, rfl, fun h => by cases h⟩
theorem tyOK_157 : TyOK Try.prog 157 tyE157 := ⟨Try.underlying157, Try.t157, Try.type157, rfl, rfl, rfl, fun h => by cases h⟩
theorem tyOK_168 : TyOK Try.prog 168 tyE168 := ⟨Try.underlying168, Try.t168, Try.type168, rfl, rfl, rfl, fun h => by cases h⟩
theorem tyOK_173 : TyOK Try.prog 173 tyE173 := ⟨Try.underlying173, Try.t173, Try.type173, rfl, rfl, rfl, fun h => by cases h⟩
theorem tyOK_180 : TyOK Try.prog 180 tyE180 := ⟨Try.underlying180, Try.t180, Try.type180, rfl, rfl, rfl, fun h => by cases h⟩
theorem tyOK_190 : TyOK Try.prog 190 tyE190 := ⟨Try.underlying190, Try.t190, Try.type190, rfl, rfl, rfl, fun h => by cases h⟩
theorem tyOK_194 : TyOK Try.prog 194 tyE194 := ⟨Try.underlying194, Try.t194, Try.type194, rfl, rfl, rfl, fun h => by cases h⟩
theorem tyOK_204 : TyOK Try.prog 204 tyE204 := ⟨Try.underlying204, Try.t204, Try.type204, rfl, rfl, rfl, fun h => by cases h⟩
theorem tyOK_210 : TyOK Try.prog 210 tyE210 := ⟨Try.underlying210, Try.t210, Try.type210, rfl, rfl, rfl, fun h => by cases h⟩
theorem tyOK_213 : TyOK Try.prog 213 tyE213 := ⟨Try.underlying213, Try.t213, Try.type213, rfl, rfl, rfl, fun h => by cases h⟩
theorem tyOK_218 : TyOK Try.prog 218 tyE218 := ⟨Try.underlying218, Try.t218, Try.type218, rfl, rfl, rfl, fun h => by cases h⟩
theorem tyOK_221 : TyOK Try.prog 221 tyE221 := ⟨Try.underlying221, Try.t221, Try.type221, rfl, rfl, rfl, fun h => by cases h⟩
theorem tyOK_223 : TyOK Try.prog 223 tyE223 := ⟨Try.underlying223, Try.t223, Try.type223, rfl, rfl, rfl, fun h => by cases h⟩
theorem ty_ok : ∀ t x, ty t = some x → TyOK Try.prog t x := lookT_ok (allT_cons tyOK_2 (allT_cons tyOK_3 (allT_cons tyOK_4 (allT_cons tyOK_5 (allT_cons tyOK_7 (allT_cons tyOK_9 (allT_cons tyOK_12 (allT_cons tyOK_13 (allT_cons tyOK_15 (allT_cons tyOK_16 (allT_cons tyOK_17 (allT_cons tyOK_18 (allT_cons tyOK_21 (allT_cons tyOK_22 (allT_cons tyOK_24 (allT_cons tyOK_25 (allT_cons tyOK_26 (allT_cons tyOK_27 (allT_cons tyOK_28 (allT_cons tyOK_29 (allT_cons tyOK_30 (allT_cons tyOK_31 (allT_cons tyOK_36 (allT_cons tyOK_37 (allT_cons tyOK_40 (allT_cons tyOK_46 (allT_cons tyOK_50 (allT_cons tyOK_55 (allT_cons tyOK_56 (allT_cons tyOK_69 (allT_cons tyOK_70 (allT_cons tyOK_74 (allT_cons tyOK_77 (allT_cons tyOK_78 (allT_cons tyOK_79 (allT_cons tyOK_80 (allT_cons tyOK_84 (allT_cons tyOK_91 (allT_cons tyOK_92 (allT_cons tyOK_93 (allT_cons tyOK_94 (allT_cons tyOK_104 (allT_cons tyOK_106 (allT_cons tyOK_107 (allT_cons tyOK_108 (allT_cons tyOK_109 (allT_cons tyOK_113 (allT_cons tyOK_117 (allT_cons tyOK_157 (allT_cons tyOK_168 (allT_cons tyOK_173 (allT_cons tyOK_180 (allT_cons tyOK_190 (allT_cons tyOK_194 (allT_cons tyOK_204 (allT_cons tyOK_210 (allT_cons tyOK_213 (allT_cons tyOK_218 (allT_cons tyOK_221 (allT_cons tyOK_223 allT_nil))))))))))))))))))))))))))))))))))))))))))))))))))))))))))))
end Go.Proofs.Ytjljkjbdkjjdcaa
