/- The texts of this claim, part 2: a small logic of plain values for the model's runs, what it says of the functions, in plain values. -/
import Derived.Test.YtbjolkepjbblcaaGreatDoorProg
import Derived.KernelRfl
import Derived.Lib.Strings
import Derived.Lib.Walk
import Derived.Lib.Builder
import Derived.Lib.UnsafeStr
import Derived.WalkKit
import Derived.Laws.Externs
import Derived.Shelf.RegionOpenPlain
import Derived.Test.YtbjolkepjbblcaaGreatDoorPvG0
import Derived.Test.YtbjolkepjbblcaaGreatDoorPvG1
/- The table of types. -/
namespace Go.Pv
open Go.Proofs
def T : Tab
  | 2 => some ⟨.int .i64, 1, 8, [.int .i64 0]⟩
  | 3 => some ⟨.int .i64, 1, 8, [.int .i64 0]⟩
  | 4 => some ⟨.bool, 1, 1, [.bool false]⟩
  | 5 => some ⟨.int .u8, 1, 1, [.int .u8 0]⟩
  | 6 => some ⟨.int .u8, 1, 1, [.int .u8 0]⟩
  | 7 => some ⟨.struct [(0, 2), (1, 3), (2, 4), (3, 6)], 4, 24, [.int .i64 0, .int .i64 0, .bool false, .int .u8 0]⟩
  | 8 => some ⟨.struct [(0, 2), (1, 3), (2, 4), (3, 6)], 4, 24, [.int .i64 0, .int .i64 0, .bool false, .int .u8 0]⟩
  | 9 => some ⟨.str, 1, 16, [.str ByteArray.empty]⟩
  | 10 => some ⟨.str, 1, 16, [.str ByteArray.empty]⟩
  | 11 => some ⟨.str, 1, 16, [.str ByteArray.empty]⟩
  | 12 => some ⟨.int .u64, 1, 8, [.int .u64 0]⟩
  | 15 => some ⟨.ptr 249, 1, 8, [.nilp]⟩
  | 16 => some ⟨.ptr 252, 1, 8, [.nilp]⟩
  | 17 => some ⟨.ptr 259, 1, 8, [.nilp]⟩
  | 18 => some ⟨.struct [(0, 17)], 1, 8, [.nilp]⟩
  | 19 => some ⟨.struct [(0, 17)], 1, 8, [.nilp]⟩
  | 21 => some ⟨.int .i32, 1, 4, [.int .i32 0]⟩
  | 22 => some ⟨.slice 123, 1, 24, [.nils]⟩
  | 23 => some ⟨.slice 125, 1, 24, [.nils]⟩
  | 24 => some ⟨.slice 9, 1, 24, [.nils]⟩
  | 25 => some ⟨.struct [(0, 22), (1, 23), (2, 23), (3, 24), (4, 3), (5, 3)], 6, 112, [.nils, .nils, .nils, .nils, .int .i64 0, .int .i64 0]⟩
  | 26 => some ⟨.struct [(0, 22), (1, 23), (2, 23), (3, 24), (4, 3), (5, 3)], 6, 112, [.nils, .nils, .nils, .nils, .int .i64 0, .int .i64 0]⟩
  | 29 => some ⟨.slice 104, 1, 24, [.nils]⟩
  | 30 => some ⟨.slice 82, 1, 24, [.nils]⟩
  | 31 => some ⟨.struct [(0, 29), (1, 30), (2, 30), (3, 24), (4, 3), (5, 3)], 6, 112, [.nils, .nils, .nils, .nils, .int .i64 0, .int .i64 0]⟩
  | 32 => some ⟨.struct [(0, 29), (1, 30), (2, 30), (3, 24), (4, 3), (5, 3)], 6, 112, [.nils, .nils, .nils, .nils, .int .i64 0, .int .i64 0]⟩
  | 39 => some ⟨.slice 3, 1, 24, [.nils]⟩
  | 44 => some ⟨.slice 68, 1, 24, [.nils]⟩
  | 48 => some ⟨.slice 5, 1, 24, [.nils]⟩
  | 60 => some ⟨.struct [(0, 3), (1, 3), (2, 3), (3, 3)], 4, 32, [.int .i64 0, .int .i64 0, .int .i64 0, .int .i64 0]⟩
  | 61 => some ⟨.struct [(0, 3), (1, 3), (2, 3), (3, 3)], 4, 32, [.int .i64 0, .int .i64 0, .int .i64 0, .int .i64 0]⟩
  | 67 => some ⟨.struct [(0, 9), (1, 3)], 2, 24, [.str ByteArray.empty, .int .i64 0]⟩
  | 68 => some ⟨.struct [(0, 9), (1, 3)], 2, 24, [.str ByteArray.empty, .int .i64 0]⟩
  | 81 => some ⟨.struct [(0, 9), (1, 3)], 2, 24, [.str ByteArray.empty, .int .i64 0]⟩
  | 82 => some ⟨.struct [(0, 9), (1, 3)], 2, 24, [.str ByteArray.empty, .int .i64 0]⟩
  | 90 => some ⟨.ptr 142, 1, 8, [.nilp]⟩
  | 92 => some ⟨.slice 97, 1, 24, [.nils]⟩
  | 94 => some ⟨.struct [(0, 4), (1, 61), (5, 24), (6, 39), (7, 3), (8, 4)], 9, 104, [.bool false, .int .i64 0, .int .i64 0, .int .i64 0, .int .i64 0, .nils, .nils, .int .i64 0, .bool false]⟩
  | 95 => some ⟨.struct [(0, 4), (1, 61), (5, 24), (6, 39), (7, 3), (8, 4)], 9, 104, [.bool false, .int .i64 0, .int .i64 0, .int .i64 0, .int .i64 0, .nils, .nils, .int .i64 0, .bool false]⟩
  | 96 => some ⟨.struct [(0, 3), (1, 9), (2, 95)], 11, 128, [.int .i64 0, .str ByteArray.empty, .bool false, .int .i64 0, .int .i64 0, .int .i64 0, .int .i64 0, .nils, .nils, .int .i64 0, .bool false]⟩
  | 97 => some ⟨.struct [(0, 3), (1, 9), (2, 95)], 11, 128, [.int .i64 0, .str ByteArray.empty, .bool false, .int .i64 0, .int .i64 0, .int .i64 0, .int .i64 0, .nils, .nils, .int .i64 0, .bool false]⟩
  | 103 => some ⟨.struct [(0, 3), (1, 9), (2, 3)], 3, 32, [.int .i64 0, .str ByteArray.empty, .int .i64 0]⟩
  | 104 => some ⟨.struct [(0, 3), (1, 9), (2, 3)], 3, 32, [.int .i64 0, .str ByteArray.empty, .int .i64 0]⟩
  | 123 => some ⟨.struct [(0, 3), (1, 9), (2, 3)], 3, 32, [.int .i64 0, .str ByteArray.empty, .int .i64 0]⟩
  | 125 => some ⟨.struct [(0, 9), (1, 3)], 2, 24, [.str ByteArray.empty, .int .i64 0]⟩
  | 130 => some ⟨.int .u64, 1, 8, [.int .u64 0]⟩
  | 132 => some ⟨.iface, 1, 16, [.raw .nilIface]⟩
  | 137 => some ⟨.int .u64, 1, 8, [.int .u64 0]⟩
  | 141 => some ⟨.struct [(0, 48), (1, 3), (2, 3)], 3, 40, [.nils, .int .i64 0, .int .i64 0]⟩
  | 142 => some ⟨.struct [(0, 48), (1, 3), (2, 3)], 3, 40, [.nils, .int .i64 0, .int .i64 0]⟩
  | 152 => some ⟨.slice 187, 1, 24, [.nils]⟩
  | 169 => some ⟨.int .i64, 1, 8, [.int .i64 0]⟩
  | 177 => some ⟨.int .u32, 1, 4, [.int .u32 0]⟩
  | 186 => some ⟨.struct [(0, 3), (1, 3)], 2, 16, [.int .i64 0, .int .i64 0]⟩
  | 187 => some ⟨.struct [(0, 3), (1, 3)], 2, 16, [.int .i64 0, .int .i64 0]⟩
  | 192 => some ⟨.ptr 194, 1, 8, [.nilp]⟩
  | 193 => some ⟨.struct [(0, 192), (1, 48)], 2, 32, [.nilp, .nils]⟩
  | 194 => some ⟨.struct [(0, 192), (1, 48)], 2, 32, [.nilp, .nils]⟩
  | 201 => some ⟨.int .i64, 1, 8, [.int .i64 0]⟩
  | 203 => some ⟨.ptr 227, 1, 8, [.nilp]⟩
  | 206 => some ⟨.int .u64, 1, 8, [.int .u64 0]⟩
  | 210 => some ⟨.ptr 3, 1, 8, [.nilp]⟩
  | 216 => some ⟨.arr 24 5, 24, 24, [.int .u8 0, .int .u8 0, .int .u8 0, .int .u8 0, .int .u8 0, .int .u8 0, .int .u8 0, .int .u8 0, .int .u8 0, .int .u8 0, .int .u8 0, .int .u8 0, .int .u8 0, .int .u8 0, .int .u8 0, .int .u8 0, .int .u8 0, .int .u8 0, .int .u8 0, .int .u8 0, .int .u8 0, .int .u8 0, .int .u8 0, .int .u8 0]⟩
  | 224 => some ⟨.ptr 5, 1, 8, [.nilp]⟩
  | 226 => some ⟨.struct [(0, 9), (1, 9), (2, 132)], 3, 48, [.str ByteArray.empty, .str ByteArray.empty, .raw .nilIface]⟩
  | 227 => some ⟨.struct [(0, 9), (1, 9), (2, 132)], 3, 48, [.str ByteArray.empty, .str ByteArray.empty, .raw .nilIface]⟩
  | 229 => some ⟨.ptr 206, 1, 8, [.nilp]⟩
  | 238 => some ⟨.arr 20 130, 20, 160, [.int .u64 0, .int .u64 0, .int .u64 0, .int .u64 0, .int .u64 0, .int .u64 0, .int .u64 0, .int .u64 0, .int .u64 0, .int .u64 0, .int .u64 0, .int .u64 0, .int .u64 0, .int .u64 0, .int .u64 0, .int .u64 0, .int .u64 0, .int .u64 0, .int .u64 0, .int .u64 0]⟩
  | 239 => some ⟨.arr 65 5, 65, 65, [.int .u8 0, .int .u8 0, .int .u8 0, .int .u8 0, .int .u8 0, .int .u8 0, .int .u8 0, .int .u8 0, .int .u8 0, .int .u8 0, .int .u8 0, .int .u8 0, .int .u8 0, .int .u8 0, .int .u8 0, .int .u8 0, .int .u8 0, .int .u8 0, .int .u8 0, .int .u8 0, .int .u8 0, .int .u8 0, .int .u8 0, .int .u8 0, .int .u8 0, .int .u8 0, .int .u8 0, .int .u8 0, .int .u8 0, .int .u8 0, .int .u8 0, .int .u8 0, .int .u8 0, .int .u8 0, .int .u8 0, .int .u8 0, .int .u8 0, .int .u8 0, .int .u8 0, .int .u8 0, .int .u8 0, .int .u8 0, .int .u8 0, .int .u8 0, .int .u8 0, .int .u8 0, .int .u8 0, .int .u8 0, .int .u8 0, .int .u8 0, .int .u8 0, .int .u8 0, .int .u8 0, .int .u8 0, .int .u8 0, .int .u8 0, .int .u8 0, .int .u8 0, .int .u8 0, .int .u8 0, .int .u8 0, .int .u8 0, .int .u8 0, .int .u8 0, .int .u8 0]⟩
  | 243 => some ⟨.ptr 245, 1, 8, [.nilp]⟩
  | 244 => some ⟨.struct [(0, 9)], 1, 16, [.str ByteArray.empty]⟩
  | 245 => some ⟨.struct [(0, 9)], 1, 16, [.str ByteArray.empty]⟩
  | 246 => some ⟨.arr 32 5, 32, 32, [.int .u8 0, .int .u8 0, .int .u8 0, .int .u8 0, .int .u8 0, .int .u8 0, .int .u8 0, .int .u8 0, .int .u8 0, .int .u8 0, .int .u8 0, .int .u8 0, .int .u8 0, .int .u8 0, .int .u8 0, .int .u8 0, .int .u8 0, .int .u8 0, .int .u8 0, .int .u8 0, .int .u8 0, .int .u8 0, .int .u8 0, .int .u8 0, .int .u8 0, .int .u8 0, .int .u8 0, .int .u8 0, .int .u8 0, .int .u8 0, .int .u8 0, .int .u8 0]⟩
  | 247 => some ⟨.arr 64 5, 64, 64, [.int .u8 0, .int .u8 0, .int .u8 0, .int .u8 0, .int .u8 0, .int .u8 0, .int .u8 0, .int .u8 0, .int .u8 0, .int .u8 0, .int .u8 0, .int .u8 0, .int .u8 0, .int .u8 0, .int .u8 0, .int .u8 0, .int .u8 0, .int .u8 0, .int .u8 0, .int .u8 0, .int .u8 0, .int .u8 0, .int .u8 0, .int .u8 0, .int .u8 0, .int .u8 0, .int .u8 0, .int .u8 0, .int .u8 0, .int .u8 0, .int .u8 0, .int .u8 0, .int .u8 0, .int .u8 0, .int .u8 0, .int .u8 0, .int .u8 0, .int .u8 0, .int .u8 0, .int .u8 0, .int .u8 0, .int .u8 0, .int .u8 0, .int .u8 0, .int .u8 0, .int .u8 0, .int .u8 0, .int .u8 0, .int .u8 0, .int .u8 0, .int .u8 0, .int .u8 0, .int .u8 0, .int .u8 0, .int .u8 0, .int .u8 0, .int .u8 0, .int .u8 0, .int .u8 0, .int .u8 0, .int .u8 0, .int .u8 0, .int .u8 0, .int .u8 0]⟩
  | 248 => some ⟨.struct [(0, 17), (1, 17), (2, 17), (3, 9)], 4, 40, [.nilp, .nilp, .nilp, .str ByteArray.empty]⟩
  | 249 => some ⟨.struct [(0, 17), (1, 17), (2, 17), (3, 9)], 4, 40, [.nilp, .nilp, .nilp, .str ByteArray.empty]⟩
  | 250 => some ⟨.arr 0 16, 0, 0, []⟩
  | 253 => some ⟨.int .u8, 1, 1, [.int .u8 0]⟩
  | 254 => some ⟨.int .u8, 1, 1, [.int .u8 0]⟩
  | 256 => some ⟨.int .i32, 1, 4, [.int .i32 0]⟩
  | 257 => some ⟨.int .i32, 1, 4, [.int .i32 0]⟩
  | 258 => some ⟨.struct [(0, 12), (1, 12), (2, 177), (3, 253), (4, 5), (5, 5), (6, 254), (7, 255), (8, 224), (9, 256), (10, 257)], 11, 48, [.int .u64 0, .int .u64 0, .int .u32 0, .int .u8 0, .int .u8 0, .int .u8 0, .int .u8 0, .raw .nilFunc, .nilp, .int .i32 0, .int .i32 0]⟩
  | 259 => some ⟨.struct [(0, 12), (1, 12), (2, 177), (3, 253), (4, 5), (5, 5), (6, 254), (7, 255), (8, 224), (9, 256), (10, 257)], 11, 48, [.int .u64 0, .int .u64 0, .int .u32 0, .int .u8 0, .int .u8 0, .int .u8 0, .int .u8 0, .raw .nilFunc, .nilp, .int .i32 0, .int .i32 0]⟩
  | _ => none
theorem tok2 : TEok Tryz.prog 2 ⟨.int .i64, 1, 8, [.int .i64 0]⟩ := ⟨by kernel_rfl, ⟨rfl, by decide⟩, (fun _ => rfl), (show Tryz.prog.underlying 2 = some (.int .i64) by kernel_rfl), (fun h => by cases h)⟩
theorem tok3 : TEok Tryz.prog 3 ⟨.int .i64, 1, 8, [.int .i64 0]⟩ := ⟨by kernel_rfl, ⟨rfl, by decide⟩, (fun _ => rfl), (show Tryz.prog.underlying 3 = some (.int .i64) by kernel_rfl), (fun h => by cases h)⟩
theorem tok4 : TEok Tryz.prog 4 ⟨.bool, 1, 1, [.bool false]⟩ := ⟨by kernel_rfl, ⟨rfl, by decide⟩, (fun _ => rfl), (show Tryz.prog.underlying 4 = some (.bool) by kernel_rfl), (fun h => by cases h)⟩
theorem tok5 : TEok Tryz.prog 5 ⟨.int .u8, 1, 1, [.int .u8 0]⟩ := ⟨by kernel_rfl, ⟨rfl, by decide⟩, (fun _ => rfl), (show Tryz.prog.underlying 5 = some (.int .u8) by kernel_rfl), (fun h => by cases h)⟩
theorem tok6 : TEok Tryz.prog 6 ⟨.int .u8, 1, 1, [.int .u8 0]⟩ := ⟨by kernel_rfl, ⟨rfl, by decide⟩, (fun _ => rfl), (show Tryz.prog.underlying 6 = some (.int .u8) by kernel_rfl), (fun h => by cases h)⟩
theorem tok7 : TEok Tryz.prog 7 ⟨.struct [(0, 2), (1, 3), (2, 4), (3, 6)], 4, 24, [.int .i64 0, .int .i64 0, .bool false, .int .u8 0]⟩ := ⟨by kernel_rfl, ⟨rfl, by decide⟩, (fun h => by cases h), und_struct (by kernel_rfl), (fun _ => by kernel_rfl)⟩
theorem tok8 : TEok Tryz.prog 8 ⟨.struct [(0, 2), (1, 3), (2, 4), (3, 6)], 4, 24, [.int .i64 0, .int .i64 0, .bool false, .int .u8 0]⟩ := ⟨by kernel_rfl, ⟨rfl, by decide⟩, (fun h => by cases h), und_struct (by kernel_rfl), (fun _ => by kernel_rfl)⟩
theorem tok9 : TEok Tryz.prog 9 ⟨.str, 1, 16, [.str ByteArray.empty]⟩ := ⟨by kernel_rfl, ⟨rfl, by decide⟩, (fun _ => rfl), (show Tryz.prog.underlying 9 = some (.string) by kernel_rfl), (fun h => by cases h)⟩
theorem tok10 : TEok Tryz.prog 10 ⟨.str, 1, 16, [.str ByteArray.empty]⟩ := ⟨by kernel_rfl, ⟨rfl, by decide⟩, (fun _ => rfl), (show Tryz.prog.underlying 10 = some (.string) by kernel_rfl), (fun h => by cases h)⟩
theorem tok11 : TEok Tryz.prog 11 ⟨.str, 1, 16, [.str ByteArray.empty]⟩ := ⟨by kernel_rfl, ⟨rfl, by decide⟩, (fun _ => rfl), (show Tryz.prog.underlying 11 = some (.string) by kernel_rfl), (fun h => by cases h)⟩
theorem tok12 : TEok Tryz.prog 12 ⟨.int .u64, 1, 8, [.int .u64 0]⟩ := ⟨by kernel_rfl, ⟨rfl, by decide⟩, (fun _ => rfl), (show Tryz.prog.underlying 12 = some (.int .u64) by kernel_rfl), (fun h => by cases h)⟩
theorem tok15 : TEok Tryz.prog 15 ⟨.ptr 249, 1, 8, [.nilp]⟩ := ⟨by kernel_rfl, ⟨rfl, by decide⟩, (fun _ => rfl), (show Tryz.prog.underlying 15 = some (.pointer 249) by kernel_rfl), (fun h => by cases h)⟩
theorem tok16 : TEok Tryz.prog 16 ⟨.ptr 252, 1, 8, [.nilp]⟩ := ⟨by kernel_rfl, ⟨rfl, by decide⟩, (fun _ => rfl), (show Tryz.prog.underlying 16 = some (.pointer 252) by kernel_rfl), (fun h => by cases h)⟩
theorem tok17 : TEok Tryz.prog 17 ⟨.ptr 259, 1, 8, [.nilp]⟩ := ⟨by kernel_rfl, ⟨rfl, by decide⟩, (fun _ => rfl), (show Tryz.prog.underlying 17 = some (.pointer 259) by kernel_rfl), (fun h => by cases h)⟩
theorem tok18 : TEok Tryz.prog 18 ⟨.struct [(0, 17)], 1, 8, [.nilp]⟩ := ⟨by kernel_rfl, ⟨rfl, by decide⟩, (fun h => by cases h), und_struct (by kernel_rfl), (fun h => by cases h)⟩
theorem tok19 : TEok Tryz.prog 19 ⟨.struct [(0, 17)], 1, 8, [.nilp]⟩ := ⟨by kernel_rfl, ⟨rfl, by decide⟩, (fun h => by cases h), und_struct (by kernel_rfl), (fun h => by cases h)⟩
theorem tok21 : TEok Tryz.prog 21 ⟨.int .i32, 1, 4, [.int .i32 0]⟩ := ⟨by kernel_rfl, ⟨rfl, by decide⟩, (fun _ => rfl), (show Tryz.prog.underlying 21 = some (.int .i32) by kernel_rfl), (fun h => by cases h)⟩
theorem tok22 : TEok Tryz.prog 22 ⟨.slice 123, 1, 24, [.nils]⟩ := ⟨by kernel_rfl, ⟨rfl, by decide⟩, (fun _ => rfl), (show Tryz.prog.underlying 22 = some (.slice 123) by kernel_rfl), (fun h => by cases h)⟩
theorem tok23 : TEok Tryz.prog 23 ⟨.slice 125, 1, 24, [.nils]⟩ := ⟨by kernel_rfl, ⟨rfl, by decide⟩, (fun _ => rfl), (show Tryz.prog.underlying 23 = some (.slice 125) by kernel_rfl), (fun h => by cases h)⟩
theorem tok24 : TEok Tryz.prog 24 ⟨.slice 9, 1, 24, [.nils]⟩ := ⟨by kernel_rfl, ⟨rfl, by decide⟩, (fun _ => rfl), (show Tryz.prog.underlying 24 = some (.slice 9) by kernel_rfl), (fun h => by cases h)⟩
theorem tok25 : TEok Tryz.prog 25 ⟨.struct [(0, 22), (1, 23), (2, 23), (3, 24), (4, 3), (5, 3)], 6, 112, [.nils, .nils, .nils, .nils, .int .i64 0, .int .i64 0]⟩ := ⟨by kernel_rfl, ⟨rfl, by decide⟩, (fun h => by cases h), und_struct (by kernel_rfl), (fun h => by cases h)⟩
theorem tok26 : TEok Tryz.prog 26 ⟨.struct [(0, 22), (1, 23), (2, 23), (3, 24), (4, 3), (5, 3)], 6, 112, [.nils, .nils, .nils, .nils, .int .i64 0, .int .i64 0]⟩ := ⟨by kernel_rfl, ⟨rfl, by decide⟩, (fun h => by cases h), und_struct (by kernel_rfl), (fun h => by cases h)⟩
theorem tok29 : TEok Tryz.prog 29 ⟨.slice 104, 1, 24, [.nils]⟩ := ⟨by kernel_rfl, ⟨rfl, by decide⟩, (fun _ => rfl), (show Tryz.prog.underlying 29 = some (.slice 104) by kernel_rfl), (fun h => by cases h)⟩
theorem tok30 : TEok Tryz.prog 30 ⟨.slice 82, 1, 24, [.nils]⟩ := ⟨by kernel_rfl, ⟨rfl, by decide⟩, (fun _ => rfl), (show Tryz.prog.underlying 30 = some (.slice 82) by kernel_rfl), (fun h => by cases h)⟩
theorem tok31 : TEok Tryz.prog 31 ⟨.struct [(0, 29), (1, 30), (2, 30), (3, 24), (4, 3), (5, 3)], 6, 112, [.nils, .nils, .nils, .nils, .int .i64 0, .int .i64 0]⟩ := ⟨by kernel_rfl, ⟨rfl, by decide⟩, (fun h => by cases h), und_struct (by kernel_rfl), (fun h => by cases h)⟩
theorem tok32 : TEok Tryz.prog 32 ⟨.struct [(0, 29), (1, 30), (2, 30), (3, 24), (4, 3), (5, 3)], 6, 112, [.nils, .nils, .nils, .nils, .int .i64 0, .int .i64 0]⟩ := ⟨by kernel_rfl, ⟨rfl, by decide⟩, (fun h => by cases h), und_struct (by kernel_rfl), (fun h => by cases h)⟩
theorem tok39 : TEok Tryz.prog 39 ⟨.slice 3, 1, 24, [.nils]⟩ := ⟨by kernel_rfl, ⟨rfl, by decide⟩, (fun _ => rfl), (show Tryz.prog.underlying 39 = some (.slice 3) by kernel_rfl), (fun h => by cases h)⟩
theorem tok44 : TEok Tryz.prog 44 ⟨.slice 68, 1, 24, [.nils]⟩ := ⟨by kernel_rfl, ⟨rfl, by decide⟩, (fun _ => rfl), (show Tryz.prog.underlying 44 = some (.slice 68) by kernel_rfl), (fun h => by cases h)⟩
theorem tok48 : TEok Tryz.prog 48 ⟨.slice 5, 1, 24, [.nils]⟩ := ⟨by kernel_rfl, ⟨rfl, by decide⟩, (fun _ => rfl), (show Tryz.prog.underlying 48 = some (.slice 5) by kernel_rfl), (fun h => by cases h)⟩
theorem tok60 : TEok Tryz.prog 60 ⟨.struct [(0, 3), (1, 3), (2, 3), (3, 3)], 4, 32, [.int .i64 0, .int .i64 0, .int .i64 0, .int .i64 0]⟩ := ⟨by kernel_rfl, ⟨rfl, by decide⟩, (fun h => by cases h), und_struct (by kernel_rfl), (fun _ => by kernel_rfl)⟩
theorem tok61 : TEok Tryz.prog 61 ⟨.struct [(0, 3), (1, 3), (2, 3), (3, 3)], 4, 32, [.int .i64 0, .int .i64 0, .int .i64 0, .int .i64 0]⟩ := ⟨by kernel_rfl, ⟨rfl, by decide⟩, (fun h => by cases h), und_struct (by kernel_rfl), (fun _ => by kernel_rfl)⟩
theorem tok67 : TEok Tryz.prog 67 ⟨.struct [(0, 9), (1, 3)], 2, 24, [.str ByteArray.empty, .int .i64 0]⟩ := ⟨by kernel_rfl, ⟨rfl, by decide⟩, (fun h => by cases h), und_struct (by kernel_rfl), (fun _ => by kernel_rfl)⟩
theorem tok68 : TEok Tryz.prog 68 ⟨.struct [(0, 9), (1, 3)], 2, 24, [.str ByteArray.empty, .int .i64 0]⟩ := ⟨by kernel_rfl, ⟨rfl, by decide⟩, (fun h => by cases h), und_struct (by kernel_rfl), (fun _ => by kernel_rfl)⟩
theorem tok81 : TEok Tryz.prog 81 ⟨.struct [(0, 9), (1, 3)], 2, 24, [.str ByteArray.empty, .int .i64 0]⟩ := ⟨by kernel_rfl, ⟨rfl, by decide⟩, (fun h => by cases h), und_struct (by kernel_rfl), (fun _ => by kernel_rfl)⟩
theorem tok82 : TEok Tryz.prog 82 ⟨.struct [(0, 9), (1, 3)], 2, 24, [.str ByteArray.empty, .int .i64 0]⟩ := ⟨by kernel_rfl, ⟨rfl, by decide⟩, (fun h => by cases h), und_struct (by kernel_rfl), (fun _ => by kernel_rfl)⟩
theorem tok90 : TEok Tryz.prog 90 ⟨.ptr 142, 1, 8, [.nilp]⟩ := ⟨by kernel_rfl, ⟨rfl, by decide⟩, (fun _ => rfl), (show Tryz.prog.underlying 90 = some (.pointer 142) by kernel_rfl), (fun h => by cases h)⟩
theorem tok92 : TEok Tryz.prog 92 ⟨.slice 97, 1, 24, [.nils]⟩ := ⟨by kernel_rfl, ⟨rfl, by decide⟩, (fun _ => rfl), (show Tryz.prog.underlying 92 = some (.slice 97) by kernel_rfl), (fun h => by cases h)⟩
theorem tok94 : TEok Tryz.prog 94 ⟨.struct [(0, 4), (1, 61), (5, 24), (6, 39), (7, 3), (8, 4)], 9, 104, [.bool false, .int .i64 0, .int .i64 0, .int .i64 0, .int .i64 0, .nils, .nils, .int .i64 0, .bool false]⟩ := ⟨by kernel_rfl, ⟨rfl, by decide⟩, (fun h => by cases h), und_struct (by kernel_rfl), (fun h => by cases h)⟩
theorem tok95 : TEok Tryz.prog 95 ⟨.struct [(0, 4), (1, 61), (5, 24), (6, 39), (7, 3), (8, 4)], 9, 104, [.bool false, .int .i64 0, .int .i64 0, .int .i64 0, .int .i64 0, .nils, .nils, .int .i64 0, .bool false]⟩ := ⟨by kernel_rfl, ⟨rfl, by decide⟩, (fun h => by cases h), und_struct (by kernel_rfl), (fun h => by cases h)⟩
theorem tok96 : TEok Tryz.prog 96 ⟨.struct [(0, 3), (1, 9), (2, 95)], 11, 128, [.int .i64 0, .str ByteArray.empty, .bool false, .int .i64 0, .int .i64 0, .int .i64 0, .int .i64 0, .nils, .nils, .int .i64 0, .bool false]⟩ := ⟨by kernel_rfl, ⟨rfl, by decide⟩, (fun h => by cases h), und_struct (by kernel_rfl), (fun h => by cases h)⟩
theorem tok97 : TEok Tryz.prog 97 ⟨.struct [(0, 3), (1, 9), (2, 95)], 11, 128, [.int .i64 0, .str ByteArray.empty, .bool false, .int .i64 0, .int .i64 0, .int .i64 0, .int .i64 0, .nils, .nils, .int .i64 0, .bool false]⟩ := ⟨by kernel_rfl, ⟨rfl, by decide⟩, (fun h => by cases h), und_struct (by kernel_rfl), (fun h => by cases h)⟩
theorem tok103 : TEok Tryz.prog 103 ⟨.struct [(0, 3), (1, 9), (2, 3)], 3, 32, [.int .i64 0, .str ByteArray.empty, .int .i64 0]⟩ := ⟨by kernel_rfl, ⟨rfl, by decide⟩, (fun h => by cases h), und_struct (by kernel_rfl), (fun _ => by kernel_rfl)⟩
theorem tok104 : TEok Tryz.prog 104 ⟨.struct [(0, 3), (1, 9), (2, 3)], 3, 32, [.int .i64 0, .str ByteArray.empty, .int .i64 0]⟩ := ⟨by kernel_rfl, ⟨rfl, by decide⟩, (fun h => by cases h), und_struct (by kernel_rfl), (fun _ => by kernel_rfl)⟩
theorem tok123 : TEok Tryz.prog 123 ⟨.struct [(0, 3), (1, 9), (2, 3)], 3, 32, [.int .i64 0, .str ByteArray.empty, .int .i64 0]⟩ := ⟨by kernel_rfl, ⟨rfl, by decide⟩, (fun h => by cases h), und_struct (by kernel_rfl), (fun _ => by kernel_rfl)⟩
theorem tok125 : TEok Tryz.prog 125 ⟨.struct [(0, 9), (1, 3)], 2, 24, [.str ByteArray.empty, .int .i64 0]⟩ := ⟨by kernel_rfl, ⟨rfl, by decide⟩, (fun h => by cases h), und_struct (by kernel_rfl), (fun _ => by kernel_rfl)⟩
theorem tok130 : TEok Tryz.prog 130 ⟨.int .u64, 1, 8, [.int .u64 0]⟩ := ⟨by kernel_rfl, ⟨rfl, by decide⟩, (fun _ => rfl), (show Tryz.prog.underlying 130 = some (.int .u64) by kernel_rfl), (fun h => by cases h)⟩
theorem tok132 : TEok Tryz.prog 132 ⟨.iface, 1, 16, [.raw .nilIface]⟩ := ⟨by kernel_rfl, ⟨rfl, by decide⟩, (fun _ => rfl), ⟨_, Tryz.underlying132⟩, (fun h => by cases h)⟩
theorem tok137 : TEok Tryz.prog 137 ⟨.int .u64, 1, 8, [.int .u64 0]⟩ := ⟨by kernel_rfl, ⟨rfl, by decide⟩, (fun _ => rfl), (show Tryz.prog.underlying 137 = some (.int .u64) by kernel_rfl), (fun h => by cases h)⟩
theorem tok141 : TEok Tryz.prog 141 ⟨.struct [(0, 48), (1, 3), (2, 3)], 3, 40, [.nils, .int .i64 0, .int .i64 0]⟩ := ⟨by kernel_rfl, ⟨rfl, by decide⟩, (fun h => by cases h), und_struct (by kernel_rfl), (fun h => by cases h)⟩
theorem tok142 : TEok Tryz.prog 142 ⟨.struct [(0, 48), (1, 3), (2, 3)], 3, 40, [.nils, .int .i64 0, .int .i64 0]⟩ := ⟨by kernel_rfl, ⟨rfl, by decide⟩, (fun h => by cases h), und_struct (by kernel_rfl), (fun h => by cases h)⟩
theorem tok152 : TEok Tryz.prog 152 ⟨.slice 187, 1, 24, [.nils]⟩ := ⟨by kernel_rfl, ⟨rfl, by decide⟩, (fun _ => rfl), (show Tryz.prog.underlying 152 = some (.slice 187) by kernel_rfl), (fun h => by cases h)⟩
theorem tok169 : TEok Tryz.prog 169 ⟨.int .i64, 1, 8, [.int .i64 0]⟩ := ⟨by kernel_rfl, ⟨rfl, by decide⟩, (fun _ => rfl), (show Tryz.prog.underlying 169 = some (.int .i64) by kernel_rfl), (fun h => by cases h)⟩
theorem tok177 : TEok Tryz.prog 177 ⟨.int .u32, 1, 4, [.int .u32 0]⟩ := ⟨by kernel_rfl, ⟨rfl, by decide⟩, (fun _ => rfl), (show Tryz.prog.underlying 177 = some (.int .u32) by kernel_rfl), (fun h => by cases h)⟩
theorem tok186 : TEok Tryz.prog 186 ⟨.struct [(0, 3), (1, 3)], 2, 16, [.int .i64 0, .int .i64 0]⟩ := ⟨by kernel_rfl, ⟨rfl, by decide⟩, (fun h => by cases h), und_struct (by kernel_rfl), (fun _ => by kernel_rfl)⟩
theorem tok187 : TEok Tryz.prog 187 ⟨.struct [(0, 3), (1, 3)], 2, 16, [.int .i64 0, .int .i64 0]⟩ := ⟨by kernel_rfl, ⟨rfl, by decide⟩, (fun h => by cases h), und_struct (by kernel_rfl), (fun _ => by kernel_rfl)⟩
theorem tok192 : TEok Tryz.prog 192 ⟨.ptr 194, 1, 8, [.nilp]⟩ := ⟨by kernel_rfl, ⟨rfl, by decide⟩, (fun _ => rfl), (show Tryz.prog.underlying 192 = some (.pointer 194) by kernel_rfl), (fun h => by cases h)⟩
theorem tok193 : TEok Tryz.prog 193 ⟨.struct [(0, 192), (1, 48)], 2, 32, [.nilp, .nils]⟩ := ⟨by kernel_rfl, ⟨rfl, by decide⟩, (fun h => by cases h), und_struct (by kernel_rfl), (fun h => by cases h)⟩
theorem tok194 : TEok Tryz.prog 194 ⟨.struct [(0, 192), (1, 48)], 2, 32, [.nilp, .nils]⟩ := ⟨by kernel_rfl, ⟨rfl, by decide⟩, (fun h => by cases h), und_struct (by kernel_rfl), (fun h => by cases h)⟩
theorem tok201 : TEok Tryz.prog 201 ⟨.int .i64, 1, 8, [.int .i64 0]⟩ := ⟨by kernel_rfl, ⟨rfl, by decide⟩, (fun _ => rfl), (show Tryz.prog.underlying 201 = some (.int .i64) by kernel_rfl), (fun h => by cases h)⟩
theorem tok203 : TEok Tryz.prog 203 ⟨.ptr 227, 1, 8, [.nilp]⟩ := ⟨by kernel_rfl, ⟨rfl, by decide⟩, (fun _ => rfl), (show Tryz.prog.underlying 203 = some (.pointer 227) by kernel_rfl), (fun h => by cases h)⟩
theorem tok206 : TEok Tryz.prog 206 ⟨.int .u64, 1, 8, [.int .u64 0]⟩ := ⟨by kernel_rfl, ⟨rfl, by decide⟩, (fun _ => rfl), (show Tryz.prog.underlying 206 = some (.int .u64) by kernel_rfl), (fun h => by cases h)⟩
theorem tok210 : TEok Tryz.prog 210 ⟨.ptr 3, 1, 8, [.nilp]⟩ := ⟨by kernel_rfl, ⟨rfl, by decide⟩, (fun _ => rfl), (show Tryz.prog.underlying 210 = some (.pointer 3) by kernel_rfl), (fun h => by cases h)⟩
theorem tok216 : TEok Tryz.prog 216 ⟨.arr 24 5, 24, 24, [.int .u8 0, .int .u8 0, .int .u8 0, .int .u8 0, .int .u8 0, .int .u8 0, .int .u8 0, .int .u8 0, .int .u8 0, .int .u8 0, .int .u8 0, .int .u8 0, .int .u8 0, .int .u8 0, .int .u8 0, .int .u8 0, .int .u8 0, .int .u8 0, .int .u8 0, .int .u8 0, .int .u8 0, .int .u8 0, .int .u8 0, .int .u8 0]⟩ := ⟨by kernel_rfl, ⟨rfl, by decide⟩, (fun h => by cases h), (show Tryz.prog.underlying 216 = some (.array 24 5) by kernel_rfl), (fun h => by cases h)⟩
theorem tok224 : TEok Tryz.prog 224 ⟨.ptr 5, 1, 8, [.nilp]⟩ := ⟨by kernel_rfl, ⟨rfl, by decide⟩, (fun _ => rfl), (show Tryz.prog.underlying 224 = some (.pointer 5) by kernel_rfl), (fun h => by cases h)⟩
theorem tok226 : TEok Tryz.prog 226 ⟨.struct [(0, 9), (1, 9), (2, 132)], 3, 48, [.str ByteArray.empty, .str ByteArray.empty, .raw .nilIface]⟩ := ⟨by kernel_rfl, ⟨rfl, by decide⟩, (fun h => by cases h), und_struct (by kernel_rfl), (fun h => by cases h)⟩
theorem tok227 : TEok Tryz.prog 227 ⟨.struct [(0, 9), (1, 9), (2, 132)], 3, 48, [.str ByteArray.empty, .str ByteArray.empty, .raw .nilIface]⟩ := ⟨by kernel_rfl, ⟨rfl, by decide⟩, (fun h => by cases h), und_struct (by kernel_rfl), (fun h => by cases h)⟩
theorem tok229 : TEok Tryz.prog 229 ⟨.ptr 206, 1, 8, [.nilp]⟩ := ⟨by kernel_rfl, ⟨rfl, by decide⟩, (fun _ => rfl), (show Tryz.prog.underlying 229 = some (.pointer 206) by kernel_rfl), (fun h => by cases h)⟩
theorem tok238 : TEok Tryz.prog 238 ⟨.arr 20 130, 20, 160, [.int .u64 0, .int .u64 0, .int .u64 0, .int .u64 0, .int .u64 0, .int .u64 0, .int .u64 0, .int .u64 0, .int .u64 0, .int .u64 0, .int .u64 0, .int .u64 0, .int .u64 0, .int .u64 0, .int .u64 0, .int .u64 0, .int .u64 0, .int .u64 0, .int .u64 0, .int .u64 0]⟩ := ⟨by kernel_rfl, ⟨rfl, by decide⟩, (fun h => by cases h), (show Tryz.prog.underlying 238 = some (.array 20 130) by kernel_rfl), (fun h => by cases h)⟩
theorem tok239 : TEok Tryz.prog 239 ⟨.arr 65 5, 65, 65, [.int .u8 0, .int .u8 0, .int .u8 0, .int .u8 0, .int .u8 0, .int .u8 0, .int .u8 0, .int .u8 0, .int .u8 0, .int .u8 0, .int .u8 0, .int .u8 0, .int .u8 0, .int .u8 0, .int .u8 0, .int .u8 0, .int .u8 0, .int .u8 0, .int .u8 0, .int .u8 0, .int .u8 0, .int .u8 0, .int .u8 0, .int .u8 0, .int .u8 0, .int .u8 0, .int .u8 0, .int .u8 0, .int .u8 0, .int .u8 0, .int .u8 0, .int .u8 0, .int .u8 0, .int .u8 0, .int .u8 0, .int .u8 0, .int .u8 0, .int .u8 0, .int .u8 0, .int .u8 0, .int .u8 0, .int .u8 0, .int .u8 0, .int .u8 0, .int .u8 0, .int .u8 0, .int .u8 0, .int .u8 0, .int .u8 0, .int .u8 0, .int .u8 0, .int .u8 0, .int .u8 0, .int .u8 0, .int .u8 0, .int .u8 0, .int .u8 0, .int .u8 0, .int .u8 0, .int .u8 0, .int .u8 0, .int .u8 0, .int .u8 0, .int .u8 0, .int .u8 0]⟩ := ⟨by kernel_rfl, ⟨rfl, by decide⟩, (fun h => by cases h), (show Tryz.prog.underlying 239 = some (.array 65 5) by kernel_rfl), (fun h => by cases h)⟩
theorem tok243 : TEok Tryz.prog 243 ⟨.ptr 245, 1, 8, [.nilp]⟩ := ⟨by kernel_rfl, ⟨rfl, by decide⟩, (fun _ => rfl), (show Tryz.prog.underlying 243 = some (.pointer 245) by kernel_rfl), (fun h => by cases h)⟩
theorem tok244 : TEok Tryz.prog 244 ⟨.struct [(0, 9)], 1, 16, [.str ByteArray.empty]⟩ := ⟨by kernel_rfl, ⟨rfl, by decide⟩, (fun h => by cases h), und_struct (by kernel_rfl), (fun _ => by kernel_rfl)⟩
theorem tok245 : TEok Tryz.prog 245 ⟨.struct [(0, 9)], 1, 16, [.str ByteArray.empty]⟩ := ⟨by kernel_rfl, ⟨rfl, by decide⟩, (fun h => by cases h), und_struct (by kernel_rfl), (fun _ => by kernel_rfl)⟩
theorem tok246 : TEok Tryz.prog 246 ⟨.arr 32 5, 32, 32, [.int .u8 0, .int .u8 0, .int .u8 0, .int .u8 0, .int .u8 0, .int .u8 0, .int .u8 0, .int .u8 0, .int .u8 0, .int .u8 0, .int .u8 0, .int .u8 0, .int .u8 0, .int .u8 0, .int .u8 0, .int .u8 0, .int .u8 0, .int .u8 0, .int .u8 0, .int .u8 0, .int .u8 0, .int .u8 0, .int .u8 0, .int .u8 0, .int .u8 0, .int .u8 0, .int .u8 0, .int .u8 0, .int .u8 0, .int .u8 0, .int .u8 0, .int .u8 0]⟩ := ⟨by kernel_rfl, ⟨rfl, by decide⟩, (fun h => by cases h), (show Tryz.prog.underlying 246 = some (.array 32 5) by kernel_rfl), (fun h => by cases h)⟩
theorem tok247 : TEok Tryz.prog 247 ⟨.arr 64 5, 64, 64, [.int .u8 0, .int .u8 0, .int .u8 0, .int .u8 0, .int .u8 0, .int .u8 0, .int .u8 0, .int .u8 0, .int .u8 0, .int .u8 0, .int .u8 0, .int .u8 0, .int .u8 0, .int .u8 0, .int .u8 0, .int .u8 0, .int .u8 0, .int .u8 0, .int .u8 0, .int .u8 0, .int .u8 0, .int .u8 0, .int .u8 0, .int .u8 0, .int .u8 0, .int .u8 0, .int .u8 0, .int .u8 0, .int .u8 0, .int .u8 0, .int .u8 0, .int .u8 0, .int .u8 0, .int .u8 0, .int .u8 0, .int .u8 0, .int .u8 0, .int .u8 0, .int .u8 0, .int .u8 0, .int .u8 0, .int .u8 0, .int .u8 0, .int .u8 0, .int .u8 0, .int .u8 0, .int .u8 0, .int .u8 0, .int .u8 0, .int .u8 0, .int .u8 0, .int .u8 0, .int .u8 0, .int .u8 0, .int .u8 0, .int .u8 0, .int .u8 0, .int .u8 0, .int .u8 0, .int .u8 0, .int .u8 0, .int .u8 0, .int .u8 0, .int .u8 0]⟩ := ⟨by kernel_rfl, ⟨rfl, by decide⟩, (fun h => by cases h), (show Tryz.prog.underlying 247 = some (.array 64 5) by kernel_rfl), (fun h => by cases h)⟩
theorem tok248 : TEok Tryz.prog 248 ⟨.struct [(0, 17), (1, 17), (2, 17), (3, 9)], 4, 40, [.nilp, .nilp, .nilp, .str ByteArray.empty]⟩ := ⟨by kernel_rfl, ⟨rfl, by decide⟩, (fun h => by cases h), und_struct (by kernel_rfl), (fun h => by cases h)⟩
theorem tok249 : TEok Tryz.prog 249 ⟨.struct [(0, 17), (1, 17), (2, 17), (3, 9)], 4, 40, [.nilp, .nilp, .nilp, .str ByteArray.empty]⟩ := ⟨by kernel_rfl, ⟨rfl, by decide⟩, (fun h => by cases h), und_struct (by kernel_rfl), (fun h => by cases h)⟩
theorem tok250 : TEok Tryz.prog 250 ⟨.arr 0 16, 0, 0, []⟩ := ⟨by kernel_rfl, ⟨rfl, by decide⟩, (fun h => by cases h), (show Tryz.prog.underlying 250 = some (.array 0 16) by kernel_rfl), (fun h => by cases h)⟩
theorem tok253 : TEok Tryz.prog 253 ⟨.int .u8, 1, 1, [.int .u8 0]⟩ := ⟨by kernel_rfl, ⟨rfl, by decide⟩, (fun _ => rfl), (show Tryz.prog.underlying 253 = some (.int .u8) by kernel_rfl), (fun h => by cases h)⟩
theorem tok254 : TEok Tryz.prog 254 ⟨.int .u8, 1, 1, [.int .u8 0]⟩ := ⟨by kernel_rfl, ⟨rfl, by decide⟩, (fun _ => rfl), (show Tryz.prog.underlying 254 = some (.int .u8) by kernel_rfl), (fun h => by cases h)⟩
theorem tok256 : TEok Tryz.prog 256 ⟨.int .i32, 1, 4, [.int .i32 0]⟩ := ⟨by kernel_rfl, ⟨rfl, by decide⟩, (fun _ => rfl), (show Tryz.prog.underlying 256 = some (.int .i32) by kernel_rfl), (fun h => by cases h)⟩
theorem tok257 : TEok Tryz.prog 257 ⟨.int .i32, 1, 4, [.int .i32 0]⟩ := ⟨by kernel_rfl, ⟨rfl, by decide⟩, (fun _ => rfl), (show Tryz.prog.underlying 257 = some (.int .i32) by kernel_rfl), (fun h => by cases h)⟩
theorem tok258 : TEok Tryz.prog 258 ⟨.struct [(0, 12), (1, 12), (2, 177), (3, 253), (4, 5), (5, 5), (6, 254), (7, 255), (8, 224), (9, 256), (10, 257)], 11, 48, [.int .u64 0, .int .u64 0, .int .u32 0, .int .u8 0, .int .u8 0, .int .u8 0, .int .u8 0, .raw .nilFunc, .nilp, .int .i32 0, .int .i32 0]⟩ := ⟨by kernel_rfl, ⟨rfl, by decide⟩, (fun h => by cases h), und_struct (by kernel_rfl), (fun h => by cases h)⟩
theorem tok259 : TEok Tryz.prog 259 ⟨.struct [(0, 12), (1, 12), (2, 177), (3, 253), (4, 5), (5, 5), (6, 254), (7, 255), (8, 224), (9, 256), (10, 257)], 11, 48, [.int .u64 0, .int .u64 0, .int .u32 0, .int .u8 0, .int .u8 0, .int .u8 0, .int .u8 0, .raw .nilFunc, .nilp, .int .i32 0, .int .i32 0]⟩ := ⟨by kernel_rfl, ⟨rfl, by decide⟩, (fun h => by cases h), und_struct (by kernel_rfl), (fun h => by cases h)⟩
theorem tok : Tok Tryz.prog T := fun t e h => by
  unfold T at h
  split at h <;> first
    | contradiction
    | (cases h; first | exact tok2 | exact tok3 | exact tok4 | exact tok5 | exact tok6 | exact tok7 | exact tok8 | exact tok9 | exact tok10 | exact tok11 | exact tok12 | exact tok15 | exact tok16 | exact tok17 | exact tok18 | exact tok19 | exact tok21 | exact tok22 | exact tok23 | exact tok24 | exact tok25 | exact tok26 | exact tok29 | exact tok30 | exact tok31 | exact tok32 | exact tok39 | exact tok44 | exact tok48 | exact tok60 | exact tok61 | exact tok67 | exact tok68 | exact tok81 | exact tok82 | exact tok90 | exact tok92 | exact tok94 | exact tok95 | exact tok96 | exact tok97 | exact tok103 | exact tok104 | exact tok123 | exact tok125 | exact tok130 | exact tok132 | exact tok137 | exact tok141 | exact tok142 | exact tok152 | exact tok169 | exact tok177 | exact tok186 | exact tok187 | exact tok192 | exact tok193 | exact tok194 | exact tok201 | exact tok203 | exact tok206 | exact tok210 | exact tok216 | exact tok224 | exact tok226 | exact tok227 | exact tok229 | exact tok238 | exact tok239 | exact tok243 | exact tok244 | exact tok245 | exact tok246 | exact tok247 | exact tok248 | exact tok249 | exact tok250 | exact tok253 | exact tok254 | exact tok256 | exact tok257 | exact tok258 | exact tok259)
theorem mixed : Tryz.prog.follows .mixedOrders = true := by kernel_rfl
theorem GV : gev 0 = .raw (.pointer (some ⟨0, 0, none⟩)) ∧ gev 1 = .raw (.pointer (some ⟨1, 0, none⟩)) ∧ gev 2 = .raw (.pointer (some ⟨2, 0, none⟩)) ∧ gev 3 = .raw (.pointer (some ⟨3, 0, none⟩)) ∧ gev 4 = .raw (.pointer (some ⟨4, 0, none⟩)) ∧ gev 5 = .fel glob5 := ⟨rfl, rfl, rfl, rfl, rfl, rfl⟩
end Go.Pv

/- What functions of the program and of the reference do, in plain values. -/
namespace Go.Pv
open Go.Proofs Go.Mth
set_option linter.unusedSimpArgs false
set_option linter.unusedVariables false
set_option maxHeartbeats 4000000
set_option maxRecDepth 4000

def bkd (κ R : List Nat) (key : Nat) (hp ha : Hp) (K : PV → Hp → Prop) (res : PV) (hr : Hp) : Prop :=
  Ck (resOk res && hpB hr) ∧ KeysOk hp (ln κ) key hr ∧ Mn ha hr (ln κ) ∧ K (rk (sg κ key) res) (rkH (sg κ key) hr ++ gone hr κ 0 ++ R.map fun k => (k, HC.dead))
/-- A call that reads memory of the caller's, which then is gone. -/
theorem call_hd {P : Program} {hp : Hp} {key : Nat} (κ R : List Nat) {xs ys : List PV} {f : FuncId} {ha : Hp} {Q K : PV → Hp → Prop} (h : FnE P f ys ha Q) (hn : κ.Nodup ∧ (∀ k ∈ κ, k ∉ R) ∧ κ.length ≤ 64) (hc : cvtl (cvt hp R κ) xs = some ys) (hh : hand hp R κ κ 0 = some ha)
    (hk : ∀ res hr, Q res hr → bkd κ R key hp ha K res hr) : Call P hp key xs f K := by
  obtain ⟨res, hr, hq, hf⟩ := h
  obtain ⟨⟨h1⟩, h3, h4, h5⟩ := hk res hr hq
  simp only [Bool.and_eq_true] at h1
  rw [ln_eq] at h3 h4
  exact ⟨κ, R, false, ys, ha, res, hr, hc, hh, hf, hn, h3, Mn_mono h4, ⟨h1.1, hpB_ok h1.2⟩, fun e => Bool.noConfusion e, h5⟩
end Go.Pv

/- Plain mathematics for this seat's laws: rounds, sums of 32 bits, numbers in bytes. No program in it.
   Conditions: none beyond those that each lemma names. -/
namespace Go.Mth
open Go.RowKit
set_option linter.unusedVariables false
set_option linter.unusedSimpArgs false

theorem wr64 (n : Int) (h0 : 0 ≤ n) (h1 : n < 2 ^ 32) : IntKind.i64.wrap n = n := by rw [IntKind.wrap_i64]; omega
theorem wr32 (n : Int) (h0 : 0 ≤ n) (h1 : n < 2 ^ 32) : IntKind.u32.wrap n = n := by rw [IntKind.wrap_u32]; omega
theorem xor_nat (k : IntKind) (hj : 32 ≤ k.bits) (hk : ∀ n : Int, 0 ≤ n → n < 2 ^ 32 → k.wrap n = n) (a b : Nat) (ha : a < 4294967296) (hb : b < 4294967296) :
    Go.bits .xor k a b = ((a ^^^ b : Nat) : Int) := by
  have hp : 2 ^ 32 ≤ 2 ^ k.bits := Nat.pow_le_pow_right (by decide) hj
  have ha' : a % 2 ^ k.bits = a := Nat.mod_eq_of_lt (by omega)
  have hb' : b % 2 ^ k.bits = b := Nat.mod_eq_of_lt (by omega)
  simp only [Go.bits, BitVec.ofInt_natCast, BitVec.toNat_xor, BitVec.toNat_ofNat, ha', hb']
  have h1 : a ^^^ b < 2 ^ 32 := Nat.xor_lt_two_pow (by omega) (by omega)
  exact hk _ (Int.natCast_nonneg _) (by exact_mod_cast h1)
theorem xor64 (a b : Nat) (ha : a < 4294967296) (hb : b < 4294967296) : Go.bits .xor .i64 a b = ((a ^^^ b : Nat) : Int) := xor_nat .i64 (by decide) wr64 a b ha hb
theorem xor32 (a b : Nat) (ha : a < 4294967296) (hb : b < 4294967296) : Go.bits .xor .u32 a b = ((a ^^^ b : Nat) : Int) := xor_nat .u32 (by decide) wr32 a b ha hb
theorem and_mask64 (s : Int) (i : Nat) (hi : i ≤ 32) : Go.bits .and .i64 s (2 ^ i - 1) = s % 2 ^ i := by
  have hpos : 0 < 2 ^ i := Nat.two_pow_pos i
  have hc : ((2 : Int) ^ i - 1) = ((2 ^ i - 1 : Nat) : Int) := by rw [Int.natCast_sub hpos]; simp
  have hle : 2 ^ i ≤ 2 ^ 32 := Nat.pow_le_pow_right (by decide) hi
  have hm : (2 ^ i - 1) % 2 ^ 64 = 2 ^ i - 1 := Nat.mod_eq_of_lt (by omega)
  have hd : ((s % ((2 ^ 64 : Nat) : Int)).toNat % 2 ^ i : Nat) = (s % ((2 ^ i : Nat) : Int)) := by
    have h1 : ((s % ((2 ^ 64 : Nat) : Int)).toNat : Int) = s % ((2 ^ 64 : Nat) : Int) := Int.toNat_of_nonneg (Int.emod_nonneg _ (by decide))
    rw [Int.natCast_emod, h1]
    exact Int.emod_emod_of_dvd _ (by exact_mod_cast Nat.pow_dvd_pow 2 (by omega : i ≤ 64))
  have e : ((BitVec.ofInt 64 s &&& BitVec.ofInt 64 (2 ^ i - 1)).toNat : Int) = s % ((2 ^ i : Nat) : Int) := by
    rw [hc, BitVec.ofInt_natCast, BitVec.toNat_and, BitVec.toNat_ofNat, hm, Nat.and_two_pow_sub_one_eq_mod, BitVec.toNat_ofInt]
    exact hd
  have h0 : 0 ≤ s % ((2 ^ i : Nat) : Int) := Int.emod_nonneg _ (by exact_mod_cast (by omega : 2 ^ i ≠ 0))
  have h1 : s % ((2 ^ i : Nat) : Int) < ((2 ^ i : Nat) : Int) := Int.emod_lt_of_pos _ (by exact_mod_cast hpos)
  have h2 : ((2 ^ i : Nat) : Int) ≤ ((2 ^ 32 : Nat) : Int) := by exact_mod_cast hle
  have h3 : IntKind.i64.wrap (s % ((2 ^ i : Nat) : Int)) = s % ((2 ^ i : Nat) : Int) := wr64 _ h0 (by omega)
  have h4 : Go.bits .and .i64 s (2 ^ i - 1) = IntKind.i64.wrap ((BitVec.ofInt 64 s &&& BitVec.ofInt 64 (2 ^ i - 1)).toNat : Int) := rfl
  rw [h4, e, h3]
  simp
theorem and_all (s : Int) : Go.bits .and .i64 s 4294967295 = s % 4294967296 := and_mask64 s 32 (by decide)
theorem and_255 (s : Int) : Go.bits .and .i64 s 255 = s % 256 := and_mask64 s 8 (by decide)
theorem and_127 (s : Int) : Go.bits .and .i64 s 127 = s % 128 := and_mask64 s 7 (by decide)
theorem and_1 (s : Int) : Go.bits .and .i64 s 1 = s % 2 := and_mask64 s 1 (by decide)
theorem and32_1 (n : Nat) (hn : n < 4294967296) : Go.bits .and .u32 n 1 = ((n % 2 : Nat) : Int) := by
  have h := (bits_nat .u32 32 (by decide) wr32 n 1 hn (by decide)).1
  rw [show ((1 : Nat) : Int) = 1 from rfl] at h
  rw [h, Nat.and_one_is_mod]

/-! ### sums of 32 bits -/
def stp (n : Nat) : Nat := if n % 2 = 1 then (n / 2) ^^^ 2197175160 else n / 2
def stps : Nat → Nat → Nat
  | 0, n => n
  | d + 1, n => stps d (stp n)
/-- A sum behind a byte. -/
def sb (s b : Nat) : Nat := stps 8 (s ^^^ b)
def sm (s : Nat) (l : List Nat) : Nat := l.foldl sb s
theorem xlt {a b : Nat} (ha : a < 4294967296) (hb : b < 4294967296) : a ^^^ b < 4294967296 := by
  have := Nat.xor_lt_two_pow (n := 32) (x := a) (y := b) (by omega) (by omega)
  omega
theorem stp_lt {n : Nat} (h : n < 4294967296) : stp n < 4294967296 := by
  unfold stp
  split
  · exact xlt (by omega) (by decide)
  · omega
theorem stps_lt : ∀ (d : Nat) {n : Nat}, n < 4294967296 → stps d n < 4294967296
  | 0, _, h => h
  | d + 1, _, h => stps_lt d (stp_lt h)
theorem sb_lt {s b : Nat} (hs : s < 4294967296) (hb : b < 4294967296) : sb s b < 4294967296 := stps_lt 8 (xlt hs hb)
theorem sm_lt : ∀ (l : List Nat) {s : Nat}, s < 4294967296 → (∀ x ∈ l, x < 256) → sm s l < 4294967296
  | [], _, h, _ => h
  | x :: l, s, h, hl => sm_lt l (s := sb s x) (sb_lt h (by have := hl x (by simp); omega)) (fun y hy => hl y (by simp [hy]))

/-! ### texts as lists of numbers -/
def bl (t : ByteArray) : List Nat := t.data.toList.map UInt8.toNat
theorem bl_length (t : ByteArray) : (bl t).length = t.size := by
  unfold bl
  rw [List.length_map, Array.length_toList]
  rfl
theorem bl_lt (t : ByteArray) : ∀ x ∈ bl t, x < 256 := by
  intro x hx
  obtain ⟨u, _, rfl⟩ := List.mem_map.1 hx
  exact u.toNat_lt
theorem bt_bl (t : ByteArray) (i : Nat) (h : i < t.size) : bt t (i : Int) = ((bl t).getD i 0 : Int) := by
  unfold bt b8 bl
  rw [Int.toNat_natCast, List.getD_eq_getElem?_getD, List.getD_eq_getElem?_getD, List.getElem?_map]
  cases t.data.toList[i]? <;> rfl
theorem bl_drop (t : ByteArray) (i : Nat) (h : i < t.size) : (bl t).drop i = (bl t).getD i 0 :: (bl t).drop (i + 1) := by
  have hl : i < (bl t).length := by rw [bl_length]; exact h
  rw [List.drop_eq_getElem_cons hl, List.getD_eq_getElem?_getD, List.getElem?_eq_getElem hl]
  rfl
theorem bl_getD_lt (t : ByteArray) (i : Nat) : (bl t).getD i 0 < 256 := by
  rcases Nat.lt_or_ge i (bl t).length with h | h
  · rw [List.getD_eq_getElem?_getD, List.getElem?_eq_getElem h]
    exact bl_lt t _ (List.getElem_mem h)
  · rw [List.getD_eq_getElem?_getD, List.getElem?_eq_none h]
    decide
/-- SumMore of any s and a text. -/
def sumMore (s : Int) (t : ByteArray) : Int := ((sm ((s % 4294967296).toNat ^^^ 4294967295) (bl t) ^^^ 4294967295 : Nat) : Int)
def sumOf (t : ByteArray) : Int := sumMore 0 t
theorem sumMore_range (s : Int) (t : ByteArray) : 0 ≤ sumMore s t ∧ sumMore s t < 4294967296 := by
  refine ⟨Int.natCast_nonneg _, ?_⟩
  have h0 : (s % 4294967296).toNat < 4294967296 := by omega
  have := xlt (sm_lt (bl t) (xlt h0 (by decide : 4294967295 < 4294967296)) (bl_lt t)) (by decide : 4294967295 < 4294967296)
  unfold sumMore
  omega

/-! ### numbers in so many bytes -/
def fixL : Nat → Int → List Int
  | 0, _ => []
  | d + 1, n => n % 256 :: fixL d (n / 256)
theorem fixL_length : ∀ (d : Nat) (n : Int), (fixL d n).length = d
  | 0, _ => rfl
  | d + 1, n => by simp [fixL, fixL_length d]
theorem div_div (n : Int) (d : Nat) : n / 256 / 256 ^ d = n / 256 ^ (d + 1) := by
  rw [Int.ediv_ediv_of_nonneg (by decide), Int.pow_succ, Int.mul_comm]
theorem fixL_snoc : ∀ (d : Nat) (n : Int), fixL (d + 1) n = fixL d n ++ [n / 256 ^ d % 256]
  | 0, n => by simp [fixL]
  | d + 1, n => by
    rw [show fixL (d + 1 + 1) n = n % 256 :: fixL (d + 1) (n / 256) from rfl, fixL_snoc d (n / 256), div_div]
    rfl
def fixT (n w : Int) : ByteArray := if n < 0 ∨ w < 1 ∨ 8 < w ∨ n / 256 ^ w.toNat > 0 then ⟨#[]⟩ else strOf (fixL w.toNat n)

theorem strOf_size (l : List Int) : (strOf l).size = l.length := by simp [strOf, ByteArray.size]
theorem mkE_size : (⟨#[]⟩ : ByteArray).size = 0 := rfl
theorem fixT_le (n w : Int) : (fixT n w).size ≤ 8 := by
  unfold fixT
  split
  · exact Nat.zero_le _
  · rename_i h
    rw [strOf_size, fixL_length]
    omega
theorem fixT_size (n w : Int) (h0 : 0 ≤ n) (h1 : 1 ≤ w) (h8 : w ≤ 8) (hn : n < 256 ^ w.toNat) : (fixT n w).size = w.toNat := by
  unfold fixT
  rw [if_neg (by
    have : n / 256 ^ w.toNat = 0 := Int.ediv_eq_zero_of_lt h0 hn
    omega), strOf_size, fixL_length]
theorem fixT4_size (n : Int) (h0 : 0 ≤ n) (hn : n < 4294967296) : (fixT n 4).size = 4 := fixT_size n 4 h0 (by decide) (by decide) hn
theorem fixT8_size (n : Int) (h0 : 0 ≤ n) (hn : n < 9223372036854775808) : (fixT n 8).size = 8 := fixT_size n 8 h0 (by decide) (by decide) (by
  have : (256 : Int) ^ (8 : Int).toNat = 18446744073709551616 := by decide
  omega)

/-! ### numbers in as few bytes as can be -/
def varL : Nat → Int → List Int
  | 0, n => [n % 256]
  | d + 1, n => if n > 127 then (n % 128 + 128) :: varL d (n / 128) else [n % 256]
def varT (n : Int) : ByteArray := if n < 0 ∨ 1000000000 < n then ⟨#[]⟩ else strOf (varL 4 n)
theorem varL_gt (d : Nat) (n : Int) (h : n > 127) : varL (d + 1) n = (n % 128 + 128) :: varL d (n / 128) := if_pos h
theorem varL_ngt (d : Nat) (n : Int) (h : ¬ n > 127) : varL (d + 1) n = [n % 256] := if_neg h
theorem varL_le : ∀ (d : Nat) (n : Int), (varL d n).length ≤ d + 1
  | 0, _ => by simp [varL]
  | d + 1, n => by
    unfold varL
    split
    · have := varL_le d (n / 128)
      simp; omega
    · simp
theorem varL_pos : ∀ (d : Nat) (n : Int), 0 < (varL d n).length
  | 0, _ => by simp [varL]
  | d + 1, n => by unfold varL; split <;> simp
theorem varT_le (n : Int) : (varT n).size ≤ 5 := by
  unfold varT
  split
  · exact Nat.zero_le _
  · rw [strOf_size]; exact varL_le 4 n
theorem varT_pos (n : Int) (h0 : 0 ≤ n) (h1 : n ≤ 1000000000) : 0 < (varT n).size := by
  unfold varT
  rw [if_neg (by omega), strOf_size]
  exact varL_pos 4 n
theorem or128 (m : Nat) (h : m < 256) : m ||| 128 = m % 128 + 128 := by
  have : ∀ m : Fin 256, m.val ||| 128 = m.val % 128 + 128 := by decide +kernel
  exact this ⟨m, h⟩
theorem orU8 (x : Int) : Go.bits .or .u8 (x % 256) 128 = x % 128 + 128 := by
  have h0 : x % 256 = (((x % 256).toNat : Nat) : Int) := by omega
  have h := (bits_nat .u8 8 (by decide) wraps_u8 (x % 256).toNat 128 (by omega) (by decide)).2
  rw [show ((128 : Nat) : Int) = 128 from rfl] at h
  rw [h0, h, or128 _ (by omega)]
  omega
theorem or64 (x : Int) : Go.bits .or .i64 (Go.bits .and .i64 x 127) 128 % 256 = x % 128 + 128 := by
  rw [and_127]
  have h0 : x % 128 = (((x % 128).toNat : Nat) : Int) := by omega
  have h := (bits_nat .i64 32 (by decide) wr64 (x % 128).toNat 128 (by omega) (by decide)).2
  rw [show ((128 : Nat) : Int) = 128 from rfl] at h
  rw [h0, h, or128 _ (by omega)]
  omega

def sizedT (p n : Int) : ByteArray := fixT n 4 ++ fixT (sumOf (fixT p 8 ++ fixT n 4)) 4
def verOk (v : Int) : Prop := v = 1 ∨ v = 2
instance (v : Int) : Decidable (verOk v) := by unfold verOk; infer_instance
def numOk (n : Int) : Prop := 0 ≤ n ∧ n ≤ 1000000000
instance (v : Int) : Decidable (numOk v) := by unfold numOk; infer_instance
def endMark (v p : Int) : ByteArray := if verOk v ∧ numOk p then (if v = 1 then ⟨#[255, 255, 255, 255, 15]⟩ else sizedT p 4294967295) else ⟨#[]⟩
def frameT (v p : Int) (r : ByteArray) : ByteArray :=
  if verOk v ∧ numOk p ∧ r.size ≤ 60 then (if v = 1 then varT r.size else sizedT p r.size) ++ r ++ fixT (sumOf r) 4 else ⟨#[]⟩
theorem sizedT_le (p n : Int) : (sizedT p n).size ≤ 16 := by
  unfold sizedT
  have h1 := fixT_le n 4
  have h2 := fixT_le (sumOf (fixT p 8 ++ fixT n 4)) 4
  rw [ByteArray.size_append]; omega
theorem endMark_le (v p : Int) : (endMark v p).size ≤ 16 := by
  unfold endMark
  split
  · split
    · decide
    · exact sizedT_le _ _
  · exact Nat.zero_le _
/-- Whether a text stands at a place. -/
def hasAt (b : ByteArray) (a : Int) (t : ByteArray) : Bool := decide (0 ≤ a ∧ a + t.size ≤ b.size ∧ b.extract a.toNat (a.toNat + t.size) = t)
def markAt (v p : Int) (b : ByteArray) (a : Int) : Bool := decide ((endMark v p).size ≠ 0) && hasAt b a (endMark v p)

/-! ### what stands at the end -/
def trailGo (acc : ByteArray) : List Int → ByteArray
  | [] => acc ++ ⟨#[73, 68, 88, 33]⟩
  | n :: l => if (fixT n 4).size = 0 then ⟨#[]⟩ else trailGo (acc ++ fixT n 4) l
def trailT (a b c d : Int) : ByteArray := trailGo ⟨#[]⟩ [a, b, c, d]

theorem rd_get (xs : List Int) (i : Nat) (h : i < xs.length) : rd xs (i : Int) = xs[i] := by
  unfold rd
  rw [Int.toNat_natCast, List.getD_eq_getElem?_getD, List.getElem?_eq_getElem h]
  rfl

/-! ### links -/
def linkMore (l : Int) (r : ByteArray) : Int := sumMore l (fixT r.size 4 ++ r)
def linkAll (l : Int) (rs : List ByteArray) : Int := rs.foldl linkMore l

theorem take_snoc {α : Type} (d : α) (xs : List α) (i : Nat) (h : i < xs.length) : xs.take (i + 1) = xs.take i ++ [rdOf d xs (i : Int)] := by
  unfold rdOf
  rw [List.take_succ_eq_append_getElem h, Int.toNat_natCast, List.getD_eq_getElem?_getD, List.getElem?_eq_getElem h]
  rfl

/-! ### places of every so many-eth -/
def plc {α : Type} (mk : Int → Int → α) (s : Int) : List Int → Nat → List α
  | [], _ => []
  | x :: l, i => if (i : Int) % s = 0 then mk i x :: plc mk s l (i + 1) else plc mk s l (i + 1)
theorem plc_length {α : Type} (mk : Int → Int → α) (s : Int) : ∀ (l : List Int) (i : Nat), (plc mk s l i).length ≤ l.length
  | [], _ => by simp [plc]
  | x :: l, i => by
    have := plc_length mk s l (i + 1)
    unfold plc
    split <;> simp <;> omega
def placesOf {α : Type} (mk : Int → Int → α) (s : Int) (l : List Int) : List α := if s < 1 then [] else plc mk s l 0

end Go.Mth

/- Plain mathematics for this seat's laws, second part: numbers read from bytes, heads, frames, scans. No program in it.
   Conditions: none beyond those that each lemma names. -/
namespace Go.Mth
open Go.RowKit
set_option linter.unusedVariables false
set_option linter.unusedSimpArgs false

/-! ### texts and their numbers -/
theorem bytesOf_length (t : ByteArray) : (bytesOf t).length = t.size := by
  unfold bytesOf
  rw [List.length_map, Array.length_toList]
  rfl
theorem bytesOf_range (t : ByteArray) : ∀ x ∈ bytesOf t, 0 ≤ x ∧ x ≤ 255 := by
  intro x hx
  obtain ⟨u, _, rfl⟩ := List.mem_map.1 hx
  have := u.toNat_lt
  omega
theorem bytesOf_append (a b : ByteArray) : bytesOf (a ++ b) = bytesOf a ++ bytesOf b := by
  unfold bytesOf
  rw [ByteArray.data_append, Array.toList_append, List.map_append]
theorem bytesOf_extract (t : ByteArray) (i j : Nat) : bytesOf (t.extract i j) = ((bytesOf t).take j).drop i := by
  unfold bytesOf
  rw [ByteArray.data_extract, Array.toList_extract, List.extract_eq_take_drop, ← List.map_take, ← List.map_drop, List.drop_take]
theorem bytesOf_strOf (l : List Int) (h : ∀ x ∈ l, 0 ≤ x ∧ x ≤ 255) : bytesOf (strOf l) = l := by
  unfold bytesOf strOf
  rw [List.map_map]
  refine (List.map_congr_left (fun x hx => ?_)).trans (List.map_id l)
  have := h x hx
  simp only [Function.comp, id]
  rw [UInt8.toNat_ofNat']
  omega
theorem strOf_bytesOf (t : ByteArray) : strOf (bytesOf t) = t := by
  unfold bytesOf strOf
  rw [List.map_map]
  have e : t.data.toList.map ((fun n : Int => UInt8.ofNat n.toNat) ∘ fun b : UInt8 => (b.toNat : Int)) = t.data.toList := by
    refine (List.map_congr_left (fun x hx => ?_)).trans (List.map_id _)
    simp only [Function.comp, Int.toNat_natCast, id]
    exact UInt8.ofNat_toNat
  rw [e]
theorem bytesOf_inj {a b : ByteArray} (h : bytesOf a = bytesOf b) : a = b := by
  rw [← strOf_bytesOf a, ← strOf_bytesOf b, h]
theorem bt_rd (t : ByteArray) (i : Int) : bt t i = rd (bytesOf t) i := (rd_bytesOf t i).symm

theorem pow_mono (a : Nat) (ha : 0 < a) {i j : Nat} (h : i ≤ j) : ((a : Int)) ^ i ≤ (a : Int) ^ j := by
  have := Nat.pow_le_pow_right ha h
  exact_mod_cast this
/-! ### joining bits -/
theorem wr63 (n : Int) (h0 : 0 ≤ n) (h1 : n < 2 ^ 63) : IntKind.i64.wrap n = n := by rw [IntKind.wrap_i64]; omega
theorem or_comm64 (a b : Int) : Go.bits .or .i64 a b = Go.bits .or .i64 b a := by
  have h : ∀ x y : Int, Go.bits .or .i64 x y = IntKind.i64.wrap ((BitVec.ofInt 64 x ||| BitVec.ofInt 64 y).toNat : Int) := fun _ _ => rfl
  rw [h, h, BitVec.or_comm]
/-- A part below 2^i and one above it. -/
theorem or_low (i : Nat) (n h : Int) (hn0 : 0 ≤ n) (hn : n < 2 ^ i) (hh0 : 0 ≤ h) (hh : h * 2 ^ i < 2 ^ 63) (hi : i ≤ 62) : Go.bits .or .i64 n (h * 2 ^ i) = n + h * 2 ^ i := by
  rw [or_comm64]
  have hp : (2 : Int) ^ i ≤ 2 ^ 62 := by exact_mod_cast Nat.pow_le_pow_right (by decide : 0 < 2) hi
  rw [bits_join .i64 63 (by decide) wr63 i (h * 2 ^ i) n (Int.mul_nonneg hh0 (Int.pow_nonneg (by decide))) (Int.mul_emod_left _ _) hh hn0 hn (by omega)]
  omega
theorem or_high (n x : Int) (hn0 : 0 ≤ n) (hx0 : 0 ≤ x) (hx : x < 256) (hn : n * 256 < 2 ^ 63) : Go.bits .or .i64 (n * 256) x = n * 256 + x := by
  have := or_low 8 x n hx0 (by omega) hn0 (by omega) (by decide)
  rw [or_comm64]
  rw [show (2 : Int) ^ 8 = 256 by decide] at this
  rw [this]
  omega
theorem shl7 (x : Int) (i : Nat) (hi : i ≤ 4) (hx0 : 0 ≤ x) (hx : x < 128) : shl .i64 x (7 * (i : Int)) = x * 2 ^ (7 * i) := by
  unfold shl
  rw [show (7 * (i : Int)).toNat = 7 * i by omega, show IntKind.bits .i64 = 64 from rfl, Nat.min_eq_left (by omega)]
  have h2 : (2 : Int) ^ (7 * i) ≤ 2 ^ 28 := by exact_mod_cast Nat.pow_le_pow_right (by decide : 0 < 2) (by omega : 7 * i ≤ 28)
  have h3 : (0 : Int) ≤ 2 ^ (7 * i) := Int.pow_nonneg (by decide)
  have h4 : x * 2 ^ (7 * i) ≤ 127 * 2 ^ 28 := Int.mul_le_mul (by omega) h2 h3 (by decide)
  exact wr63 _ (Int.mul_nonneg hx0 h3) (by omega)
theorem shl8 (x : Int) (i : Nat) (hi : i ≤ 6) (hx0 : 0 ≤ x) (hx : x < 256) : shl .i64 x (8 * (i : Int)) = x * 2 ^ (8 * i) := by
  unfold shl
  rw [show (8 * (i : Int)).toNat = 8 * i by omega, show IntKind.bits .i64 = 64 from rfl, Nat.min_eq_left (by omega)]
  have h2 : (2 : Int) ^ (8 * i) ≤ 2 ^ 48 := by exact_mod_cast Nat.pow_le_pow_right (by decide : 0 < 2) (by omega : 8 * i ≤ 48)
  have h3 : (0 : Int) ≤ 2 ^ (8 * i) := Int.pow_nonneg (by decide)
  have h4 : x * 2 ^ (8 * i) ≤ 255 * 2 ^ 48 := Int.mul_le_mul (by omega) h2 h3 (by decide)
  exact wr63 _ (Int.mul_nonneg hx0 h3) (by omega)
/-- The eighth byte: as it is where its top bit is clear, and below 0 where it is set. -/
theorem or_top (n x : Int) (hn0 : 0 ≤ n) (hn : n < 2 ^ 56) (hx0 : 0 ≤ x) (hx : x < 256) :
    Go.bits .or .i64 n (shl .i64 x 56) = if x < 128 then n + x * 2 ^ 56 else n + x * 2 ^ 56 - 2 ^ 64 := by
  obtain ⟨a, rfl⟩ := Int.eq_ofNat_of_zero_le hn0
  obtain ⟨c, rfl⟩ := Int.eq_ofNat_of_zero_le hx0
  have hs : shl .i64 (c : Int) 56 = IntKind.i64.wrap ((c * 2 ^ 56 : Nat) : Int) := by
    unfold shl
    rw [show (56 : Int).toNat = 56 by decide, show IntKind.bits .i64 = 64 from rfl, Nat.min_eq_left (by decide)]
    congr 1
  have h1 : BitVec.ofInt 64 (shl .i64 (c : Int) 56) = BitVec.ofNat 64 (c * 2 ^ 56) := by
    rw [hs, IntKind.wrap_i64]
    apply BitVec.eq_of_toNat_eq
    rw [BitVec.toNat_ofInt, BitVec.toNat_ofNat]
    omega
  have h : Go.bits .or .i64 (a : Int) (shl .i64 (c : Int) 56) = IntKind.i64.wrap ((BitVec.ofInt 64 (a : Int) ||| BitVec.ofInt 64 (shl .i64 (c : Int) 56)).toNat : Int) := rfl
  rw [h, h1, BitVec.ofInt_natCast, BitVec.toNat_or, BitVec.toNat_ofNat, BitVec.toNat_ofNat, Nat.mod_eq_of_lt (by omega), Nat.mod_eq_of_lt (by omega), Nat.or_comm, Nat.mul_comm c,
    ← Nat.two_pow_add_eq_or_of_lt (by omega : a < 2 ^ 56) c, IntKind.wrap_i64]
  split <;> omega

/-! ### numbers read from so many bytes -/
/-- The number of these bytes, the lowest first. -/
def le : List Int → Int
  | [] => 0
  | x :: l => x + 256 * le l
theorem le_range : ∀ (l : List Int), (∀ x ∈ l, 0 ≤ x ∧ x ≤ 255) → 0 ≤ le l ∧ le l < 256 ^ l.length
  | [], _ => by simp [le]
  | x :: l, h => by
    have h1 := h x (by simp)
    have h2 := le_range l (fun y hy => h y (by simp [hy]))
    simp only [le, List.length_cons, Int.pow_succ]
    omega
theorem le_snoc : ∀ (l : List Int) (x : Int), le (l ++ [x]) = le l + x * 256 ^ l.length
  | [], x => by simp [le]
  | y :: l, x => by
    simp only [List.cons_append, le, List.length_cons, Int.pow_succ, le_snoc l x]
    rw [Int.mul_add, Int.mul_left_comm (256 : Int) x, Int.mul_comm (256 : Int) (256 ^ l.length)]
    omega
theorem fixL_range : ∀ (d : Nat) (n : Int), ∀ x ∈ fixL d n, 0 ≤ x ∧ x ≤ 255
  | 0, n, x, h => by simp [fixL] at h
  | d + 1, n, x, h => by
    rcases List.mem_cons.1 h with rfl | h
    · omega
    · exact fixL_range d _ x h
/-- The bytes of a text from a place on, so many. -/
def seg (b : ByteArray) (a n : Nat) : List Int := ((bytesOf b).drop a).take n
theorem seg_length (b : ByteArray) (a n : Nat) (h : a + n ≤ b.size) : (seg b a n).length = n := by
  unfold seg
  rw [List.length_take, List.length_drop, bytesOf_length]
  omega
theorem seg_range (b : ByteArray) (a n : Nat) : ∀ x ∈ seg b a n, 0 ≤ x ∧ x ≤ 255 := fun x hx => bytesOf_range b x (List.mem_of_mem_drop (List.mem_of_mem_take hx))
theorem seg_snoc (b : ByteArray) (a n : Nat) (h : a + n < b.size) : seg b a (n + 1) = seg b a n ++ [bt b ((a + n : Nat) : Int)] := by
  unfold seg
  have hl : n < ((bytesOf b).drop a).length := by rw [List.length_drop, bytesOf_length]; omega
  have hl2 : a + n < (bytesOf b).length := by rw [bytesOf_length]; omega
  rw [List.take_succ_eq_append_getElem hl, bt_rd, rd_get _ _ hl2, List.getElem_drop]
theorem seg_cons (b : ByteArray) (a n : Nat) (h : a < b.size) : seg b a (n + 1) = bt b (a : Int) :: seg b (a + 1) n := by
  unfold seg
  have hl2 : a < (bytesOf b).length := by rw [bytesOf_length]; omega
  rw [List.drop_eq_getElem_cons hl2, List.take_succ_cons, bt_rd, rd_get _ _ hl2]
theorem extract_seg (b : ByteArray) (a n : Nat) : bytesOf (b.extract a (a + n)) = seg b a n := by
  unfold seg
  rw [bytesOf_extract, List.drop_take]
  congr 1
  omega
def rfix (b : ByteArray) (a w : Int) : Int × Bool :=
  if (1 ≤ w ∧ w ≤ 8) ∧ 0 ≤ a ∧ a ≤ b.size - w then (if le (seg b a.toNat w.toNat) < 2 ^ 63 then (le (seg b a.toNat w.toNat), true) else (0, false)) else (0, false)
theorem rfix_range (b : ByteArray) (a w : Int) : 0 ≤ (rfix b a w).1 ∧ (rfix b a w).1 < 2 ^ 63 := by
  unfold rfix
  split
  · split
    · exact ⟨(le_range _ (seg_range _ _ _)).1, by assumption⟩
    · exact ⟨by decide, by decide⟩
  · exact ⟨by decide, by decide⟩
end Go.Mth

/- Plain mathematics for this seat's laws, third part: numbers in as few bytes as can be, read; heads; frames; scans. No program in it.
   Conditions: none beyond those that each lemma names. -/
namespace Go.Mth
open Go.RowKit
set_option linter.unusedVariables false
set_option linter.unusedSimpArgs false

/-! ### numbers in as few bytes as can be, read -/
def acc : List Int → Int
  | [] => 0
  | x :: l => x % 128 + 128 * acc l
theorem acc_range : ∀ (l : List Int), 0 ≤ acc l ∧ acc l < 128 ^ l.length
  | [] => by simp [acc]
  | x :: l => by
    have := acc_range l
    simp only [acc, List.length_cons, Int.pow_succ]
    omega
theorem acc_snoc : ∀ (l : List Int) (x : Int), acc (l ++ [x]) = acc l + x % 128 * 128 ^ l.length
  | [], x => by simp [acc]
  | y :: l, x => by
    simp only [List.cons_append, acc, List.length_cons, Int.pow_succ, acc_snoc l x]
    rw [Int.mul_add, Int.mul_left_comm (128 : Int) (x % 128), Int.mul_comm (128 : Int) (128 ^ l.length)]
    omega
theorem acc_pos : ∀ (l : List Int) (x : Int), 0 < x → x < 128 → 0 < acc (l ++ [x])
  | [], x, h0, h1 => by simp only [List.nil_append, acc]; omega
  | y :: l, x, h0, h1 => by
    have := acc_pos l x h0 h1
    simp only [List.cons_append, acc]
    omega
theorem varL_acc : ∀ (l : List Int) (d : Nat) (x : Int), l.length ≤ d → (∀ y ∈ l, 128 ≤ y ∧ y ≤ 255) → 0 ≤ x → x < 128 → (l = [] ∨ x ≠ 0) → varL d (acc (l ++ [x])) = l ++ [x]
  | [], d, x, _, _, h0, h1, _ => by
    have e : acc ([] ++ [x]) = x := by simp only [List.nil_append, acc]; omega
    rw [e]
    cases d with
    | zero => simp only [varL, List.nil_append]; rw [Int.emod_eq_of_lt h0 (by omega)]
    | succ d => rw [varL_ngt d x (by omega), Int.emod_eq_of_lt h0 (by omega)]; rfl
  | y :: l, 0, x, hd, _, _, _, _ => by simp at hd
  | y :: l, d + 1, x, hd, hl, h0, h1, hx => by
    have hx' : x ≠ 0 := hx.resolve_left (by simp)
    have hp := acc_pos l x (by omega) h1
    have hy := hl y (by simp)
    have e : acc (y :: l ++ [x]) = y % 128 + 128 * acc (l ++ [x]) := rfl
    have hd' : l.length ≤ d := by simpa using hd
    rw [e, varL_gt _ _ (by omega), show (y % 128 + 128 * acc (l ++ [x])) / 128 = acc (l ++ [x]) by omega, show (y % 128 + 128 * acc (l ++ [x])) % 128 + 128 = y by omega,
      varL_acc l d x hd' (fun z hz => hl z (by simp [hz])) h0 h1 (.inr hx')]
    rfl
theorem varL_last : ∀ (d : Nat) (n : Int), 1 ≤ n → n < 128 ^ (d + 1) → (varL d n).getLast? ≠ some 0
  | 0, n, h1, h2 => by
    simp only [varL, List.getLast?_singleton]
    intro h
    injection h with h
    omega
  | d + 1, n, h1, h2 => by
    by_cases h : n > 127
    · rw [varL_gt d n h]
      have hp : n / 128 < 128 ^ (d + 1) := by rw [Int.pow_succ] at h2; omega
      have := varL_last d (n / 128) (by omega) hp
      have hne : varL d (n / 128) ≠ [] := fun e => by have := varL_pos d (n / 128); rw [e] at this; simp at this
      rw [List.getLast?_cons_of_ne_nil hne]
      exact this
    · rw [varL_ngt d n h]
      simp only [List.getLast?_singleton]
      intro h
      injection h with h
      omega
theorem varL_canon (l : List Int) (x : Int) (hl4 : l.length ≤ 4) (hl : ∀ y ∈ l, 128 ≤ y ∧ y ≤ 255) (h0 : 0 ≤ x) (h1 : x < 128) : varL 4 (acc (l ++ [x])) = l ++ [x] ↔ ¬ (0 < l.length ∧ x = 0) := by
  constructor
  · rintro h ⟨h2, rfl⟩
    have hr := acc_range (l ++ [0])
    by_cases hz : acc (l ++ [0]) = 0
    · rw [hz] at h
      have := congrArg List.length h
      rw [varL_ngt 3 0 (by decide), List.length_append, List.length_singleton, List.length_singleton] at this
      omega
    · refine varL_last 4 (acc (l ++ [0])) (by omega) ?_ ?_
      · have h6 : (128 : Nat) ^ (l ++ [(0 : Int)]).length ≤ 128 ^ (4 + 1) := Nat.pow_le_pow_right (by decide) (by rw [List.length_append, List.length_singleton]; omega)
        have h7 : (128 : Int) ^ (l ++ [(0 : Int)]).length ≤ 128 ^ (4 + 1) := by exact_mod_cast h6
        exact Int.lt_of_lt_of_le hr.2 h7
      · rw [h]
        exact List.getLast?_concat
  · intro h
    refine varL_acc l 4 x hl4 hl h0 h1 ?_
    cases l with
    | nil => exact .inl rfl
    | cons y l => exact .inr (fun e => h ⟨by simp, e⟩)
theorem varL_range : ∀ (d : Nat) (n : Int), 0 ≤ n → ∀ x ∈ varL d n, 0 ≤ x ∧ x ≤ 255
  | 0, n, h, x, hx => by
    simp only [varL, List.mem_singleton] at hx
    omega
  | d + 1, n, h, x, hx => by
    by_cases h1 : n > 127
    · rw [varL_gt d n h1] at hx
      rcases List.mem_cons.1 hx with rfl | hx
      · omega
      · exact varL_range d _ (by omega) x hx
    · rw [varL_ngt d n h1, List.mem_singleton] at hx
      omega
def rvI (b : ByteArray) (a : Nat) : Nat → Nat → Int × Int × Bool
  | 0, _ => (0, 0, false)
  | d + 1, i => if a + i < b.size then
      (if bt b ((a + i : Nat) : Int) ≥ 128 then rvI b a d (i + 1)
       else if (0 < i ∧ bt b ((a + i : Nat) : Int) = 0) ∨ 1000000000 < acc (seg b a (i + 1)) then (0, 0, false) else (acc (seg b a (i + 1)), ((a + i + 1 : Nat) : Int), true))
      else (0, 0, false)
/-- The number whose VarText stands there. -/
def rv (b : ByteArray) (a : Int) : Int × Int × Bool := if 0 ≤ a then rvI b a.toNat 5 0 else (0, 0, false)
theorem rvI_range (b : ByteArray) (a : Nat) : ∀ (d i : Nat), (rvI b a d i).2.2 = true → 0 ≤ (rvI b a d i).1 ∧ (rvI b a d i).1 ≤ 1000000000 ∧ (a : Int) < (rvI b a d i).2.1 ∧ (rvI b a d i).2.1 ≤ b.size
  | 0, i, h => by simp [rvI] at h
  | d + 1, i, h => by
    unfold rvI at h ⊢
    split at h
    · rename_i h1
      rw [if_pos h1]
      split at h
      · rename_i h2
        rw [if_pos h2]
        exact rvI_range b a d (i + 1) h
      · rename_i h2
        rw [if_neg h2]
        split at h
        · simp at h
        · rename_i h3
          rw [if_neg h3]
          have := acc_range (seg b a (i + 1))
          refine ⟨this.1, by omega, ?_, ?_⟩
          · show (a : Int) < ((a + i + 1 : Nat) : Int)
            omega
          · show ((a + i + 1 : Nat) : Int) ≤ b.size
            omega
    · simp at h
theorem rv_range (b : ByteArray) (a : Int) (h : (rv b a).2.2 = true) : 0 ≤ a ∧ 0 ≤ (rv b a).1 ∧ (rv b a).1 ≤ 1000000000 ∧ a < (rv b a).2.1 ∧ (rv b a).2.1 ≤ b.size := by
  unfold rv at h ⊢
  split at h
  · rename_i h1
    rw [if_pos h1]
    have := rvI_range b a.toNat 5 0 h
    exact ⟨h1, this.1, this.2.1, by omega, this.2.2.2⟩
  · simp at h
/-! ### heads -/
def headOk (v s b l : Int) : Prop := verOk v ∧ (1 ≤ s ∧ s ≤ 20) ∧ numOk b ∧ (0 ≤ l ∧ l ≤ 4294967295)
instance (v s b l : Int) : Decidable (headOk v s b l) := by unfold headOk; infer_instance
def hdBody (v s b l : Int) : ByteArray := ⟨#[83, 69, 71, 77]⟩ ++ fixT v 1 ++ fixT s 1 ++ ⟨#[0, 0]⟩ ++ fixT b 8 ++ fixT l 4
def headT (v s b l : Int) : ByteArray := if headOk v s b l then hdBody v s b l ++ fixT (sumOf (hdBody v s b l)) 4 else ⟨#[]⟩
theorem fixT0 : fixT 0 2 = ⟨#[0, 0]⟩ := by decide +kernel
theorem hdBody_le (v s b l : Int) : (hdBody v s b l).size ≤ 38 := by
  unfold hdBody
  have h1 := fixT_le v 1
  have h2 := fixT_le s 1
  have h3 := fixT_le b 8
  have h4 := fixT_le l 4
  simp only [ByteArray.size_append]
  have h5 : (⟨#[83, 69, 71, 77]⟩ : ByteArray).size = 4 := rfl
  have h6 : (⟨#[0, 0]⟩ : ByteArray).size = 2 := rfl
  omega
theorem headT_size (v s b l : Int) (h : headOk v s b l) : (headT v s b l).size = 24 := by
  have h' := h
  unfold headOk verOk numOk at h'
  unfold headT
  rw [if_pos h]
  unfold hdBody
  have h1 := fixT_size v 1 (by omega) (by decide) (by decide) (by simp; omega)
  have h2 := fixT_size s 1 (by omega) (by decide) (by decide) (by simp; omega)
  have h3 := fixT8_size b (by omega) (by omega)
  have h4 := fixT4_size l (by omega) (by omega)
  have h7 := sumMore_range 0 (hdBody v s b l)
  have h8 := fixT4_size (sumOf (hdBody v s b l)) h7.1 h7.2
  unfold hdBody at h8
  simp only [ByteArray.size_append, h1, h2, h3, h4, h8]
  rfl
/-- The head whose HeadText the first bytes are. -/
def rHead (b : ByteArray) : Int × Int × Int × Int × Bool :=
  if b.size < 24 then (0, 0, 0, 0, false)
  else if (rfix b 8 8).2 = true ∧ headT (bt b 4) (bt b 5) (rfix b 8 8).1 (rfix b 16 4).1 = b.extract 0 24 then (bt b 4, bt b 5, (rfix b 8 8).1, (rfix b 16 4).1, true) else (0, 0, 0, 0, false)
theorem rHead_ok (b : ByteArray) (h : (rHead b).2.2.2.2 = true) : 24 ≤ b.size ∧ headOk (rHead b).1 (rHead b).2.1 (rHead b).2.2.1 (rHead b).2.2.2.1 ∧ headT (rHead b).1 (rHead b).2.1 (rHead b).2.2.1 (rHead b).2.2.2.1 = b.extract 0 24 := by
  unfold rHead at h ⊢
  split at h
  · simp at h
  · rename_i h1
    rw [if_neg h1]
    split at h
    · rename_i h2
      rw [if_pos h2]
      refine ⟨by omega, ?_, h2.2⟩
      have hs := congrArg ByteArray.size h2.2
      rw [ByteArray.size_extract] at hs
      by_cases hk : headOk (bt b 4) (bt b 5) (rfix b 8 8).1 (rfix b 16 4).1
      · exact hk
      · unfold headT at hs
        rw [if_neg hk, mkE_size] at hs
        omega
    · simp at h
/-! ### frames -/
theorem frameT_le (v p : Int) (r : ByteArray) : (frameT v p r).size ≤ 84 := by
  unfold frameT
  split
  · rename_i h
    have h1 := sizedT_le p r.size
    have h2 := varT_le r.size
    have h3 := fixT_le (sumOf r) 4
    simp only [ByteArray.size_append]
    split <;> omega
  · exact Nat.zero_le _
/-- How long the record is, and where it begins. -/
def fq (v : Int) (b : ByteArray) (a : Int) : Int × Int × Bool := if v = 2 then ((rfix b a 4).1, a + 8, (rfix b a 4).2) else rv b a
def rFrameQ (v p : Int) (b : ByteArray) (a : Int) (q : Int × Int × Bool) : ByteArray × Int × Bool :=
  if (verOk v ∧ numOk p ∧ 0 ≤ a ∧ a ≤ b.size) ∧ q.2.2 = true ∧ q.1 ≤ 60 ∧ q.2.1 + q.1 ≤ b.size ∧ hasAt b a (frameT v p (b.extract q.2.1.toNat (q.2.1 + q.1).toNat)) = true
  then (b.extract q.2.1.toNat (q.2.1 + q.1).toNat, a + ((frameT v p (b.extract q.2.1.toNat (q.2.1 + q.1).toNat)).size : Int), true) else (⟨#[]⟩, 0, false)
/-- The record whose FrameText stands there. -/
def rFrame (v p : Int) (b : ByteArray) (a : Int) : ByteArray × Int × Bool := rFrameQ v p b a (fq v b a)
theorem hasAt_iff (b : ByteArray) (a : Int) (t : ByteArray) : hasAt b a t = true ↔ 0 ≤ a ∧ a + t.size ≤ b.size ∧ b.extract a.toNat (a.toNat + t.size) = t := by
  unfold hasAt
  rw [decide_eq_true_iff]
theorem frameT_pos (v p : Int) (r : ByteArray) (hv : verOk v) (hp : numOk p) (hr : r.size ≤ 60) : 5 ≤ (frameT v p r).size := by
  unfold frameT
  rw [if_pos ⟨hv, hp, hr⟩]
  have h7 := sumMore_range 0 r
  have h8 := fixT4_size (sumOf r) h7.1 h7.2
  simp only [ByteArray.size_append, h8]
  split
  · have := varT_pos r.size (by omega) (by omega)
    omega
  · unfold sizedT
    have := fixT4_size r.size (by omega) (by omega)
    rw [ByteArray.size_append]
    omega
theorem rFrame_ok (v p : Int) (b : ByteArray) (a : Int) (h : (rFrame v p b a).2.2 = true) :
    verOk v ∧ numOk p ∧ 0 ≤ a ∧ (rFrame v p b a).1.size ≤ 60 ∧ (rFrame v p b a).2.1 = a + ((frameT v p (rFrame v p b a).1).size : Int) ∧ hasAt b a (frameT v p (rFrame v p b a).1) = true ∧ a + 5 ≤ (rFrame v p b a).2.1 ∧ (rFrame v p b a).2.1 ≤ b.size := by
  unfold rFrame at h ⊢
  generalize fq v b a = q at h ⊢
  unfold rFrameQ at h ⊢
  split at h
  · rename_i h1
    rw [if_pos h1]
    have h2 := (hasAt_iff _ _ _).1 h1.2.2.2.2
    have hsz : (b.extract q.2.1.toNat (q.2.1 + q.1).toNat).size ≤ 60 := by
      rw [ByteArray.size_extract]
      have := h1.2.2.1
      omega
    have h3 := frameT_pos v p _ h1.1.1 h1.1.2.1 hsz
    refine ⟨h1.1.1, h1.1.2.1, h1.1.2.2.1, hsz, rfl, h1.2.2.2.2, ?_, ?_⟩
    · show a + 5 ≤ a + ((frameT v p _).size : Int)
      omega
    · exact h2.2.1
  · simp at h
/-! ### scans -/
def scanGo (v base : Int) (b : ByteArray) : Nat → List ByteArray → List Int → Int → List ByteArray × List Int × Int × Bool
  | 0, rs, os, e => (rs, os, e, false)
  | d + 1, rs, os, e =>
    if markAt v (base + rs.length) b e = true then (rs, os, e, true)
    else if (rFrame v (base + rs.length) b e).2.2 = true then scanGo v base b d (rs ++ [(rFrame v (base + rs.length) b e).1]) (os ++ [e]) (rFrame v (base + rs.length) b e).2.1
    else (rs, os, e, false)
/-- What is told of a file: its head's numbers, its records, where they begin, where the last one ends, whether it is marked. -/
def scan (b : ByteArray) : Bool × Int × Int × Int × Int × List ByteArray × List Int × Int × Bool :=
  if (rHead b).2.2.2.2 = true then (true, (rHead b).1, (rHead b).2.1, (rHead b).2.2.1, (rHead b).2.2.2.1, scanGo (rHead b).1 (rHead b).2.2.1 b (b.size + 1) [] [] 24)
  else (false, 0, 0, 0, 0, [], [], 0, false)
/-- What holds of a scan's state. -/
def ScInv (b : ByteArray) (rs : List ByteArray) (os : List Int) (e : Int) : Prop :=
  rs.length = os.length ∧ 24 ≤ e ∧ e ≤ b.size ∧ 24 + 5 * (rs.length : Int) ≤ e ∧ (∀ r ∈ rs, r.size ≤ 60) ∧ ∀ o ∈ os, 0 ≤ o ∧ o ≤ b.size
theorem scInv_step (v base : Int) (b : ByteArray) (rs : List ByteArray) (os : List Int) (e : Int) (h : ScInv b rs os e) (hf : (rFrame v (base + rs.length) b e).2.2 = true) :
    ScInv b (rs ++ [(rFrame v (base + rs.length) b e).1]) (os ++ [e]) (rFrame v (base + rs.length) b e).2.1 := by
  obtain ⟨h1, h2, h3, h4, h5, h6⟩ := h
  obtain ⟨_, _, _, k1, _, _, k2, k3⟩ := rFrame_ok _ _ _ _ hf
  refine ⟨by simp [h1], by omega, k3, by simp only [List.length_append, List.length_singleton]; omega, ?_, ?_⟩
  · intro r hr
    rcases List.mem_append.1 hr with hr | hr
    · exact h5 r hr
    · rw [List.mem_singleton.1 hr]; exact k1
  · intro o ho
    rcases List.mem_append.1 ho with ho | ho
    · exact h6 o ho
    · rw [List.mem_singleton.1 ho]; omega
theorem scanGo_inv (v base : Int) (b : ByteArray) : ∀ (d : Nat) (rs : List ByteArray) (os : List Int) (e : Int), ScInv b rs os e →
    ScInv b (scanGo v base b d rs os e).1 (scanGo v base b d rs os e).2.1 (scanGo v base b d rs os e).2.2.1
  | 0, rs, os, e, h => h
  | d + 1, rs, os, e, h => by
    unfold scanGo
    split
    · exact h
    · split
      · rename_i hf
        exact scanGo_inv v base b d _ _ _ (scInv_step v base b rs os e h hf)
      · exact h
theorem scan_inv (b : ByteArray) (h : (scan b).1 = true) : ScInv b (scan b).2.2.2.2.2.1 (scan b).2.2.2.2.2.2.1 (scan b).2.2.2.2.2.2.2.1 := by
  unfold scan at h ⊢
  split at h
  · rename_i h1
    rw [if_pos h1]
    have := (rHead_ok b h1).1
    exact scanGo_inv _ _ _ _ _ _ _ ⟨rfl, by omega, by omega, by simp, by simp, by simp⟩
  · simp at h
theorem scan_no (b : ByteArray) (h : ¬ (scan b).1 = true) : scan b = (false, 0, 0, 0, 0, [], [], 0, false) := by
  unfold scan at h ⊢
  split at h
  · simp at h
  · rename_i h1
    rw [if_neg h1]
theorem scan_head (b : ByteArray) (h : (scan b).1 = true) : (rHead b).2.2.2.2 = true ∧ (scan b).2.1 = (rHead b).1 ∧ (scan b).2.2.1 = (rHead b).2.1 ∧ (scan b).2.2.2.1 = (rHead b).2.2.1 ∧ (scan b).2.2.2.2.1 = (rHead b).2.2.2.1 := by
  unfold scan at h ⊢
  split at h
  · rename_i h1
    rw [if_pos h1]
    exact ⟨h1, rfl, rfl, rfl, rfl⟩
  · simp at h
end Go.Mth

/- Plain mathematics for this seat's laws, fourth part: lists of places, what stands behind the frames, sealed files. No program in it.
   Conditions: none beyond those that each lemma names. -/
namespace Go.Mth
open Go.RowKit
set_option linter.unusedVariables false
set_option linter.unusedSimpArgs false

/-! ### lists of places -/
/-- How much a is above b, as text. -/
def upT (a b : Int) : ByteArray := if b ≤ a ∧ a - b ≤ 1000000000 then varT (a - b) else ⟨#[]⟩
theorem stepT_le (a b : Int) : (upT a b).size ≤ 5 := by
  unfold upT
  split
  · exact varT_le _
  · exact Nat.zero_le _
def plGo : ByteArray → Int → Int → List (Int × Int) → ByteArray
  | o, _, _, [] => o
  | o, lc, la, p :: l => if (upT p.1 lc).size = 0 ∨ (upT p.2 la).size = 0 then ⟨#[]⟩ else plGo (o ++ upT p.1 lc ++ upT p.2 la) p.1 p.2 l
def placesT (l : List (Int × Int)) : ByteArray := plGo (varT l.length) 0 0 l
theorem plGo_le : ∀ (l : List (Int × Int)) (o : ByteArray) (lc la : Int), (plGo o lc la l).size ≤ o.size + 10 * l.length
  | [], o, _, _ => by simp [plGo]
  | p :: l, o, lc, la => by
    unfold plGo
    split
    · exact Nat.zero_le _
    · have := plGo_le l (o ++ upT p.1 lc ++ upT p.2 la) p.1 p.2
      have h1 := stepT_le p.1 lc
      have h2 := stepT_le p.2 la
      rw [ByteArray.size_append, ByteArray.size_append] at this
      rw [List.length_cons]
      omega
theorem placesT_le (l : List (Int × Int)) : (placesT l).size ≤ 5 + 10 * l.length := by
  have := plGo_le l (varT l.length) 0 0
  have := varT_le l.length
  unfold placesT
  omega
theorem placesOf_le {α : Type} (mk : Int → Int → α) (s : Int) (l : List Int) : (placesOf mk s l).length ≤ l.length := by
  unfold placesOf
  split
  · exact Nat.zero_le _
  · exact plc_length mk s l 0

/-! ### what stands behind the frames -/
theorem fixT4_full (n : Int) (h : (fixT n 4).size ≠ 0) : (fixT n 4).size = 4 ∧ 0 ≤ n ∧ n < 4294967296 := by
  have h256 : (256 : Int) ^ (4 : Int).toNat = 4294967296 := by decide
  unfold fixT at h ⊢
  split at h
  · exact absurd rfl h
  · rename_i h1
    rw [if_neg h1, strOf_size, fixL_length]
    rw [h256] at h1
    exact ⟨rfl, by omega, by omega⟩
theorem trailGo_le : ∀ (l : List Int) (acc : ByteArray), (trailGo acc l).size ≤ acc.size + 8 * l.length + 4
  | [], acc => by
    unfold trailGo
    rw [ByteArray.size_append]
    have : (⟨#[73, 68, 88, 33]⟩ : ByteArray).size = 4 := rfl
    simp only [List.length_nil]
    omega
  | n :: l, acc => by
    unfold trailGo
    split
    · exact Nat.zero_le _
    · have := trailGo_le l (acc ++ fixT n 4)
      have h := fixT_le n 4
      rw [ByteArray.size_append] at this
      rw [List.length_cons]
      omega
theorem trailT_le (a b c d : Int) : (trailT a b c d).size ≤ 36 := by
  have := trailGo_le [a, b, c, d] ⟨#[]⟩
  have h0 : (⟨#[]⟩ : ByteArray).size = 0 := rfl
  unfold trailT
  simp only [List.length_cons, List.length_nil] at this
  omega
theorem trailT_size (a b c d : Int) (h : (trailT a b c d).size ≠ 0) : (fixT a 4).size ≠ 0 ∧ (fixT b 4).size ≠ 0 ∧ (fixT c 4).size ≠ 0 ∧ (fixT d 4).size ≠ 0 ∧ trailT a b c d = fixT a 4 ++ fixT b 4 ++ fixT c 4 ++ fixT d 4 ++ ⟨#[73, 68, 88, 33]⟩ := by
  unfold trailT trailGo at h ⊢
  split at h
  · exact absurd rfl h
  · rename_i h1
    rw [if_neg h1]
    unfold trailGo at h ⊢
    split at h
    · exact absurd rfl h
    · rename_i h2
      rw [if_neg h2]
      unfold trailGo at h ⊢
      split at h
      · exact absurd rfl h
      · rename_i h3
        rw [if_neg h3]
        unfold trailGo at h ⊢
        split at h
        · exact absurd rfl h
        · rename_i h4
          rw [if_neg h4]
          refine ⟨h1, h2, h3, h4, ?_⟩
          unfold trailGo
          rw [show (⟨#[]⟩ : ByteArray) ++ fixT a 4 = fixT a 4 from ByteArray.empty_append]
/-- The places, in plain pairs. -/
def placesP (s : Int) (os : List Int) : List (Int × Int) := placesOf (fun a b => (a, b)) s os
def footT (v s b l : Int) (os : List Int) (e : Int) : ByteArray :=
  if headOk v s b l then
    (if (endMark v (b + os.length)).size = 0 ∨ (placesT (placesP s os)).size = 0 ∨ (trailT e os.length s 0).size = 0 then ⟨#[]⟩
     else endMark v (b + os.length) ++ placesT (placesP s os) ++ trailT e os.length s (sumOf (endMark v (b + os.length) ++ placesT (placesP s os) ++ (trailT e os.length s 0).extract 0 12)))
  else ⟨#[]⟩
theorem footT_le (v s b l : Int) (os : List Int) (e : Int) : (footT v s b l os e).size ≤ 57 + 10 * os.length := by
  unfold footT
  split
  · split
    · exact Nat.zero_le _
    · have h1 := endMark_le v (b + os.length)
      have h2 := placesT_le (placesP s os)
      have h3 := trailT_le e os.length s (sumOf (endMark v (b + os.length) ++ placesT (placesP s os) ++ (trailT e os.length s 0).extract 0 12))
      have h4 : (placesP s os).length ≤ os.length := placesOf_le _ _ _
      rw [ByteArray.size_append, ByteArray.size_append]
      omega
  · exact Nat.zero_le _

/-! ### sealed files -/
/-- The frames behind what stands, and where each begins. -/
def frGo (v b : Int) : ByteArray → List Int → List ByteArray → ByteArray × List Int
  | t, os, [] => (t, os)
  | t, os, r :: l => frGo v b (t ++ frameT v (b + os.length) r) (os ++ [(t.size : Int)]) l
theorem frGo_le (v b : Int) : ∀ (l : List ByteArray) (t : ByteArray) (os : List Int), (frGo v b t os l).1.size ≤ t.size + 84 * l.length ∧ (frGo v b t os l).2.length = os.length + l.length
  | [], t, os => by simp [frGo]
  | r :: l, t, os => by
    have := frGo_le v b l (t ++ frameT v (b + os.length) r) (os ++ [(t.size : Int)])
    have h := frameT_le v (b + os.length) r
    rw [ByteArray.size_append, List.length_append, List.length_singleton] at this
    unfold frGo
    rw [List.length_cons]
    omega
def sealOk (v s b l : Int) (rs : List ByteArray) : Prop := headOk v s b l ∧ rs.length ≤ 1000 ∧ b + rs.length ≤ 1000000000 ∧ ∀ r ∈ rs, r.size ≤ 60
instance (v s b l : Int) (rs : List ByteArray) : Decidable (sealOk v s b l rs) := by unfold sealOk; infer_instance
def sealT (v s b l : Int) (rs : List ByteArray) : ByteArray :=
  if sealOk v s b l rs then (frGo v b (headT v s b l) [] rs).1 ++ footT v s b l (frGo v b (headT v s b l) [] rs).2 (frGo v b (headT v s b l) [] rs).1.size else ⟨#[]⟩
theorem headT_le (v s b l : Int) : (headT v s b l).size ≤ 46 := by
  unfold headT
  split
  · have h1 := hdBody_le v s b l
    have h2 := fixT_le (sumOf (hdBody v s b l)) 4
    rw [ByteArray.size_append]
    omega
  · exact Nat.zero_le _
theorem sealT_le (v s b l : Int) (rs : List ByteArray) : (sealT v s b l rs).size ≤ 100000 := by
  unfold sealT
  split
  · rename_i h
    obtain ⟨_, h1, _, _⟩ := h
    have h2 := frGo_le v b rs (headT v s b l) []
    have h3 := footT_le v s b l (frGo v b (headT v s b l) [] rs).2 (frGo v b (headT v s b l) [] rs).1.size
    have h4 := headT_le v s b l
    rw [ByteArray.size_append]
    simp only [List.length_nil] at h2
    omega
  · exact Nat.zero_le _
end Go.Mth

/- What functions of the program and of the reference do, in plain values. -/
namespace Go.Pv
open Go.Proofs Go.Mth
set_option linter.unusedSimpArgs false
set_option linter.unusedVariables false
set_option maxHeartbeats 4000000
set_option maxRecDepth 4000

/-! ### bounds, sums, numbers in bytes -/
theorem spec_l01In (n lo hi : Int) : Fn Tryz.prog 116 [.int .i64 n, .int .i64 lo, .int .i64 hi] [] (.bool (decide (lo ≤ n ∧ n ≤ hi))) [] := by
  refine fn_x tok (n := 15) (rs := [.tmp 6]) Tryz.func116 (by decide) rfl rfl rfl rfl ?_
  refine Wr.go ?_
  repeat' ((first | (have ee := True.intro; refine Wr.mk ?_) | ((first | refine br_go ?_ ?_ | refine pick_go ?_ ?_) <;> intro ee f <;> (try simp only [BB] at f) <;> (try simp only [numOk, verOk] at f))) <;> (try simp (maxSteps := 1000000) (disch := first | omega | (simp only [LN, numOk, verOk] <;> omega) | exact Ck.mk rfl) only [ee, VC, T, Nat.reduceMul, Nat.reduceAdd, Nat.reduceSub, Nat.reduceLT, Nat.reduceEqDiff, Nat.reduceLeDiff, Nat.reduceBEq, reduceCtorEq, Int.reduceToNat, ↓reduceIte]) <;> (try clear ee))
  all_goals (simp [EQ, *] <;> omega)
theorem impl_within (n lo hi : Int) : Fn Tryz.prog 115 [.int .i64 n, .int .i64 lo, .int .i64 hi] [] (.bool (decide (lo ≤ n ∧ n ≤ hi))) [] := by
  refine fn_x tok (n := 15) (rs := [.tmp 6]) Tryz.func115 (by decide) rfl rfl rfl rfl ?_
  refine Wr.go ?_
  repeat' ((first | (have ee := True.intro; refine Wr.mk ?_) | ((first | refine br_go ?_ ?_ | refine pick_go ?_ ?_) <;> intro ee f <;> (try simp only [BB] at f) <;> (try simp only [numOk, verOk] at f))) <;> (try simp (maxSteps := 1000000) (disch := first | omega | (simp only [LN, numOk, verOk] <;> omega) | exact Ck.mk rfl) only [ee, VC, T, Nat.reduceMul, Nat.reduceAdd, Nat.reduceSub, Nat.reduceLT, Nat.reduceEqDiff, Nat.reduceLeDiff, Nat.reduceBEq, reduceCtorEq, Int.reduceToNat, ↓reduceIte]) <;> (try clear ee))
  all_goals (simp [EQ, *] <;> omega)
theorem impl_isNumber (n : Int) : Fn Tryz.prog 129 [.int .i64 n] [] (.bool (decide (numOk n))) [] := by
  refine fn_x tok (n := 5) (rs := [.tmp 2]) Tryz.func129 (by decide) rfl rfl rfl rfl ?_
  refine Wr.go ?_
  repeat' ((first | (have ee := True.intro; refine Wr.mk ?_) | ((first | refine br_go ?_ ?_ | refine pick_go ?_ ?_) <;> intro ee f <;> (try simp only [BB] at f) <;> (try simp only [numOk, verOk] at f)) | (have ee := True.intro; first | refine call_x (impl_within _ _ _) rfl ⟨rfl⟩ ?_)) <;> (try simp (maxSteps := 1000000) (disch := first | omega | (simp only [LN, numOk, verOk] <;> omega) | exact Ck.mk rfl) only [ee, VC, T, Nat.reduceMul, Nat.reduceAdd, Nat.reduceSub, Nat.reduceLT, Nat.reduceEqDiff, Nat.reduceLeDiff, Nat.reduceBEq, reduceCtorEq, Int.reduceToNat, ↓reduceIte]) <;> (try clear ee))
  all_goals rfl
theorem impl_isVersion (n : Int) : Fn Tryz.prog 252 [.int .i64 n] [] (.bool (decide (verOk n))) [] := by
  refine fn_x tok (n := 9) (rs := [.tmp 2]) Tryz.func252 (by decide) rfl rfl rfl rfl ?_
  refine Wr.go ?_
  repeat' ((first | (have ee := True.intro; refine Wr.mk ?_) | ((first | refine br_go ?_ ?_ | refine pick_go ?_ ?_) <;> intro ee f <;> (try simp only [BB] at f) <;> (try simp only [numOk, verOk] at f))) <;> (try simp (maxSteps := 1000000) (disch := first | omega | (simp only [LN, numOk, verOk] <;> omega) | exact Ck.mk rfl) only [ee, VC, T, Nat.reduceMul, Nat.reduceAdd, Nat.reduceSub, Nat.reduceLT, Nat.reduceEqDiff, Nat.reduceLeDiff, Nat.reduceBEq, reduceCtorEq, Int.reduceToNat, ↓reduceIte]) <;> (try clear ee))
  all_goals simp [EQ, verOk, *]

theorem xor64c (a c : Nat) (C : Int) (hc : C = (c : Int)) (ha : a < 4294967296) (h : c < 4294967296) : Go.bits .xor .i64 a C = ((a ^^^ c : Nat) : Int) := by rw [hc]; exact xor64 a c ha h
theorem xor32c (a c : Nat) (C : Int) (hc : C = (c : Int)) (ha : a < 4294967296) (h : c < 4294967296) : Go.bits .xor .u32 a C = ((a ^^^ c : Nat) : Int) := by rw [hc]; exact xor32 a c ha h
theorem sb_step (n d : Nat) : stps (d + 1) n = stps d (stp n) := rfl
theorem spec_SumByte (s b : Nat) (hs : s < 4294967296) (hb : b < 256) : Fn Tryz.prog 203 [.int .i64 s, .int .i64 b] [] (.int .i64 (sb s b : Nat)) [] := by
  have e0 : Go.bits .and .i64 (s : Int) 4294967295 = (s : Int) := by rw [and_all]; omega
  have e1 : Go.bits .and .i64 (b : Int) 255 = (b : Int) := by rw [and_255]; omega
  refine fn_x tok (n := 26) (rs := [.tmp 4]) Tryz.func203 (by decide) rfl rfl rfl rfl ?_
  refine Wr.go ?_
  repeat' ((first | (have ee := True.intro; refine Wr.mk ?_) | ((first | refine br_go ?_ ?_ | refine pick_go ?_ ?_) <;> intro ee f <;> (try simp only [BB] at f) <;> (try simp only [numOk, verOk] at f))) <;> (try simp (maxSteps := 1000000) (disch := first | omega | (simp only [LN, numOk, verOk, e0, e1, xor64 s b hs (by omega)] <;> omega) | exact Ck.mk rfl) only [ee, VC, T, Nat.reduceMul, Nat.reduceAdd, Nat.reduceSub, Nat.reduceLT, Nat.reduceEqDiff, Nat.reduceLeDiff, Nat.reduceBEq, reduceCtorEq, Int.reduceToNat, ↓reduceIte, e0, e1, xor64 s b hs (by omega)]) <;> (try clear ee))
  refine lp_go (fun x : Nat × Nat => ⟨26, [(5, .int .i64 x.1), (6, .int .i64 (8 - x.2 : Int))], []⟩) (fun x => x.1 < 4294967296 ∧ x.2 ≤ 8 ∧ stps x.2 x.1 = sb s b) (fun x => x.2) (s ^^^ b, 8) ?_ ⟨xlt hs (by omega), by omega, rfl⟩ ?_
  · (simp (disch := first | omega | (simp only [LN, numOk, verOk] <;> omega) | exact Ck.mk rfl) only [SB, EQ, Nat.reduceMul, Nat.reduceAdd, Nat.reduceSub, Nat.reduceLT, Nat.reduceEqDiff, Nat.reduceLeDiff, Nat.reduceBEq, reduceCtorEq, Int.reduceToNat, ↓reduceIte]; try omega)
  · rintro ⟨x, d⟩ ⟨h1, h2, h3⟩ N hN
    have hx := xor64c (x / 2) 2197175160 2197175160 rfl (by omega) (by decide)
    have hh : shr .i64 (x : Int) 1 = ((x / 2 : Nat) : Int) := by
      unfold shr
      rw [Int.fdiv_eq_ediv_of_nonneg _ (by decide)]
      show (x : Int) / 2 = _
      omega
    refine Wr.go ?_
    repeat' ((first | (have ee := True.intro; refine Wr.mk ?_) | ((first | refine br_go ?_ ?_ | refine pick_go ?_ ?_) <;> intro ee f <;> (try simp only [BB] at f) <;> (try simp only [numOk, verOk] at f))) <;> (try simp (maxSteps := 1000000) (disch := first | omega | (simp only [LN, numOk, verOk, and_1, hh, hx] <;> omega) | exact Ck.mk rfl) only [ee, VC, T, Nat.reduceMul, Nat.reduceAdd, Nat.reduceSub, Nat.reduceLT, Nat.reduceEqDiff, Nat.reduceLeDiff, Nat.reduceBEq, reduceCtorEq, Int.reduceToNat, ↓reduceIte, and_1, hh, hx]) <;> (try clear ee))
    · obtain ⟨d, rfl⟩ : ∃ e, d = e + 1 := ⟨d - 1, by omega⟩
      refine hN (stp x, d) _ ⟨stp_lt h1, by omega, by rw [← sb_step]; exact h3⟩ (by simp) ?_
      unfold stp
      rw [if_pos (by omega)]
      (simp (disch := first | omega | (simp only [LN, numOk, verOk] <;> omega) | exact Ck.mk rfl) only [SB, EQ, Nat.reduceMul, Nat.reduceAdd, Nat.reduceSub, Nat.reduceLT, Nat.reduceEqDiff, Nat.reduceLeDiff, Nat.reduceBEq, reduceCtorEq, Int.reduceToNat, ↓reduceIte]; try omega)
    · obtain ⟨d, rfl⟩ : ∃ e, d = e + 1 := ⟨d - 1, by omega⟩
      refine hN (stp x, d) _ ⟨stp_lt h1, by omega, by rw [← sb_step]; exact h3⟩ (by simp) ?_
      unfold stp
      rw [if_neg (by omega)]
      (simp (disch := first | omega | (simp only [LN, numOk, verOk] <;> omega) | exact Ck.mk rfl) only [SB, EQ, Nat.reduceMul, Nat.reduceAdd, Nat.reduceSub, Nat.reduceLT, Nat.reduceEqDiff, Nat.reduceLeDiff, Nat.reduceBEq, reduceCtorEq, Int.reduceToNat, ↓reduceIte]; try omega)
    · obtain rfl : d = 0 := by omega
      simp only [EQ]
      rw [← h3]; rfl
theorem spec_SumMore (s : Int) (t : ByteArray) (ht : t.size ≤ 140737488355328) : Fn Tryz.prog 162 [.int .i64 s, .str t] [] (.int .i64 (sumMore s t)) [] := by
  have h0 : (s % 4294967296).toNat < 4294967296 := by omega
  have e0 : Go.bits .and .i64 s 4294967295 = ((s % 4294967296).toNat : Nat) := by rw [and_all]; omega
  have e1 := xor64c _ 4294967295 4294967295 rfl h0 (by decide)
  refine fn_x tok (n := 24) (rs := [.tmp 4]) Tryz.func162 (by decide) rfl rfl rfl rfl ?_
  refine Wr.go ?_
  repeat' ((first | (have ee := True.intro; refine Wr.mk ?_) | ((first | refine br_go ?_ ?_ | refine pick_go ?_ ?_) <;> intro ee f <;> (try simp only [BB] at f) <;> (try simp only [numOk, verOk] at f))) <;> (try simp (maxSteps := 1000000) (disch := first | omega | (simp only [LN, numOk, verOk, e0, e1] <;> omega) | exact Ck.mk rfl) only [ee, VC, T, Nat.reduceMul, Nat.reduceAdd, Nat.reduceSub, Nat.reduceLT, Nat.reduceEqDiff, Nat.reduceLeDiff, Nat.reduceBEq, reduceCtorEq, Int.reduceToNat, ↓reduceIte, e0, e1]) <;> (try clear ee))
  refine lp_go (fun x : Nat × Nat => ⟨24, [(5, .int .i64 x.1), (1, .str t), (6, .int .i64 x.2)], []⟩) (fun x => x.1 < 4294967296 ∧ x.2 ≤ t.size ∧ sm x.1 ((bl t).drop x.2) = sm ((s % 4294967296).toNat ^^^ 4294967295) (bl t)) (fun x => t.size - x.2) (_, 0) ?_ ⟨xlt h0 (by decide), by omega, rfl⟩ ?_
  · (simp (disch := first | omega | (simp only [LN, numOk, verOk] <;> omega) | exact Ck.mk rfl) only [SB, EQ, Nat.reduceMul, Nat.reduceAdd, Nat.reduceSub, Nat.reduceLT, Nat.reduceEqDiff, Nat.reduceLeDiff, Nat.reduceBEq, reduceCtorEq, Int.reduceToNat, ↓reduceIte]; try omega)
  · rintro ⟨x, i⟩ ⟨h1, h2, h3⟩ N hN
    simp only at h1 h2 h3
    have hb := bl_getD_lt t i
    refine Wr.go ?_
    repeat' ((first | (have ee := True.intro; refine Wr.mk ?_) | ((first | refine br_go ?_ ?_ | refine pick_go ?_ ?_) <;> intro ee f <;> (try simp only [BB] at f) <;> (try simp only [numOk, verOk] at f)) | (have ee := True.intro; first | refine call_x (spec_SumByte x ((bl t).getD i 0) h1 hb) rfl ⟨rfl⟩ ?_)) <;> (try simp (maxSteps := 1000000) (disch := first | omega | (simp only [LN, numOk, verOk, bt_bl t] <;> omega) | exact Ck.mk rfl) only [ee, VC, T, Nat.reduceMul, Nat.reduceAdd, Nat.reduceSub, Nat.reduceLT, Nat.reduceEqDiff, Nat.reduceLeDiff, Nat.reduceBEq, reduceCtorEq, Int.reduceToNat, ↓reduceIte, bt_bl t]) <;> (try clear ee))
    · refine hN (sb x ((bl t).getD i 0), i + 1) _ ⟨sb_lt h1 (by omega), by simp; omega, ?_⟩ (by simp; omega) ?_
      · rw [← h3, bl_drop t i (by omega)]; rfl
      · (simp (disch := first | omega | (simp only [LN, numOk, verOk] <;> omega) | exact Ck.mk rfl) only [SB, EQ, Nat.reduceMul, Nat.reduceAdd, Nat.reduceSub, Nat.reduceLT, Nat.reduceEqDiff, Nat.reduceLeDiff, Nat.reduceBEq, reduceCtorEq, Int.reduceToNat, ↓reduceIte]; try omega)
    · obtain rfl : i = t.size := by omega
      rw [List.drop_of_length_le (by rw [bl_length]; omega)] at h3
      simp only [EQ]
      unfold sumMore
      rw [← h3]
      exact xor64c x 4294967295 4294967295 rfl h1 (by decide)
theorem spec_SumOf (t : ByteArray) (ht : t.size ≤ 140737488355328) : Fn Tryz.prog 149 [.str t] [] (.int .i64 (sumOf t)) [] := by
  refine fn_x tok (n := 5) (rs := [.tmp 2]) Tryz.func149 (by decide) rfl rfl rfl rfl ?_
  refine Wr.go ?_
  repeat' ((first | (have ee := True.intro; refine Wr.mk ?_) | ((first | refine br_go ?_ ?_ | refine pick_go ?_ ?_) <;> intro ee f <;> (try simp only [BB] at f) <;> (try simp only [numOk, verOk] at f)) | (have ee := True.intro; first | refine call_x (spec_SumMore _ _ ht) rfl ⟨rfl⟩ ?_)) <;> (try simp (maxSteps := 1000000) (disch := first | omega | (simp only [LN, numOk, verOk] <;> omega) | exact Ck.mk rfl) only [ee, VC, T, Nat.reduceMul, Nat.reduceAdd, Nat.reduceSub, Nat.reduceLT, Nat.reduceEqDiff, Nat.reduceLeDiff, Nat.reduceBEq, reduceCtorEq, Int.reduceToNat, ↓reduceIte]) <;> (try clear ee))
  all_goals rfl
theorem impl_sumByte (s b : Nat) (hs : s < 4294967296) (hb : b < 256) : Fn Tryz.prog 255 [.int .u32 s, .int .u8 b] [] (.int .u32 (sb s b : Nat)) [] := by
  have e1 : (b : Int) % 4294967296 = (b : Int) := by omega
  refine fn_x tok (n := 22) (rs := [.tmp 4]) Tryz.func255 (by decide) rfl rfl rfl rfl ?_
  refine Wr.go ?_
  repeat' ((first | (have ee := True.intro; refine Wr.mk ?_) | ((first | refine br_go ?_ ?_ | refine pick_go ?_ ?_) <;> intro ee f <;> (try simp only [BB] at f) <;> (try simp only [numOk, verOk] at f))) <;> (try simp (maxSteps := 1000000) (disch := first | omega | (simp only [LN, numOk, verOk, e1, xor32 s b hs (by omega)] <;> omega) | exact Ck.mk rfl) only [ee, VC, T, Nat.reduceMul, Nat.reduceAdd, Nat.reduceSub, Nat.reduceLT, Nat.reduceEqDiff, Nat.reduceLeDiff, Nat.reduceBEq, reduceCtorEq, Int.reduceToNat, ↓reduceIte, e1, xor32 s b hs (by omega)]) <;> (try clear ee))
  refine lp_go (fun x : Nat × Nat => ⟨22, [(0, .int .u32 x.1), (10, .int .i64 (8 - x.2 : Int))], []⟩) (fun x => x.1 < 4294967296 ∧ x.2 ≤ 8 ∧ stps x.2 x.1 = sb s b) (fun x => x.2) (s ^^^ b, 8) ?_ ⟨xlt hs (by omega), by omega, rfl⟩ ?_
  · (simp (disch := first | omega | (simp only [LN, numOk, verOk] <;> omega) | exact Ck.mk rfl) only [SB, EQ, Nat.reduceMul, Nat.reduceAdd, Nat.reduceSub, Nat.reduceLT, Nat.reduceEqDiff, Nat.reduceLeDiff, Nat.reduceBEq, reduceCtorEq, Int.reduceToNat, ↓reduceIte]; try omega)
  · rintro ⟨x, d⟩ ⟨h1, h2, h3⟩ N hN
    have hx := xor32c (x / 2) 2197175160 2197175160 rfl (by omega) (by decide)
    have hh : shr .u32 (x : Int) 1 = ((x / 2 : Nat) : Int) := by
      unfold shr
      rw [Int.fdiv_eq_ediv_of_nonneg _ (by decide)]
      show (x : Int) / 2 = _
      omega
    refine Wr.go ?_
    repeat' ((first | (have ee := True.intro; refine Wr.mk ?_) | ((first | refine br_go ?_ ?_ | refine pick_go ?_ ?_) <;> intro ee f <;> (try simp only [BB] at f) <;> (try simp only [numOk, verOk] at f))) <;> (try simp (maxSteps := 1000000) (disch := first | omega | (simp only [LN, numOk, verOk, and32_1 x h1, hh, hx] <;> omega) | exact Ck.mk rfl) only [ee, VC, T, Nat.reduceMul, Nat.reduceAdd, Nat.reduceSub, Nat.reduceLT, Nat.reduceEqDiff, Nat.reduceLeDiff, Nat.reduceBEq, reduceCtorEq, Int.reduceToNat, ↓reduceIte, and32_1 x h1, hh, hx]) <;> (try clear ee))
    · obtain ⟨d, rfl⟩ : ∃ e, d = e + 1 := ⟨d - 1, by omega⟩
      refine hN (stp x, d) _ ⟨stp_lt h1, by omega, by rw [← sb_step]; exact h3⟩ (by simp) ?_
      unfold stp
      rw [if_pos (by omega)]
      (simp (disch := first | omega | (simp only [LN, numOk, verOk] <;> omega) | exact Ck.mk rfl) only [SB, EQ, Nat.reduceMul, Nat.reduceAdd, Nat.reduceSub, Nat.reduceLT, Nat.reduceEqDiff, Nat.reduceLeDiff, Nat.reduceBEq, reduceCtorEq, Int.reduceToNat, ↓reduceIte]; try omega)
    · obtain ⟨d, rfl⟩ : ∃ e, d = e + 1 := ⟨d - 1, by omega⟩
      refine hN (stp x, d) _ ⟨stp_lt h1, by omega, by rw [← sb_step]; exact h3⟩ (by simp) ?_
      unfold stp
      rw [if_neg (by omega)]
      (simp (disch := first | omega | (simp only [LN, numOk, verOk] <;> omega) | exact Ck.mk rfl) only [SB, EQ, Nat.reduceMul, Nat.reduceAdd, Nat.reduceSub, Nat.reduceLT, Nat.reduceEqDiff, Nat.reduceLeDiff, Nat.reduceBEq, reduceCtorEq, Int.reduceToNat, ↓reduceIte]; try omega)
    · obtain rfl : d = 0 := by omega
      simp only [EQ]
      rw [← h3]; rfl
theorem impl_SumMore (s : Int) (t : ByteArray) (ht : t.size ≤ 140737488355328) : Fn Tryz.prog 230 [.int .i64 s, .str t] [] (.int .i64 (sumMore s t)) [] := by
  have h0 : (s % 4294967296).toNat < 4294967296 := by omega
  have e0 : s % 4294967296 = ((s % 4294967296).toNat : Nat) := by omega
  have e1 := xor32c _ 4294967295 4294967295 rfl h0 (by decide)
  rw [← e0] at e1
  refine fn_x tok (n := 24) (rs := [.tmp 4]) Tryz.func230 (by decide) rfl rfl rfl rfl ?_
  refine Wr.go ?_
  repeat' ((first | (have ee := True.intro; refine Wr.mk ?_) | ((first | refine br_go ?_ ?_ | refine pick_go ?_ ?_) <;> intro ee f <;> (try simp only [BB] at f) <;> (try simp only [numOk, verOk] at f))) <;> (try simp (maxSteps := 1000000) (disch := first | omega | (simp only [LN, numOk, verOk, e1] <;> omega) | exact Ck.mk rfl) only [ee, VC, T, Nat.reduceMul, Nat.reduceAdd, Nat.reduceSub, Nat.reduceLT, Nat.reduceEqDiff, Nat.reduceLeDiff, Nat.reduceBEq, reduceCtorEq, Int.reduceToNat, ↓reduceIte, e1]) <;> (try clear ee))
  refine lp_go (fun x : Nat × Nat => ⟨24, [(5, .int .u32 x.1), (1, .str t), (11, .int .i64 t.size), (12, .int .i64 x.2)], []⟩) (fun x => x.1 < 4294967296 ∧ x.2 ≤ t.size ∧ sm x.1 ((bl t).drop x.2) = sm ((s % 4294967296).toNat ^^^ 4294967295) (bl t)) (fun x => t.size - x.2) (_, 0) ?_ ⟨xlt h0 (by decide), by omega, rfl⟩ ?_
  · (simp (disch := first | omega | (simp only [LN, numOk, verOk] <;> omega) | exact Ck.mk rfl) only [SB, EQ, Nat.reduceMul, Nat.reduceAdd, Nat.reduceSub, Nat.reduceLT, Nat.reduceEqDiff, Nat.reduceLeDiff, Nat.reduceBEq, reduceCtorEq, Int.reduceToNat, ↓reduceIte]; try omega)
  · rintro ⟨x, i⟩ ⟨h1, h2, h3⟩ N hN
    simp only at h1 h2 h3
    have hb := bl_getD_lt t i
    refine Wr.go ?_
    repeat' ((first | (have ee := True.intro; refine Wr.mk ?_) | ((first | refine br_go ?_ ?_ | refine pick_go ?_ ?_) <;> intro ee f <;> (try simp only [BB] at f) <;> (try simp only [numOk, verOk] at f)) | (have ee := True.intro; first | refine call_x (impl_sumByte x ((bl t).getD i 0) h1 hb) rfl ⟨rfl⟩ ?_)) <;> (try simp (maxSteps := 1000000) (disch := first | omega | (simp only [LN, numOk, verOk, bt_bl t] <;> omega) | exact Ck.mk rfl) only [ee, VC, T, Nat.reduceMul, Nat.reduceAdd, Nat.reduceSub, Nat.reduceLT, Nat.reduceEqDiff, Nat.reduceLeDiff, Nat.reduceBEq, reduceCtorEq, Int.reduceToNat, ↓reduceIte, bt_bl t]) <;> (try clear ee))
    · refine hN (sb x ((bl t).getD i 0), i + 1) _ ⟨sb_lt h1 (by omega), by simp; omega, ?_⟩ (by simp; omega) ?_
      · rw [← h3, bl_drop t i (by omega)]; rfl
      · (simp (disch := first | omega | (simp only [LN, numOk, verOk] <;> omega) | exact Ck.mk rfl) only [SB, EQ, Nat.reduceMul, Nat.reduceAdd, Nat.reduceSub, Nat.reduceLT, Nat.reduceEqDiff, Nat.reduceLeDiff, Nat.reduceBEq, reduceCtorEq, Int.reduceToNat, ↓reduceIte]; try omega)
    · obtain rfl : i = t.size := by omega
      rw [List.drop_of_length_le (by rw [bl_length]; omega)] at h3
      simp only [EQ]
      have e2 := xor32c x 4294967295 4294967295 rfl h1 (by decide)
      have e3 := xlt h1 (by decide : 4294967295 < 4294967296)
      unfold sumMore
      rw [← h3]
      rw [e2, wr63 _ (by omega) (by omega)]
      rfl
theorem impl_SumOf (t : ByteArray) (ht : t.size ≤ 140737488355328) : Fn Tryz.prog 251 [.str t] [] (.int .i64 (sumOf t)) [] := by
  refine fn_x tok (n := 5) (rs := [.tmp 2]) Tryz.func251 (by decide) rfl rfl rfl rfl ?_
  refine Wr.go ?_
  repeat' ((first | (have ee := True.intro; refine Wr.mk ?_) | ((first | refine br_go ?_ ?_ | refine pick_go ?_ ?_) <;> intro ee f <;> (try simp only [BB] at f) <;> (try simp only [numOk, verOk] at f)) | (have ee := True.intro; first | refine call_x (impl_SumMore _ _ ht) rfl ⟨rfl⟩ ?_)) <;> (try simp (maxSteps := 1000000) (disch := first | omega | (simp only [LN, numOk, verOk] <;> omega) | exact Ck.mk rfl) only [ee, VC, T, Nat.reduceMul, Nat.reduceAdd, Nat.reduceSub, Nat.reduceLT, Nat.reduceEqDiff, Nat.reduceLeDiff, Nat.reduceBEq, reduceCtorEq, Int.reduceToNat, ↓reduceIte]) <;> (try clear ee))
  all_goals rfl
end Go.Pv

/- What functions of the program and of the reference do, in plain values. -/
namespace Go.Pv
open Go.Proofs Go.Mth
set_option linter.unusedSimpArgs false
set_option linter.unusedVariables false
set_option maxHeartbeats 4000000
set_option maxRecDepth 4000

/-! ### numbers in so many bytes, and in as few as can be -/
theorem shr8 (n : Int) : shr .i64 n 8 = n / 256 := by
  unfold shr
  rw [Int.fdiv_eq_ediv_of_nonneg _ (by decide)]; rfl
theorem shr7 (n : Int) : shr .i64 n 7 = n / 128 := by
  unfold shr
  rw [Int.fdiv_eq_ediv_of_nonneg _ (by decide)]; rfl
theorem shr_pow (n : Int) (d : Nat) (h : d ≤ 8) : shr .i64 n (8 * (d : Int)) = n / 256 ^ d := by
  unfold shr
  rw [show (8 * (d : Int)).toNat = 8 * d by omega, show IntKind.bits .i64 = 64 from rfl, Nat.min_eq_left (by omega), Int.pow_mul, Int.fdiv_eq_ediv_of_nonneg _ (Int.pow_nonneg (by decide))]
  rfl
theorem div_pow (n : Int) (i : Nat) : n / 256 ^ i / 256 = n / 256 ^ (i + 1) := by
  rw [Int.ediv_ediv_of_nonneg (Int.pow_nonneg (by decide)), Int.pow_succ]
def bytesOk (l : List Int) : Prop := ∀ x ∈ l, 0 ≤ x ∧ x < 256
theorem fixL_byte (d : Nat) (n : Int) : ∀ x ∈ fixL d n, 0 ≤ x ∧ x < 256 := fun x hx => by have := fixL_range d n x hx; omega
theorem spec_FixText (n wd : Int) (hn : n < 9223372036854775808) : Fn Tryz.prog 148 [.int .i64 n, .int .i64 wd] [] (.str (fixT n wd)) [] := by
  refine fn_x tok (n := 31) (rs := [.tmp 4]) Tryz.func148 (by decide) rfl rfl rfl rfl ?_
  refine Wr.go ?_
  repeat' ((first | (have ee := True.intro; refine Wr.mk ?_) | ((first | refine br_go ?_ ?_ | refine pick_go ?_ ?_) <;> intro ee f <;> (try simp only [BB] at f) <;> (try simp only [numOk, verOk] at f)) | (have ee := True.intro; first | refine call_x (spec_l01In _ _ _) rfl ⟨rfl⟩ ?_)) <;> (try simp (maxSteps := 1000000) (disch := first | omega | (simp only [LN, numOk, verOk] <;> omega) | exact Ck.mk rfl) only [ee, VC, T, Nat.reduceMul, Nat.reduceAdd, Nat.reduceSub, Nat.reduceLT, Nat.reduceEqDiff, Nat.reduceLeDiff, Nat.reduceBEq, reduceCtorEq, Int.reduceToNat, ↓reduceIte]) <;> (try clear ee))
  · exact congrArg PV.str (by unfold fixT; rw [if_pos (by omega)])
  · refine lp_go (fun i : Nat => ⟨31, [(0, .int .i64 (n / 256 ^ i)), (1, .int .i64 wd), (5, .row 960 i), (6, .int .i64 i)], [(960, .row ⟨1, 0⟩ ((fixL i n).map (.int .u8)))]⟩) (fun i => i ≤ wd.toNat) (fun i => wd.toNat - i) 0 ?_ (by omega) ?_
    · (simp (disch := first | omega | (simp only [LN, numOk, verOk] <;> omega) | exact Ck.mk rfl) only [SB, EQ, Nat.reduceMul, Nat.reduceAdd, Nat.reduceSub, Nat.reduceLT, Nat.reduceEqDiff, Nat.reduceLeDiff, Nat.reduceBEq, reduceCtorEq, Int.reduceToNat, ↓reduceIte]; try omega)
      simp [fixL]
    · intro i hi N hN
      refine Wr.go ?_
      repeat' ((first | (have ee := True.intro; refine Wr.mk ?_) | ((first | refine br_go ?_ ?_ | refine pick_go ?_ ?_) <;> intro ee f <;> (try simp only [BB] at f) <;> (try simp only [numOk, verOk] at f))) <;> (try simp (maxSteps := 1000000) (disch := first | omega | (simp only [LN, numOk, verOk, fixL_length, shr8] <;> omega) | exact Ck.mk rfl) only [ee, VC, T, Nat.reduceMul, Nat.reduceAdd, Nat.reduceSub, Nat.reduceLT, Nat.reduceEqDiff, Nat.reduceLeDiff, Nat.reduceBEq, reduceCtorEq, Int.reduceToNat, ↓reduceIte, fixL_length, shr8]) <;> (try clear ee))
      · refine hN (i + 1) _ (by omega) (by omega) ?_
        (simp (disch := first | omega | (simp only [LN, numOk, verOk] <;> omega) | exact Ck.mk rfl) only [SB, EQ, Nat.reduceMul, Nat.reduceAdd, Nat.reduceSub, Nat.reduceLT, Nat.reduceEqDiff, Nat.reduceLeDiff, Nat.reduceBEq, reduceCtorEq, Int.reduceToNat, ↓reduceIte]; try omega)
        rw [fixL_snoc, div_pow]
        simp
      · simp only [EQ]
        obtain rfl : i = wd.toNat := by omega
        unfold fixT
        rw [if_pos (by omega)]
      · refine ⟨fixL_byte _ _, ?_⟩
        simp only [EQ]
        obtain rfl : i = wd.toNat := by omega
        unfold fixT
        rw [if_neg (by omega)]
  · exact congrArg PV.str (by unfold fixT; rw [if_pos (by omega)])
theorem fix_row (n : Int) (i w : Nat) (h : i < w) : (fixL i n ++ List.replicate (w - i) 0).set i (n / 256 ^ i % 256) = fixL (i + 1) n ++ List.replicate (w - (i + 1)) 0 := by
  obtain ⟨d, e⟩ : ∃ d, w - i = d + 1 := ⟨w - i - 1, by omega⟩
  rw [e, show w - (i + 1) = d by omega, List.set_append_right _ _ (by rw [fixL_length]; omega), fixL_length, Nat.sub_self, List.replicate_succ, fixL_snoc]
  simp
theorem impl_FixText (n wd : Int) (hn : n < 9223372036854775808) : Fn Tryz.prog 231 [.int .i64 n, .int .i64 wd] [] (.str (fixT n wd)) [] := by
  have hsh : 1 ≤ wd → wd ≤ 8 → shr .i64 n (8 * wd) = n / 256 ^ wd.toNat := fun h1 h2 => by
    rw [← shr_pow n wd.toNat (by omega), show ((wd.toNat : Nat) : Int) = wd by omega]
  have h8 : wd = 8 → 0 ≤ n → n / 256 ^ wd.toNat = 0 := fun h h0 => by
    subst h
    rw [show (256 : Int) ^ (8 : Int).toNat = 18446744073709551616 by decide]
    omega
  have hnn : 0 ≤ n → 0 ≤ n / 256 ^ wd.toNat := fun h0 => Int.ediv_nonneg h0 (Int.pow_nonneg (by decide))
  refine fn_x tok (n := 43) (rs := [.tmp 4]) Tryz.func231 (by decide) rfl rfl rfl rfl ?_
  refine Wr.go ?_
  repeat' ((first | (have ee := True.intro; refine Wr.mk ?_) | ((first | refine br_go ?_ ?_ | refine pick_go ?_ ?_) <;> intro ee f <;> (try simp only [BB] at f) <;> (try simp only [numOk, verOk] at f)) | (have ee := True.intro; first | refine call_x (impl_within _ _ _) rfl ⟨rfl⟩ ?_)) <;> (try simp (maxSteps := 1000000) (disch := first | omega | (simp only [LN, numOk, verOk] <;> omega) | exact Ck.mk rfl) only [ee, VC, T, Nat.reduceMul, Nat.reduceAdd, Nat.reduceSub, Nat.reduceLT, Nat.reduceEqDiff, Nat.reduceLeDiff, Nat.reduceBEq, reduceCtorEq, Int.reduceToNat, ↓reduceIte]) <;> (try clear ee))
  all_goals first
    | exact congrArg PV.str (by unfold fixT; rw [if_pos (by omega)])
    | skip
  all_goals
    have hz : n / 256 ^ wd.toNat = 0 := by omega
    refine lp_go (fun i : Nat => ⟨43, [(0, .int .i64 n), (5, .row 1728 wd.toNat), (28, .int .i64 wd.toNat), (29, .int .i64 i)], [(1728, .row ⟨1, 0⟩ ((fixL i n ++ List.replicate (wd.toNat - i) 0).map (.int .u8)))]⟩) (fun i => i ≤ wd.toNat) (fun i => wd.toNat - i) 0 ?_ (by omega) ?_
    · (simp (disch := first | omega | (simp only [LN, numOk, verOk] <;> omega) | exact Ck.mk rfl) only [SB, EQ, Nat.reduceMul, Nat.reduceAdd, Nat.reduceSub, Nat.reduceLT, Nat.reduceEqDiff, Nat.reduceLeDiff, Nat.reduceBEq, reduceCtorEq, Int.reduceToNat, ↓reduceIte]; try omega)
      simp [fixL]
    · intro i hi N hN
      refine Wr.go ?_
      repeat' ((first | (have ee := True.intro; refine Wr.mk ?_) | ((first | refine br_go ?_ ?_ | refine pick_go ?_ ?_) <;> intro ee f <;> (try simp only [BB] at f) <;> (try simp only [numOk, verOk] at f))) <;> (try simp (maxSteps := 1000000) (disch := first | omega | (simp only [LN, numOk, verOk, fixL_length, shr_pow, fix_row] <;> omega) | exact Ck.mk rfl) only [ee, VC, T, Nat.reduceMul, Nat.reduceAdd, Nat.reduceSub, Nat.reduceLT, Nat.reduceEqDiff, Nat.reduceLeDiff, Nat.reduceBEq, reduceCtorEq, Int.reduceToNat, ↓reduceIte, fixL_length, shr_pow, fix_row]) <;> (try clear ee))
      · refine hN (i + 1) _ (by omega) (by omega) ?_
        (simp (disch := first | omega | (simp only [LN, numOk, verOk] <;> omega) | exact Ck.mk rfl) only [SB, EQ, Nat.reduceMul, Nat.reduceAdd, Nat.reduceSub, Nat.reduceLT, Nat.reduceEqDiff, Nat.reduceLeDiff, Nat.reduceBEq, reduceCtorEq, Int.reduceToNat, ↓reduceIte]; try omega)
      · obtain rfl : i = wd.toNat := by omega
        rw [Nat.sub_self, List.replicate_zero, List.append_nil]
        refine ⟨fixL_byte _ _, congrArg PV.str ?_⟩
        unfold fixT
        rw [if_neg (by omega)]
theorem spec_VarText (n : Int) : Fn Tryz.prog 150 [.int .i64 n] [] (.str (varT n)) [] := by
  refine fn_x tok (n := 25) (rs := [.tmp 2]) Tryz.func150 (by decide) rfl rfl rfl rfl ?_
  refine Wr.go ?_
  repeat' ((first | (have ee := True.intro; refine Wr.mk ?_) | ((first | refine br_go ?_ ?_ | refine pick_go ?_ ?_) <;> intro ee f <;> (try simp only [BB] at f) <;> (try simp only [numOk, verOk] at f)) | (have ee := True.intro; first | refine call_x (spec_l01In _ _ _) rfl ⟨rfl⟩ ?_)) <;> (try simp (maxSteps := 1000000) (disch := first | omega | (simp only [LN, numOk, verOk] <;> omega) | exact Ck.mk rfl) only [ee, VC, T, Nat.reduceMul, Nat.reduceAdd, Nat.reduceSub, Nat.reduceLT, Nat.reduceEqDiff, Nat.reduceLeDiff, Nat.reduceBEq, reduceCtorEq, Int.reduceToNat, ↓reduceIte]) <;> (try clear ee))
  · refine lp_go (fun x : Nat × Int × List Int => ⟨25, [(0, .int .i64 x.2.1), (3, .row 512 x.2.2.length)], [(512, .row ⟨1, 0⟩ (x.2.2.map (.int .u8)))]⟩) (fun x => 0 ≤ x.2.1 ∧ x.2.1 < 128 ^ (x.1 + 1) ∧ x.2.2.length + x.1 = 4 ∧ x.2.2 ++ varL x.1 x.2.1 = varL 4 n ∧ bytesOk x.2.2) (fun x => x.1) (4, n, []) ?_ ⟨(by simp only; omega), (by simp only; omega), rfl, rfl, fun _ h => absurd h (by simp)⟩ ?_
    · (simp (disch := first | omega | (simp only [LN, numOk, verOk] <;> omega) | exact Ck.mk rfl) only [SB, EQ, Nat.reduceMul, Nat.reduceAdd, Nat.reduceSub, Nat.reduceLT, Nat.reduceEqDiff, Nat.reduceLeDiff, Nat.reduceBEq, reduceCtorEq, Int.reduceToNat, ↓reduceIte]; try omega)
    · rintro ⟨d, m, l⟩ ⟨h1, h2, h3, h4, h5⟩ N hN
      simp only at h1 h2 h3 h4
      refine Wr.go ?_
      repeat' ((first | (have ee := True.intro; refine Wr.mk ?_) | ((first | refine br_go ?_ ?_ | refine pick_go ?_ ?_) <;> intro ee f <;> (try simp only [BB] at f) <;> (try simp only [numOk, verOk] at f))) <;> (try simp (maxSteps := 1000000) (disch := first | omega | (simp only [LN, numOk, verOk, or64, shr7] <;> omega) | exact Ck.mk rfl) only [ee, VC, T, Nat.reduceMul, Nat.reduceAdd, Nat.reduceSub, Nat.reduceLT, Nat.reduceEqDiff, Nat.reduceLeDiff, Nat.reduceBEq, reduceCtorEq, Int.reduceToNat, ↓reduceIte, or64, shr7]) <;> (try clear ee))
      · obtain ⟨d, rfl⟩ : ∃ e, d = e + 1 := by
          cases d with
          | zero => omega
          | succ d => exact ⟨d, rfl⟩
        refine hN (d, m / 128, l ++ [m % 128 + 128]) _ ⟨(by simp only; omega), (by rw [Int.pow_succ] at h2; simp only; omega), (by simp; omega), ?_, ?_⟩ (by simp) ?_
        · rw [← h4, varL_gt d m (by omega), List.append_assoc]; rfl
        · intro x hx
          rcases List.mem_append.1 hx with hx | hx
          · exact h5 x hx
          · rw [List.mem_singleton.1 hx]; omega
        · (simp (disch := first | omega | (simp only [LN, numOk, verOk] <;> omega) | exact Ck.mk rfl) only [SB, EQ, Nat.reduceMul, Nat.reduceAdd, Nat.reduceSub, Nat.reduceLT, Nat.reduceEqDiff, Nat.reduceLeDiff, Nat.reduceBEq, reduceCtorEq, Int.reduceToNat, ↓reduceIte]; try omega)
      · rw [show varL d m = [m % 256] by cases d with | zero => rfl | succ d => exact varL_ngt d m (by omega)] at h4
        refine ⟨fun x hx => ?_, congrArg PV.str ?_⟩
        · rcases List.mem_append.1 hx with hx | hx
          · exact h5 x hx
          · rw [List.mem_singleton.1 hx]; omega
        · unfold varT
          rw [if_neg (by omega), h4]
  · exact congrArg PV.str (by unfold varT; rw [if_pos (by omega)])
theorem impl_VarText (n : Int) : Fn Tryz.prog 254 [.int .i64 n] [] (.str (varT n)) [] := by
  refine fn_x tok (n := 24) (rs := [.tmp 2]) Tryz.func254 (by decide) rfl rfl rfl rfl ?_
  refine Wr.go ?_
  repeat' ((first | (have ee := True.intro; refine Wr.mk ?_) | ((first | refine br_go ?_ ?_ | refine pick_go ?_ ?_) <;> intro ee f <;> (try simp only [BB] at f) <;> (try simp only [numOk, verOk] at f)) | (have ee := True.intro; first | refine call_x (impl_isNumber _) rfl ⟨rfl⟩ ?_)) <;> (try simp (maxSteps := 1000000) (disch := first | omega | (simp only [LN, numOk, verOk] <;> omega) | exact Ck.mk rfl) only [ee, VC, T, Nat.reduceMul, Nat.reduceAdd, Nat.reduceSub, Nat.reduceLT, Nat.reduceEqDiff, Nat.reduceLeDiff, Nat.reduceBEq, reduceCtorEq, Int.reduceToNat, ↓reduceIte]) <;> (try clear ee))
  · refine lp_go (fun x : Nat × Int × List Int => ⟨24, [(0, .int .i64 x.2.1), (3, .row 512 x.2.2.length)], [(512, .row ⟨1, 0⟩ (x.2.2.map (.int .u8)))]⟩) (fun x => 0 ≤ x.2.1 ∧ x.2.1 < 128 ^ (x.1 + 1) ∧ x.2.2.length + x.1 = 4 ∧ x.2.2 ++ varL x.1 x.2.1 = varL 4 n ∧ bytesOk x.2.2) (fun x => x.1) (4, n, []) ?_ ⟨(by simp only; omega), (by simp only; omega), rfl, rfl, fun _ h => absurd h (by simp)⟩ ?_
    · (simp (disch := first | omega | (simp only [LN, numOk, verOk] <;> omega) | exact Ck.mk rfl) only [SB, EQ, Nat.reduceMul, Nat.reduceAdd, Nat.reduceSub, Nat.reduceLT, Nat.reduceEqDiff, Nat.reduceLeDiff, Nat.reduceBEq, reduceCtorEq, Int.reduceToNat, ↓reduceIte]; try omega)
    · rintro ⟨d, m, l⟩ ⟨h1, h2, h3, h4, h5⟩ N hN
      simp only at h1 h2 h3 h4
      refine Wr.go ?_
      repeat' ((first | (have ee := True.intro; refine Wr.mk ?_) | ((first | refine br_go ?_ ?_ | refine pick_go ?_ ?_) <;> intro ee f <;> (try simp only [BB] at f) <;> (try simp only [numOk, verOk] at f))) <;> (try simp (maxSteps := 1000000) (disch := first | omega | (simp only [LN, numOk, verOk, orU8, shr7] <;> omega) | exact Ck.mk rfl) only [ee, VC, T, Nat.reduceMul, Nat.reduceAdd, Nat.reduceSub, Nat.reduceLT, Nat.reduceEqDiff, Nat.reduceLeDiff, Nat.reduceBEq, reduceCtorEq, Int.reduceToNat, ↓reduceIte, orU8, shr7]) <;> (try clear ee))
      · obtain ⟨d, rfl⟩ : ∃ e, d = e + 1 := by
          cases d with
          | zero => omega
          | succ d => exact ⟨d, rfl⟩
        refine hN (d, m / 128, l ++ [m % 128 + 128]) _ ⟨(by simp only; omega), (by rw [Int.pow_succ] at h2; simp only; omega), (by simp; omega), ?_, ?_⟩ (by simp) ?_
        · rw [← h4, varL_gt d m (by omega), List.append_assoc]; rfl
        · intro x hx
          rcases List.mem_append.1 hx with hx | hx
          · exact h5 x hx
          · rw [List.mem_singleton.1 hx]; omega
        · (simp (disch := first | omega | (simp only [LN, numOk, verOk] <;> omega) | exact Ck.mk rfl) only [SB, EQ, Nat.reduceMul, Nat.reduceAdd, Nat.reduceSub, Nat.reduceLT, Nat.reduceEqDiff, Nat.reduceLeDiff, Nat.reduceBEq, reduceCtorEq, Int.reduceToNat, ↓reduceIte]; try omega)
      · rw [show varL d m = [m % 256] by cases d with | zero => rfl | succ d => exact varL_ngt d m (by omega)] at h4
        refine ⟨fun x hx => ?_, congrArg PV.str ?_⟩
        · rcases List.mem_append.1 hx with hx | hx
          · exact h5 x hx
          · rw [List.mem_singleton.1 hx]; omega
        · unfold varT
          rw [if_neg (by omega), h4]
  · exact congrArg PV.str (by unfold varT; rw [if_pos (by omega)])
end Go.Pv

/- What functions of the program and of the reference do, in plain values. -/
namespace Go.Pv
open Go.Proofs Go.Mth
set_option linter.unusedSimpArgs false
set_option linter.unusedVariables false
set_option maxHeartbeats 4000000
set_option maxRecDepth 4000

/-! ### numbers read -/
theorem wsmall (n : Int) (h0 : -9223372036854775808 ≤ n) (h1 : n < 9223372036854775808) : IntKind.i64.wrap n = n := by rw [IntKind.wrap_i64]; omega
theorem acc_or (b : ByteArray) (a i : Nat) (hi : i ≤ 4) (h : a + i < b.size) :
    Go.bits .or .i64 (acc (seg b a i)) (shl .i64 (bt b ((a : Int) + i) % 128) (7 * (i : Int))) = acc (seg b a (i + 1)) := by
  have hl := seg_length b a i (by omega)
  have hr := acc_range (seg b a i)
  rw [hl] at hr
  have hp : (128 : Int) ^ i = 2 ^ (7 * i) := by rw [Int.pow_mul]; rfl
  rw [hp] at hr
  have h28 : (2 : Int) ^ (7 * i) ≤ 2 ^ 28 := by exact_mod_cast Nat.pow_le_pow_right (by decide : 0 < 2) (by omega : 7 * i ≤ 28)
  rw [← Int.natCast_add, shl7 _ i hi (by omega) (by omega), or_low (7 * i) _ _ hr.1 hr.2 (by omega) (by
    have h4 : bt b ((a + i : Nat) : Int) % 128 * 2 ^ (7 * i) ≤ 127 * 2 ^ 28 := Int.mul_le_mul (by omega) h28 (Int.pow_nonneg (by decide)) (by decide)
    omega) (by omega), seg_snoc b a i h, acc_snoc, hl, hp]
def rvP (x : Int × Int × Bool) : PV := .tup [.int .i64 x.1, .int .i64 x.2.1, .bool x.2.2]
theorem impl_ReadVar (b : ByteArray) (hb : b.size ≤ 140737488355328) (a : Int) (ha0 : -9223372036854775808 ≤ a) (ha : a ≤ 9223372036854775807) : Fn Tryz.prog 228 [.str b, .int .i64 a] [] (rvP (rv b a)) [] := by
  refine fn_x tok (n := 53) (rs := [.tmp 4, .tmp 5, .tmp 6]) Tryz.func228 (by decide) rfl rfl rfl rfl ?_
  refine Wr.go ?_
  repeat' ((first | (have ee := True.intro; refine Wr.mk ?_) | ((first | refine br_go ?_ ?_ | refine pick_go ?_ ?_) <;> intro ee f <;> (try simp only [BB] at f) <;> (try simp only [numOk, verOk] at f))) <;> (try simp (maxSteps := 1000000) (disch := first | omega | (simp only [LN, numOk, verOk] <;> omega) | exact Ck.mk rfl) only [ee, VC, T, Nat.reduceMul, Nat.reduceAdd, Nat.reduceSub, Nat.reduceLT, Nat.reduceEqDiff, Nat.reduceLeDiff, Nat.reduceBEq, reduceCtorEq, Int.reduceToNat, ↓reduceIte]) <;> (try clear ee))
  refine lp_go (fun i : Nat => ⟨53, [(0, .str b), (1, .int .i64 a), (7, .int .i64 (if 0 ≤ a then acc (seg b a.toNat i) else 0)), (10, .int .i64 i)], []⟩) (fun i => i ≤ 5 ∧ (0 < i → 0 ≤ a ∧ a + i ≤ b.size) ∧ rv b a = if 0 ≤ a then rvI b a.toNat (5 - i) i else (0, 0, false)) (fun i => 5 - i) 0 ?_ ⟨by omega, fun h => by omega, by unfold rv; simp⟩ ?_
  · (simp (disch := first | omega | (simp only [LN, numOk, verOk] <;> omega) | exact Ck.mk rfl) only [SB, EQ, Nat.reduceMul, Nat.reduceAdd, Nat.reduceSub, Nat.reduceLT, Nat.reduceEqDiff, Nat.reduceLeDiff, Nat.reduceBEq, reduceCtorEq, Int.reduceToNat, ↓reduceIte]; try omega)
    split <;> simp [seg, acc]
  · rintro i ⟨h1, h2, h3⟩ N hN
    rw [h3]
    by_cases h0 : 0 ≤ a
    · obtain ⟨a, rfl⟩ := Int.eq_ofNat_of_zero_le h0
      simp only [Int.natCast_nonneg, if_true, Int.toNat_natCast] at *
      by_cases hi : i < 5
      · have he : rvI b a (5 - i) i = if a + i < b.size then (if bt b ((a : Int) + i) ≥ 128 then rvI b a (5 - (i + 1)) (i + 1) else if (0 < i ∧ bt b ((a : Int) + i) = 0) ∨ 1000000000 < acc (seg b a (i + 1)) then (0, 0, false) else (acc (seg b a (i + 1)), ((a + i + 1 : Nat) : Int), true)) else (0, 0, false) := by
          rw [show 5 - i = (5 - (i + 1)) + 1 by omega]; rfl
        rw [he]
        have hbr := bt_range b ((a : Int) + i)
        have hn0 := (acc_range (seg b a (i + 1))).1
        have hao := acc_or b a i (by omega)
        refine Wr.go ?_
        repeat' ((first | (have ee := True.intro; refine Wr.mk ?_) | ((first | refine br_go ?_ ?_ | refine pick_go ?_ ?_) <;> intro ee f <;> (try simp only [BB] at f) <;> (try simp only [numOk, verOk] at f)) | (have ee := True.intro; first | refine call_x (impl_within _ _ _) rfl ⟨rfl⟩ ?_ | refine call_x (impl_isNumber _) rfl ⟨rfl⟩ ?_)) <;> (try simp (maxSteps := 1000000) (disch := first | omega | (simp only [LN, numOk, verOk, and_127, wsmall, hao] <;> omega) | exact Ck.mk rfl) only [ee, VC, T, Nat.reduceMul, Nat.reduceAdd, Nat.reduceSub, Nat.reduceLT, Nat.reduceEqDiff, Nat.reduceLeDiff, Nat.reduceBEq, reduceCtorEq, Int.reduceToNat, ↓reduceIte, and_127, wsmall, hao]) <;> (try clear ee))
        · refine hN (i + 1) _ ⟨by omega, fun _ => ⟨trivial, by omega⟩, ?_⟩ (by omega) ?_
          · rw [h3, he, if_pos (by omega), if_pos (by omega)]
          · (simp (disch := first | omega | (simp only [LN, numOk, verOk] <;> omega) | exact Ck.mk rfl) only [SB, EQ, Nat.reduceMul, Nat.reduceAdd, Nat.reduceSub, Nat.reduceLT, Nat.reduceEqDiff, Nat.reduceLeDiff, Nat.reduceBEq, reduceCtorEq, Int.reduceToNat, ↓reduceIte]; try omega)
        all_goals (simp only [rvP]; (repeat' split) <;> first | (exfalso; omega) | (simp only [EQ] <;> omega))
      · obtain rfl : i = 5 := by omega
        refine Wr.go ?_
        repeat' ((first | (have ee := True.intro; refine Wr.mk ?_) | ((first | refine br_go ?_ ?_ | refine pick_go ?_ ?_) <;> intro ee f <;> (try simp only [BB] at f) <;> (try simp only [numOk, verOk] at f))) <;> (try simp (maxSteps := 1000000) (disch := first | omega | (simp only [LN, numOk, verOk] <;> omega) | exact Ck.mk rfl) only [ee, VC, T, Nat.reduceMul, Nat.reduceAdd, Nat.reduceSub, Nat.reduceLT, Nat.reduceEqDiff, Nat.reduceLeDiff, Nat.reduceBEq, reduceCtorEq, Int.reduceToNat, ↓reduceIte]) <;> (try clear ee))
        all_goals rfl
    · simp only [if_neg h0] at *
      obtain rfl : i = 0 := by omega
      refine Wr.go ?_
      repeat' ((first | (have ee := True.intro; refine Wr.mk ?_) | ((first | refine br_go ?_ ?_ | refine pick_go ?_ ?_) <;> intro ee f <;> (try simp only [BB] at f) <;> (try simp only [numOk, verOk] at f)) | (have ee := True.intro; first | refine call_x (impl_within _ _ _) rfl ⟨rfl⟩ ?_)) <;> (try simp (maxSteps := 1000000) (disch := first | omega | (simp only [LN, numOk, verOk] <;> omega) | exact Ck.mk rfl) only [ee, VC, T, Nat.reduceMul, Nat.reduceAdd, Nat.reduceSub, Nat.reduceLT, Nat.reduceEqDiff, Nat.reduceLeDiff, Nat.reduceBEq, reduceCtorEq, Int.reduceToNat, ↓reduceIte]) <;> (try clear ee))
      all_goals rfl
theorem spec_ReadVar (b : ByteArray) (hb : b.size ≤ 140737488355328) (a : Int) (ha0 : -9223372036854775808 ≤ a) (ha : a ≤ 9223372036854775807) : Fn Tryz.prog 193 [.str b, .int .i64 a] [] (rvP (rv b a)) [] := by
  refine fn_x tok (n := 64) (rs := [.tmp 4, .tmp 5, .tmp 6]) Tryz.func193 (by decide) rfl rfl rfl rfl ?_
  refine Wr.go ?_
  repeat' ((first | (have ee := True.intro; refine Wr.mk ?_) | ((first | refine br_go ?_ ?_ | refine pick_go ?_ ?_) <;> intro ee f <;> (try simp only [BB] at f) <;> (try simp only [numOk, verOk] at f)) | (have ee := True.intro; first | refine call_x (spec_l01In _ _ _) rfl ⟨rfl⟩ ?_)) <;> (try simp (maxSteps := 1000000) (disch := first | omega | (simp only [LN, numOk, verOk] <;> omega) | exact Ck.mk rfl) only [ee, VC, T, Nat.reduceMul, Nat.reduceAdd, Nat.reduceSub, Nat.reduceLT, Nat.reduceEqDiff, Nat.reduceLeDiff, Nat.reduceBEq, reduceCtorEq, Int.reduceToNat, ↓reduceIte]) <;> (try clear ee))
  · obtain ⟨a, rfl⟩ := Int.eq_ofNat_of_zero_le (show 0 ≤ a by omega)
    refine lp_go (fun i : Nat => ⟨64, [(0, .str b), (1, .int .i64 a), (7, .int .i64 (acc (seg b a i))), (8, .int .i64 i)], []⟩) (fun i => i ≤ 5 ∧ a + i ≤ b.size ∧ rv b a = rvI b a (5 - i) i ∧ (∀ y ∈ seg b a i, 128 ≤ y ∧ y ≤ 255)) (fun i => 5 - i) 0 ?_ ⟨by omega, by omega, by unfold rv; rw [if_pos (by omega)]; rfl, by unfold seg; simp⟩ ?_
    · (simp (disch := first | omega | (simp only [LN, numOk, verOk] <;> omega) | exact Ck.mk rfl) only [SB, EQ, Nat.reduceMul, Nat.reduceAdd, Nat.reduceSub, Nat.reduceLT, Nat.reduceEqDiff, Nat.reduceLeDiff, Nat.reduceBEq, reduceCtorEq, Int.reduceToNat, ↓reduceIte]; try omega)
      simp [seg, acc]
    · rintro i ⟨h1, h2, h3, h4⟩ N hN
      rw [h3]
      have hbr := bt_range b ((a : Int) + i)
      have hn0 := (acc_range (seg b a (i + 1))).1
      have hw : IntKind.u64.wrap (7 * (i : Int)) = 7 * (i : Int) := by rw [IntKind.wrap_u64]; omega
      have hao : i < 5 → a + i < b.size → _ := fun h5 hs => acc_or b a i (by omega) hs
      have he : i < 5 → rvI b a (5 - i) i = if a + i < b.size then (if bt b ((a : Int) + i) ≥ 128 then rvI b a (5 - (i + 1)) (i + 1) else if (0 < i ∧ bt b ((a : Int) + i) = 0) ∨ 1000000000 < acc (seg b a (i + 1)) then (0, 0, false) else (acc (seg b a (i + 1)), ((a + i + 1 : Nat) : Int), true)) else (0, 0, false) := fun h5 => by
        rw [show 5 - i = (5 - (i + 1)) + 1 by omega]; rfl
      have hz : (varT (acc (seg b a (i + 1)))).size = 0 ↔ 1000000000 < acc (seg b a (i + 1)) := by
        constructor
        · intro h
          rcases Int.lt_or_le 1000000000 (acc (seg b a (i + 1))) with h4 | h4
          · exact h4
          · have := varT_pos _ hn0 h4; omega
        · intro h
          unfold varT
          rw [if_pos (.inr h)]; rfl
      have hiff : i < 5 → a + i < b.size → bt b ((a : Int) + i) < 128 → acc (seg b a (i + 1)) ≤ 1000000000 → (varT (acc (seg b a (i + 1))) = b.extract a ((a : Int) + i + 1).toNat ↔ ¬ (0 < i ∧ bt b ((a : Int) + i) = 0)) := fun h5 hs hx hle => by
        rw [show ((a : Int) + i + 1).toNat = a + (i + 1) by omega]
        have hl := seg_length b a i (by omega)
        have hc := varL_canon (seg b a i) (bt b ((a : Int) + i)) (by omega) h4 hbr.1 (by omega)
        rw [← Int.natCast_add, ← seg_snoc b a i hs, hl] at hc
        rw [← Int.natCast_add, ← hc]
        have hv : varT (acc (seg b a (i + 1))) = strOf (varL 4 (acc (seg b a (i + 1)))) := by unfold varT; rw [if_neg (by omega)]
        constructor
        · intro h5
          have := congrArg bytesOf h5
          rw [hv, bytesOf_strOf _ (varL_range 4 _ hn0), extract_seg] at this
          exact this
        · intro h5
          apply bytesOf_inj
          rw [hv, bytesOf_strOf _ (varL_range 4 _ hn0), extract_seg]
          exact h5
      refine Wr.go ?_
      repeat' ((first | (have ee := True.intro; refine Wr.mk ?_) | ((first | refine br_go ?_ ?_ | refine pick_go ?_ ?_) <;> intro ee f <;> (try simp only [BB] at f) <;> (try simp only [numOk, verOk] at f)) | (have ee := True.intro; first | refine call_x (spec_VarText _) rfl ⟨rfl⟩ ?_)) <;> (try simp (maxSteps := 1000000) (disch := first | omega | (simp only [LN, numOk, verOk, and_127, wsmall, hao, hw] <;> omega) | exact Ck.mk rfl) only [ee, VC, T, Nat.reduceMul, Nat.reduceAdd, Nat.reduceSub, Nat.reduceLT, Nat.reduceEqDiff, Nat.reduceLeDiff, Nat.reduceBEq, reduceCtorEq, Int.reduceToNat, ↓reduceIte, and_127, wsmall, hao, hw]) <;> (try clear ee))
      · rw [he (by omega)]
        (simp only [rvP]; (repeat' split) <;> first | (exfalso; omega) | (simp only [EQ] <;> omega))
      · have h := f
        rw [hiff (by omega) (by omega) (by omega) (by omega)] at h
        rw [he (by omega)]
        (simp only [rvP]; (repeat' split) <;> first | (exfalso; omega) | (simp only [EQ] <;> omega))
      · have h := f
        rw [hiff (by omega) (by omega) (by omega) (by omega)] at h
        rw [he (by omega)]
        (simp only [rvP]; (repeat' split) <;> first | (exfalso; omega) | (simp only [EQ] <;> omega))
      · refine hN (i + 1) _ ⟨by omega, by omega, ?_, ?_⟩ (by omega) ?_
        · rw [h3, he (by omega), if_pos (by omega), if_pos (by omega)]
        · rw [seg_snoc b a i (by omega)]
          intro y hy
          rcases List.mem_append.1 hy with hy | hy
          · exact h4 y hy
          · rw [List.mem_singleton.1 hy, Int.natCast_add]; omega
        · (simp (disch := first | omega | (simp only [LN, numOk, verOk] <;> omega) | exact Ck.mk rfl) only [SB, EQ, Nat.reduceMul, Nat.reduceAdd, Nat.reduceSub, Nat.reduceLT, Nat.reduceEqDiff, Nat.reduceLeDiff, Nat.reduceBEq, reduceCtorEq, Int.reduceToNat, ↓reduceIte]; try omega)
      · rw [he (by omega)]
        (simp only [rvP]; (repeat' split) <;> first | (exfalso; omega) | (simp only [EQ] <;> omega))
      · obtain rfl : i = 5 := by omega
        rfl
  · unfold rv
    split
    · unfold rvI
      rw [if_neg (by omega)]; rfl
    · rfl
end Go.Pv

/- What functions of the program and of the reference do, in plain values. -/
namespace Go.Pv
open Go.Proofs Go.Mth
set_option linter.unusedSimpArgs false
set_option linter.unusedVariables false
set_option maxHeartbeats 4000000
set_option maxRecDepth 4000

/-! ### numbers of so many bytes, read -/
def rfP (x : Int × Bool) : PV := .tup [.int .i64 x.1, .bool x.2]
theorem shl_le (b : ByteArray) (a i w : Nat) (hi : i < w) (h8 : w ≤ 8) (ha : a + w ≤ b.size) :
    Go.bits .or .i64 (le (seg b a i)) (shl .i64 (bt b ((a : Int) + i)) (8 * (i : Int))) = if i < 7 ∨ bt b ((a : Int) + i) < 128 then le (seg b a (i + 1)) else le (seg b a (i + 1)) - 2 ^ 64 := by
  have hbr := bt_range b ((a : Int) + i)
  have hr := le_range (seg b a i) (seg_range _ _ _)
  have hl := seg_length b a i (by omega)
  rw [hl] at hr
  have hp : (256 : Int) ^ i = 2 ^ (8 * i) := by rw [Int.pow_mul]; rfl
  have hs : le (seg b a (i + 1)) = le (seg b a i) + bt b ((a : Int) + i) * 256 ^ i := by rw [seg_snoc b a i (by omega), le_snoc, hl, Int.natCast_add]
  by_cases h6 : i ≤ 6
  · rw [hp] at hr hs
    have h48 : (2 : Int) ^ (8 * i) ≤ 2 ^ 48 := by exact_mod_cast Nat.pow_le_pow_right (by decide : 0 < 2) (by omega : 8 * i ≤ 48)
    rw [shl8 _ i h6 (by omega) (by omega), or_low (8 * i) _ _ hr.1 hr.2 (by omega) (by
      have h4 : bt b ((a : Int) + i) * 2 ^ (8 * i) ≤ 255 * 2 ^ 48 := Int.mul_le_mul (by omega) h48 (Int.pow_nonneg (by decide)) (by decide)
      omega) (by omega), ← hs, if_pos (.inl (by omega))]
  · obtain rfl : i = 7 := by omega
    have h56 : (256 : Int) ^ 7 = 2 ^ 56 := by decide
    rw [h56] at hr hs
    rw [show (8 * ((7 : Nat) : Int)) = 56 by rfl, or_top _ _ hr.1 hr.2 hbr.1 (by omega), hs]
    by_cases h : bt b ((a : Int) + (7 : Nat)) < 128
    · rw [if_pos h, if_pos (.inr h)]
    · rw [if_neg h, if_neg (by omega)]
theorem le_lt (b : ByteArray) (a i : Nat) (ha : a + i ≤ b.size) (h : i ≤ 8) : 0 ≤ le (seg b a i) ∧ (i ≤ 7 → le (seg b a i) < 72057594037927936) ∧ le (seg b a i) < 18446744073709551616 := by
  have hr := le_range (seg b a i) (seg_range _ _ _)
  rw [seg_length b a i ha] at hr
  have h8 : (256 : Int) ^ i ≤ 256 ^ 8 := pow_mono 256 (by decide) h
  have e8 : (256 : Int) ^ 8 = 18446744073709551616 := by decide
  refine ⟨hr.1, fun h7 => ?_, by omega⟩
  have h7' : (256 : Int) ^ i ≤ 256 ^ 7 := pow_mono 256 (by decide) h7
  have e7 : (256 : Int) ^ 7 = 72057594037927936 := by decide
  omega
theorem le_top8 (b : ByteArray) (a : Nat) (ha : a + 8 ≤ b.size) : le (seg b a 8) = le (seg b a 7) + bt b ((a : Int) + 7) * 72057594037927936 := by
  rw [seg_snoc b a 7 (by omega), le_snoc, seg_length b a 7 (by omega), Int.natCast_add]; rfl
theorem impl_ReadFix (b : ByteArray) (hb : b.size ≤ 140737488355328) (a w : Int) (ha0 : -9223372036854775808 ≤ a) (ha : a ≤ 9223372036854775807) (hw0 : -9223372036854775808 ≤ w) (hw : w ≤ 9223372036854775807) :
    Fn Tryz.prog 224 [.str b, .int .i64 a, .int .i64 w] [] (rfP (rfix b a w)) [] := by
  refine fn_x tok (n := 41) (rs := [.tmp 6, .tmp 7]) Tryz.func224 (by decide) rfl rfl rfl rfl ?_
  refine Wr.go ?_
  repeat' ((first | (have ee := True.intro; refine Wr.mk ?_) | ((first | refine br_go ?_ ?_ | refine pick_go ?_ ?_) <;> intro ee f <;> (try simp only [BB] at f) <;> (try simp only [numOk, verOk] at f)) | (have ee := True.intro; first | refine call_x (impl_within _ _ _) rfl ⟨rfl⟩ ?_)) <;> (try simp (maxSteps := 1000000) (disch := first | omega | (simp only [LN, numOk, verOk] <;> omega) | exact Ck.mk rfl) only [ee, VC, T, Nat.reduceMul, Nat.reduceAdd, Nat.reduceSub, Nat.reduceLT, Nat.reduceEqDiff, Nat.reduceLeDiff, Nat.reduceBEq, reduceCtorEq, Int.reduceToNat, ↓reduceIte]) <;> (try clear ee))
  · obtain ⟨a, rfl⟩ := Int.eq_ofNat_of_zero_le (show 0 ≤ a by omega)
    obtain ⟨w, rfl⟩ := Int.eq_ofNat_of_zero_le (show 0 ≤ w by omega)
    rw [show rfix b a w = if le (seg b a w) < 9223372036854775808 then (le (seg b a w), true) else (0, false) by unfold rfix; rw [if_pos (by omega)]; rfl]
    have hlw := le_lt b a w (by omega) (by omega)
    refine lp_go (fun i : Nat => ⟨41, [(0, .str b), (1, .int .i64 a), (8, .int .i64 (if i < 8 ∨ le (seg b a i) < 9223372036854775808 then le (seg b a i) else le (seg b a i) - 2 ^ 64)), (22, .int .i64 w), (23, .int .i64 i)], []⟩) (fun i => i ≤ w) (fun i => w - i) 0 ?_ (by omega) ?_
    · (simp (disch := first | omega | (simp only [LN, numOk, verOk] <;> omega) | exact Ck.mk rfl) only [SB, EQ, Nat.reduceMul, Nat.reduceAdd, Nat.reduceSub, Nat.reduceLT, Nat.reduceEqDiff, Nat.reduceLeDiff, Nat.reduceBEq, reduceCtorEq, Int.reduceToNat, ↓reduceIte]; try omega)
      simp [seg, le]
    · intro i hi N hN
      have hbr := bt_range b ((a : Int) + i)
      have hso : i < w → _ := fun h => shl_le b a i w h (by omega) (by omega)
      have hli := le_lt b a i (by omega) (by omega)
      have h88 := le_top8 b a
      have e64 : (2 : Int) ^ 64 = 18446744073709551616 := by decide
      by_cases h8 : i < 8
      · simp only [h8, true_or, if_true]
        refine Wr.go ?_
        repeat' ((first | (have ee := True.intro; refine Wr.mk ?_) | ((first | refine br_go ?_ ?_ | refine pick_go ?_ ?_) <;> intro ee f <;> (try simp only [BB] at f) <;> (try simp only [numOk, verOk] at f))) <;> (try simp (maxSteps := 1000000) (disch := first | omega | (simp only [LN, numOk, verOk, wsmall, hso] <;> omega) | exact Ck.mk rfl) only [ee, VC, T, Nat.reduceMul, Nat.reduceAdd, Nat.reduceSub, Nat.reduceLT, Nat.reduceEqDiff, Nat.reduceLeDiff, Nat.reduceBEq, reduceCtorEq, Int.reduceToNat, ↓reduceIte, wsmall, hso]) <;> (try clear ee))
        · refine hN (i + 1) _ (by omega) (by omega) ?_
          have hl2 := le_lt b a (i + 1) (by omega) (by omega)
          (simp (disch := first | omega | (simp only [LN, numOk, verOk] <;> omega) | exact Ck.mk rfl) only [SB, EQ, Nat.reduceMul, Nat.reduceAdd, Nat.reduceSub, Nat.reduceLT, Nat.reduceEqDiff, Nat.reduceLeDiff, Nat.reduceBEq, reduceCtorEq, Int.reduceToNat, ↓reduceIte]; try omega)
          by_cases h7 : i = 7
          · subst h7
            have := h88 (by omega)
            have e7 : ((7 : Nat) : Int) = 7 := rfl
            simp only [Nat.reduceAdd, e7] at *
            (repeat' split) <;> first | rfl | (exfalso; omega)
          · rw [if_pos (by omega), if_pos (by omega)]
        all_goals
          obtain rfl : i = w := by omega
          (simp only [rfP]; (repeat' split) <;> first | (exfalso; omega) | (simp only [EQ] <;> omega))
      · obtain rfl : i = w := by omega
        refine Wr.go ?_
        repeat' ((first | (have ee := True.intro; refine Wr.mk ?_) | ((first | refine br_go ?_ ?_ | refine pick_go ?_ ?_) <;> intro ee f <;> (try simp only [BB] at f) <;> (try simp only [numOk, verOk] at f))) <;> (try simp (maxSteps := 1000000) (disch := first | omega | (simp only [LN, numOk, verOk, wsmall] <;> omega) | exact Ck.mk rfl) only [ee, VC, T, Nat.reduceMul, Nat.reduceAdd, Nat.reduceSub, Nat.reduceLT, Nat.reduceEqDiff, Nat.reduceLeDiff, Nat.reduceBEq, reduceCtorEq, Int.reduceToNat, ↓reduceIte, wsmall]) <;> (try clear ee))
        all_goals (simp only [rfP]; (repeat' split) <;> first | (exfalso; omega) | (simp only [EQ] <;> omega))
  all_goals (rw [show rfix b a w = (0, false) by unfold rfix; rw [if_neg (by omega)]]; rfl)
theorem le_top (b : ByteArray) (a w : Nat) (ha : a + w ≤ b.size) (i : Nat) (hi : i ≤ w) : le (seg b (a + i) (w - i)) ≤ le (seg b a w) := by
  induction i with
  | zero => exact Int.le_refl _
  | succ i ih =>
    have h1 := ih (by omega)
    have e : w - i = (w - (i + 1)) + 1 := by omega
    rw [e, seg_cons b (a + i) (w - (i + 1)) (by omega)] at h1
    have hbr := bt_range b ((a + i : Nat) : Int)
    have hr := le_range (seg b (a + i + 1) (w - (i + 1))) (seg_range _ _ _)
    simp only [le] at h1
    rw [show a + (i + 1) = a + i + 1 by omega]
    omega
theorem shl_1 (n : Int) (h0 : 0 ≤ n) (h1 : n * 256 < 9223372036854775808) : shl .i64 n 8 = n * 256 := by
  unfold shl
  rw [show min (8 : Int).toNat IntKind.i64.bits = 8 by rfl, wsmall _ (by omega) (by omega)]
  rfl
theorem spec_ReadFix (b : ByteArray) (hb : b.size ≤ 140737488355328) (a w : Int) (ha0 : -9223372036854775808 ≤ a) (ha : a ≤ 9223372036854775807) (hw0 : -9223372036854775808 ≤ w) (hw : w ≤ 9223372036854775807) :
    Fn Tryz.prog 161 [.str b, .int .i64 a, .int .i64 w] [] (rfP (rfix b a w)) [] := by
  refine fn_x tok (n := 47) (rs := [.tmp 6, .tmp 7]) Tryz.func161 (by decide) rfl rfl rfl rfl ?_
  refine Wr.go ?_
  repeat' ((first | (have ee := True.intro; refine Wr.mk ?_) | ((first | refine br_go ?_ ?_ | refine pick_go ?_ ?_) <;> intro ee f <;> (try simp only [BB] at f) <;> (try simp only [numOk, verOk] at f)) | (have ee := True.intro; first | refine call_x (spec_l01In _ _ _) rfl ⟨rfl⟩ ?_)) <;> (try simp (maxSteps := 1000000) (disch := first | omega | (simp only [LN, numOk, verOk, wsmall] <;> omega) | exact Ck.mk rfl) only [ee, VC, T, Nat.reduceMul, Nat.reduceAdd, Nat.reduceSub, Nat.reduceLT, Nat.reduceEqDiff, Nat.reduceLeDiff, Nat.reduceBEq, reduceCtorEq, Int.reduceToNat, ↓reduceIte, wsmall]) <;> (try clear ee))
  all_goals first
    | (rw [show rfix b a w = (0, false) by unfold rfix; rw [if_neg (by omega)]]; rfl)
    | skip
  all_goals
    obtain ⟨a, rfl⟩ := Int.eq_ofNat_of_zero_le (show 0 ≤ a by omega)
    obtain ⟨w, rfl⟩ := Int.eq_ofNat_of_zero_le (show 0 ≤ w by omega)
    rw [show rfix b a w = if le (seg b a w) < 9223372036854775808 then (le (seg b a w), true) else (0, false) by unfold rfix; rw [if_pos (by omega)]; rfl]
    have hlw := le_lt b a w (by omega) (by omega)
    have h88 := le_top8 b a
    have hl7 := fun h => le_lt b a 7 h (by decide)
    have hbr := bt_range b ((a : Int) + 7)
  · obtain rfl : w = 8 := by omega
    rw [if_neg (by omega)]; rfl
  all_goals
    have hlt : le (seg b a w) < 9223372036854775808 := by
      by_cases h8 : w = 8
      · subst h8; omega
      · omega
    rw [if_pos hlt]
    refine lp_go (fun i : Nat => ⟨47, [(0, .str b), (1, .int .i64 a), (8, .int .i64 (le (seg b (a + i) (w - i)))), (9, .int .i64 (i - 1))], []⟩) (fun i => i ≤ w) (fun i => i) w ?_ (by omega) ?_
    · (simp (disch := first | omega | (simp only [LN, numOk, verOk] <;> omega) | exact Ck.mk rfl) only [SB, EQ, Nat.reduceMul, Nat.reduceAdd, Nat.reduceSub, Nat.reduceLT, Nat.reduceEqDiff, Nat.reduceLeDiff, Nat.reduceBEq, reduceCtorEq, Int.reduceToNat, ↓reduceIte]; try omega)
      simp [seg, le]
    · intro i hi N hN
      have hbr := bt_range b ((a : Int) + (i - 1))
      have ht := le_top b a w (by omega) (i - 1) (by omega)
      have hr := (le_lt b (a + i) (w - i) (by omega) (by omega)).1
      have hs : 0 < i → le (seg b (a + (i - 1)) (w - (i - 1))) = bt b ((a : Int) + (i - 1)) + 256 * le (seg b (a + i) (w - i)) := fun h => by
        rw [show w - (i - 1) = (w - i) + 1 by omega, seg_cons b (a + (i - 1)) (w - i) (by omega), show a + (i - 1) + 1 = a + i by omega, show ((a + (i - 1) : Nat) : Int) = (a : Int) + (i - 1) by omega]
        rfl
      have ho : 0 < i → Go.bits .or .i64 (le (seg b (a + i) (w - i)) * 256) (bt b ((a : Int) + (i - 1))) = le (seg b (a + (i - 1)) (w - (i - 1))) := fun h => by
        rw [or_high _ _ hr hbr.1 (by omega) (by have := hs h; omega), hs h]; omega
      by_cases h0 : i = 0
      · subst h0
        refine Wr.go ?_
        repeat' ((first | (have ee := True.intro; refine Wr.mk ?_) | ((first | refine br_go ?_ ?_ | refine pick_go ?_ ?_) <;> intro ee f <;> (try simp only [BB] at f) <;> (try simp only [numOk, verOk] at f))) <;> (try simp (maxSteps := 1000000) (disch := first | omega | (simp only [LN, numOk, verOk, wsmall] <;> omega) | exact Ck.mk rfl) only [ee, VC, T, Nat.reduceMul, Nat.reduceAdd, Nat.reduceSub, Nat.reduceLT, Nat.reduceEqDiff, Nat.reduceLeDiff, Nat.reduceBEq, reduceCtorEq, Int.reduceToNat, ↓reduceIte, wsmall]) <;> (try clear ee))
        all_goals rfl
      · have hs' := hs (by omega)
        refine Wr.go ?_
        repeat' ((first | (have ee := True.intro; refine Wr.mk ?_) | ((first | refine br_go ?_ ?_ | refine pick_go ?_ ?_) <;> intro ee f <;> (try simp only [BB] at f) <;> (try simp only [numOk, verOk] at f))) <;> (try simp (maxSteps := 1000000) (disch := first | omega | (simp only [LN, numOk, verOk, wsmall, shl_1, ho] <;> omega) | exact Ck.mk rfl) only [ee, VC, T, Nat.reduceMul, Nat.reduceAdd, Nat.reduceSub, Nat.reduceLT, Nat.reduceEqDiff, Nat.reduceLeDiff, Nat.reduceBEq, reduceCtorEq, Int.reduceToNat, ↓reduceIte, wsmall, shl_1, ho]) <;> (try clear ee))
        refine hN (i - 1) _ (by omega) (by omega) ?_
        (simp (disch := first | omega | (simp only [LN, numOk, verOk] <;> omega) | exact Ck.mk rfl) only [SB, EQ, Nat.reduceMul, Nat.reduceAdd, Nat.reduceSub, Nat.reduceLT, Nat.reduceEqDiff, Nat.reduceLeDiff, Nat.reduceBEq, reduceCtorEq, Int.reduceToNat, ↓reduceIte]; try omega)
end Go.Pv

/- What functions of the program and of the reference do, in plain values. -/
namespace Go.Pv
open Go.Proofs Go.Mth
set_option linter.unusedSimpArgs false
set_option linter.unusedVariables false
set_option maxHeartbeats 4000000
set_option maxRecDepth 4000

/-! ### heads and links -/
def rhP (x : Int × Int × Int × Int × Bool) : PV := .tup [.agg [.int .i64 x.1, .int .i64 x.2.1, .int .i64 x.2.2.1, .int .i64 x.2.2.2.1], .bool x.2.2.2.2]
theorem spec_HeadOk (v s b l : Int) : Fn Tryz.prog 102 [.agg [.int .i64 v, .int .i64 s, .int .i64 b, .int .i64 l]] [] (.bool (decide (headOk v s b l))) [] := by
  refine fn_x tok (n := 21) (rs := [.tmp 2]) Tryz.func102 (by decide) rfl rfl rfl rfl ?_
  refine Wr.go ?_
  repeat' ((first | (have ee := True.intro; refine Wr.mk ?_) | ((first | refine br_go ?_ ?_ | refine pick_go ?_ ?_) <;> intro ee f <;> (try simp only [BB] at f) <;> (try simp only [numOk, verOk] at f)) | (have ee := True.intro; first | refine call_x (spec_l01In _ _ _) rfl ⟨rfl⟩ ?_)) <;> (try simp (maxSteps := 1000000) (disch := first | omega | (simp only [LN, numOk, verOk, rfP, rvP, rhP] <;> omega) | exact Ck.mk rfl) only [ee, VC, T, Nat.reduceMul, Nat.reduceAdd, Nat.reduceSub, Nat.reduceLT, Nat.reduceEqDiff, Nat.reduceLeDiff, Nat.reduceBEq, reduceCtorEq, Int.reduceToNat, ↓reduceIte, rfP, rvP, rhP]) <;> (try clear ee))
  all_goals (simp only [EQ]; rw [Bool.eq_iff_iff]; simp only [BB, EQ]; simp only [headOk, verOk, numOk, false_iff, true_iff, iff_false, iff_true]; omega)
theorem impl_HeadOk (v s b l : Int) : Fn Tryz.prog 247 [.agg [.int .i64 v, .int .i64 s, .int .i64 b, .int .i64 l]] [] (.bool (decide (headOk v s b l))) [] := by
  refine fn_x tok (n := 21) (rs := [.tmp 2]) Tryz.func247 (by decide) rfl rfl rfl rfl ?_
  refine Wr.go ?_
  repeat' ((first | (have ee := True.intro; refine Wr.mk ?_) | ((first | refine br_go ?_ ?_ | refine pick_go ?_ ?_) <;> intro ee f <;> (try simp only [BB] at f) <;> (try simp only [numOk, verOk] at f)) | (have ee := True.intro; first | refine call_x (impl_isVersion _) rfl ⟨rfl⟩ ?_ | refine call_x (impl_within _ _ _) rfl ⟨rfl⟩ ?_ | refine call_x (impl_isNumber _) rfl ⟨rfl⟩ ?_)) <;> (try simp (maxSteps := 1000000) (disch := first | omega | (simp only [LN, numOk, verOk, rfP, rvP, rhP] <;> omega) | exact Ck.mk rfl) only [ee, VC, T, Nat.reduceMul, Nat.reduceAdd, Nat.reduceSub, Nat.reduceLT, Nat.reduceEqDiff, Nat.reduceLeDiff, Nat.reduceBEq, reduceCtorEq, Int.reduceToNat, ↓reduceIte, rfP, rvP, rhP]) <;> (try clear ee))
  all_goals (simp only [EQ]; rw [Bool.eq_iff_iff]; simp only [BB, EQ]; simp only [headOk, verOk, numOk, false_iff, true_iff, iff_false, iff_true]; omega)
theorem sumOf_lt (t : ByteArray) : sumOf t < 9223372036854775808 := by have := (sumMore_range 0 t).2; unfold sumOf; omega
theorem size_mk (l : List UInt8) : ByteArray.size ⟨l.toArray⟩ = l.length := by simp [ByteArray.size]
theorem hdT_no {v s b l : Int} (h : ¬ headOk v s b l) : headT v s b l = ⟨#[]⟩ := if_neg h
theorem hdT_ok {v s b l : Int} (h : headOk v s b l) : headT v s b l = hdBody v s b l ++ fixT (sumOf (hdBody v s b l)) 4 := if_pos h
theorem spec_HeadText (v s b l : Int) : Fn Tryz.prog 103 [.agg [.int .i64 v, .int .i64 s, .int .i64 b, .int .i64 l]] [] (.str (headT v s b l)) [] := by
  have b1 := fixT_le v 1
  have b2 := fixT_le s 1
  have b3 := fixT_le b 8
  have b4 := fixT_le l 4
  have b5 := fixT_le (sumOf (hdBody v s b l)) 4
  have b6 := (sumMore_range 0 (hdBody v s b l))
  have b7 := hdBody_le v s b l
  refine fn_x tok (n := 29) (rs := [.tmp 2]) Tryz.func103 (by decide) rfl rfl rfl rfl ?_
  refine Wr.go ?_
  repeat' ((first | (have ee := True.intro; refine Wr.mk ?_) | ((first | refine br_go ?_ ?_ | refine pick_go ?_ ?_) <;> intro ee f <;> (try simp only [BB] at f) <;> (try simp only [numOk, verOk] at f)) | (have ee := True.intro; first | refine dr_go mixed (id := 3) [([], [1], []), ([0], [7], []), ([0, 1], [8], []), ([0, 1, 2], [9], []), ([], [1], []), ([4], [11], []), ([0, 1, 2, 4, 5], [12], []), ([0, 1, 2, 3, 4, 5, 6], [10, 13], []), ([0, 1, 2, 3, 4, 5, 6, 7], [14], []), ([], [1], []), ([9], [16], []), ([0, 1, 2, 4, 5, 6, 9, 10], [17], []), ([0, 1, 2, 3, 4, 5, 6, 7, 8, 9, 10, 11], [15, 18], []), ([], [1], []), ([13], [20], []), ([0, 1, 2, 4, 5, 6, 9, 10, 11, 13, 14], [21], []), ([0, 1, 2, 3, 4, 5, 6, 7, 8, 9, 10, 11, 12, 13, 14, 15], [19, 22], []), ([0, 1, 2, 3, 4, 5, 6, 7, 8, 9, 10, 11, 12, 13, 14, 15, 16], [23], [])] rfl rfl rfl ?_ | refine call_x (spec_HeadOk _ _ _ _) rfl ⟨rfl⟩ ?_ | refine call_x (spec_FixText _ _ (sumOf_lt _)) rfl ⟨rfl⟩ ?_ | refine call_x (spec_FixText _ _ (by unfold headOk verOk numOk at *; omega)) rfl ⟨rfl⟩ ?_ | refine call_x (spec_SumOf _ (by simp only [ByteArray.size_append, size_mk, List.length_cons, List.length_nil]; omega)) rfl ⟨rfl⟩ ?_)) <;> (try simp (maxSteps := 1000000) (disch := first | omega | (simp only [LN, numOk, verOk, rfP, rvP, rhP] <;> omega) | exact Ck.mk rfl) only [ee, VC, T, Nat.reduceMul, Nat.reduceAdd, Nat.reduceSub, Nat.reduceLT, Nat.reduceEqDiff, Nat.reduceLeDiff, Nat.reduceBEq, reduceCtorEq, Int.reduceToNat, ↓reduceIte, rfP, rvP, rhP]) <;> (try clear ee))
  · refine ⟨by unfold hdBody at b5; omega, ?_⟩
    rw [hdT_ok f]; rfl
  · rw [hdT_no f]
theorem impl_HeadText (v s b l : Int) : Fn Tryz.prog 225 [.agg [.int .i64 v, .int .i64 s, .int .i64 b, .int .i64 l]] [] (.str (headT v s b l)) [] := by
  have b1 := fixT_le v 1
  have b2 := fixT_le s 1
  have b3 := fixT_le b 8
  have b4 := fixT_le l 4
  have b5 := fixT_le (sumOf (hdBody v s b l)) 4
  have b7 := hdBody_le v s b l
  refine fn_x tok (n := 30) (rs := [.tmp 2]) Tryz.func225 (by decide) rfl rfl rfl rfl ?_
  refine Wr.go ?_
  repeat' ((first | (have ee := True.intro; refine Wr.mk ?_) | ((first | refine br_go ?_ ?_ | refine pick_go ?_ ?_) <;> intro ee f <;> (try simp only [BB] at f) <;> (try simp only [numOk, verOk] at f)) | (have ee := True.intro; first | refine dr_go mixed (id := 3) [([], [1], []), ([0], [7], []), ([0, 1], [8], []), ([0, 1, 2], [9], []), ([], [1], []), ([4], [11], []), ([0, 1, 2, 4, 5], [12], []), ([0, 1, 2, 3, 4, 5, 6], [10, 13], []), ([0, 1, 2, 4, 5, 6], [], []), ([0, 1, 2, 3, 4, 5, 6, 7, 8], [14, 15], []), ([], [1], []), ([10], [17], []), ([0, 1, 2, 4, 5, 6, 8, 10, 11], [18], []), ([0, 1, 2, 3, 4, 5, 6, 7, 8, 9, 10, 11, 12], [16, 19], []), ([], [1], []), ([14], [21], []), ([0, 1, 2, 4, 5, 6, 8, 10, 11, 12, 14, 15], [22], []), ([0, 1, 2, 3, 4, 5, 6, 7, 8, 9, 10, 11, 12, 13, 14, 15, 16], [20, 23], []), ([0, 1, 2, 3, 4, 5, 6, 7, 8, 9, 10, 11, 12, 13, 14, 15, 16, 17], [24], [])] rfl rfl rfl ?_ | refine call_x (impl_HeadOk _ _ _ _) rfl ⟨rfl⟩ ?_ | refine call_x (impl_FixText _ _ (sumOf_lt _)) rfl ⟨rfl⟩ ?_ | refine call_x (impl_FixText _ _ (by unfold headOk verOk numOk at *; omega)) rfl ⟨rfl⟩ ?_ | refine call_x (impl_SumOf _ (by simp only [ByteArray.size_append, size_mk, List.length_cons, List.length_nil]; omega)) rfl ⟨rfl⟩ ?_)) <;> (try simp (maxSteps := 1000000) (disch := first | omega | (simp only [LN, numOk, verOk, rfP, rvP, rhP, fixT0] <;> omega) | exact Ck.mk rfl) only [ee, VC, T, Nat.reduceMul, Nat.reduceAdd, Nat.reduceSub, Nat.reduceLT, Nat.reduceEqDiff, Nat.reduceLeDiff, Nat.reduceBEq, reduceCtorEq, Int.reduceToNat, ↓reduceIte, rfP, rvP, rhP, fixT0]) <;> (try clear ee))
  · refine ⟨by unfold hdBody at b5; omega, ?_⟩
    rw [hdT_ok f]; rfl
  · rw [hdT_no f]
theorem spec_ReadHead (b : ByteArray) (hb : b.size ≤ 140737488355328) : Fn Tryz.prog 112 [.str b] [] (rhP (rHead b)) [] := by
  have h1 := rfix_range b 8 8
  have h2 := rfix_range b 16 4
  have h3 := bt_range b 4
  have h4 := bt_range b 5
  refine fn_x tok (n := 43) (rs := [.cell 2 61, .tmp 3]) Tryz.func112 (by decide) rfl rfl rfl rfl ?_
  refine Wr.go ?_
  repeat' ((first | (have ee := True.intro; refine Wr.mk ?_) | ((first | refine br_go ?_ ?_ | refine pick_go ?_ ?_) <;> intro ee f <;> (try simp only [BB] at f) <;> (try simp only [numOk, verOk] at f)) | (have ee := True.intro; first | refine dr_go mixed (id := 5) [([], [0], []), ([0], [23], []), ([0, 1], [24], []), ([], [0], []), ([3], [26], []), ([3, 4], [27], []), ([], [4], []), ([], [6], []), ([0, 1, 2, 3, 4, 5, 6, 7], [25, 28, 29, 30], []), ([], [], []), ([0, 1, 2, 3, 4, 5, 6, 7, 8, 9], [8, 31], [])] rfl rfl rfl ?_ | refine dr_go mixed (id := 6) [([], [5], []), ([0], [32], []), ([0, 1], [33], []), ([0, 1, 2], [8, 34], []), ([0, 1, 2, 3], [34, 35], []), ([0, 1, 2], [0, 34], []), ([0, 1, 2, 5], [34, 37], []), ([0, 1, 2, 3, 4, 5, 6], [34, 36, 38], []), ([0, 1, 2, 3, 4, 5, 6, 7], [34, 39], [])] rfl rfl rfl ?_ | refine call_x (spec_ReadFix b hb _ _ (by omega) (by omega) (by omega) (by omega)) rfl ⟨rfl⟩ ?_ | refine call_x (spec_HeadText _ _ _ _) rfl ⟨rfl⟩ ?_)) <;> (try simp (maxSteps := 1000000) (disch := first | omega | (simp only [LN, numOk, verOk, rfP, rvP, rhP, wsmall] <;> omega) | exact Ck.mk rfl) only [ee, VC, T, Nat.reduceMul, Nat.reduceAdd, Nat.reduceSub, Nat.reduceLT, Nat.reduceEqDiff, Nat.reduceLeDiff, Nat.reduceBEq, reduceCtorEq, Int.reduceToNat, ↓reduceIte, rfP, rvP, rhP, wsmall]) <;> (try clear ee))
  all_goals (unfold rHead; (repeat' split) <;> first | rfl | (exfalso; omega) | (simp_all; done))
theorem impl_ReadHead (b : ByteArray) (hb : b.size ≤ 140737488355328) : Fn Tryz.prog 189 [.str b] [] (rhP (rHead b)) [] := by
  have h1 := rfix_range b 8 8
  have h2 := rfix_range b 16 4
  have h3 := bt_range b 4
  have h4 := bt_range b 5
  refine fn_x tok (n := 43) (rs := [.cell 2 61, .tmp 3]) Tryz.func189 (by decide) rfl rfl rfl rfl ?_
  refine Wr.go ?_
  repeat' ((first | (have ee := True.intro; refine Wr.mk ?_) | ((first | refine br_go ?_ ?_ | refine pick_go ?_ ?_) <;> intro ee f <;> (try simp only [BB] at f) <;> (try simp only [numOk, verOk] at f)) | (have ee := True.intro; first | refine dr_go mixed (id := 5) [([], [0], []), ([0], [23], []), ([0, 1], [24], []), ([], [0], []), ([3], [26], []), ([3, 4], [27], []), ([], [4], []), ([], [6], []), ([0, 1, 2, 3, 4, 5, 6, 7], [25, 28, 29, 30], []), ([], [], []), ([0, 1, 2, 3, 4, 5, 6, 7, 8, 9], [8, 31], [])] rfl rfl rfl ?_ | refine dr_go mixed (id := 6) [([], [5], []), ([0], [32], []), ([0, 1], [33], []), ([0, 1, 2], [8, 34], []), ([0, 1, 2, 3], [34, 35], []), ([0, 1, 2], [0, 34], []), ([0, 1, 2, 5], [34, 37], []), ([0, 1, 2, 3, 4, 5, 6], [34, 36, 38], []), ([0, 1, 2, 3, 4, 5, 6, 7], [34, 39], [])] rfl rfl rfl ?_ | refine call_x (impl_ReadFix b hb _ _ (by omega) (by omega) (by omega) (by omega)) rfl ⟨rfl⟩ ?_ | refine call_x (impl_HeadText _ _ _ _) rfl ⟨rfl⟩ ?_)) <;> (try simp (maxSteps := 1000000) (disch := first | omega | (simp only [LN, numOk, verOk, rfP, rvP, rhP, wsmall] <;> omega) | exact Ck.mk rfl) only [ee, VC, T, Nat.reduceMul, Nat.reduceAdd, Nat.reduceSub, Nat.reduceLT, Nat.reduceEqDiff, Nat.reduceLeDiff, Nat.reduceBEq, reduceCtorEq, Int.reduceToNat, ↓reduceIte, rfP, rvP, rhP, wsmall]) <;> (try clear ee))
  all_goals (unfold rHead; (repeat' split) <;> first | rfl | (exfalso; omega) | (simp_all; done))
theorem spec_LinkMore (l : Int) (r : ByteArray) (hr : r.size ≤ 140737488355000) : Fn Tryz.prog 113 [.int .i64 l, .str r] [] (.int .i64 (linkMore l r)) [] := by
  have b1 := fixT_le r.size 4
  refine fn_x tok (n := 12) (rs := [.tmp 4]) Tryz.func113 (by decide) rfl rfl rfl rfl ?_
  refine Wr.go ?_
  repeat' ((first | (have ee := True.intro; refine Wr.mk ?_) | ((first | refine br_go ?_ ?_ | refine pick_go ?_ ?_) <;> intro ee f <;> (try simp only [BB] at f) <;> (try simp only [numOk, verOk] at f)) | (have ee := True.intro; first | refine call_x (spec_FixText _ _ (by omega)) rfl ⟨rfl⟩ ?_ | refine call_x (spec_SumMore _ _ (by rw [ByteArray.size_append]; omega)) rfl ⟨rfl⟩ ?_)) <;> (try simp (maxSteps := 1000000) (disch := first | omega | (simp only [LN, numOk, verOk, rfP, rvP, rhP] <;> omega) | exact Ck.mk rfl) only [ee, VC, T, Nat.reduceMul, Nat.reduceAdd, Nat.reduceSub, Nat.reduceLT, Nat.reduceEqDiff, Nat.reduceLeDiff, Nat.reduceBEq, reduceCtorEq, Int.reduceToNat, ↓reduceIte, rfP, rvP, rhP]) <;> (try clear ee))
  all_goals rfl
theorem impl_LinkMore (l : Int) (r : ByteArray) (hr : r.size ≤ 140737488355000) : Fn Tryz.prog 192 [.int .i64 l, .str r] [] (.int .i64 (linkMore l r)) [] := by
  have b1 := fixT_le r.size 4
  refine fn_x tok (n := 12) (rs := [.tmp 4]) Tryz.func192 (by decide) rfl rfl rfl rfl ?_
  refine Wr.go ?_
  repeat' ((first | (have ee := True.intro; refine Wr.mk ?_) | ((first | refine br_go ?_ ?_ | refine pick_go ?_ ?_) <;> intro ee f <;> (try simp only [BB] at f) <;> (try simp only [numOk, verOk] at f)) | (have ee := True.intro; first | refine call_x (impl_FixText _ _ (by omega)) rfl ⟨rfl⟩ ?_ | refine call_x (impl_SumMore _ _ (by rw [ByteArray.size_append]; omega)) rfl ⟨rfl⟩ ?_)) <;> (try simp (maxSteps := 1000000) (disch := first | omega | (simp only [LN, numOk, verOk, rfP, rvP, rhP] <;> omega) | exact Ck.mk rfl) only [ee, VC, T, Nat.reduceMul, Nat.reduceAdd, Nat.reduceSub, Nat.reduceLT, Nat.reduceEqDiff, Nat.reduceLeDiff, Nat.reduceBEq, reduceCtorEq, Int.reduceToNat, ↓reduceIte, rfP, rvP, rhP]) <;> (try clear ee))
  all_goals rfl
theorem linkAll_snoc (l : Int) (rs : List ByteArray) (i : Nat) (h : i < rs.length) : linkMore (linkAll l (rs.take i)) (rs.getD i default) = linkAll l (rs.take (i + 1)) := by
  unfold linkAll
  rw [take_snoc default rs i h, List.foldl_append]
  rfl
theorem getD_mem {α : Type} [Inhabited α] (l : List α) (i : Nat) (h : i < l.length) : l.getD i default ∈ l := by
  rw [List.getD_eq_getElem?_getD, List.getElem?_eq_getElem h]; exact List.getElem_mem h
theorem impl_linkAll (l : Int) (rs : List ByteArray) (hl : rs.length < 9223372036854775808) (hr : ∀ r ∈ rs, r.size ≤ 140737488355000) : Fn Tryz.prog 142 [.int .i64 l, .far (rs.map .str)] [] (.int .i64 (linkAll l rs)) [] := by
  refine fn_x tok (n := 18) (rs := [.tmp 4]) Tryz.func142 (by decide) rfl rfl rfl rfl ?_
  refine Wr.go ?_
  repeat' ((first | (have ee := True.intro; refine Wr.mk ?_) | ((first | refine br_go ?_ ?_ | refine pick_go ?_ ?_) <;> intro ee f <;> (try simp only [BB] at f) <;> (try simp only [numOk, verOk] at f))) <;> (try simp (maxSteps := 1000000) (disch := first | omega | (simp only [LN, numOk, verOk, rfP, rvP, rhP] <;> omega) | exact Ck.mk rfl) only [ee, VC, T, Nat.reduceMul, Nat.reduceAdd, Nat.reduceSub, Nat.reduceLT, Nat.reduceEqDiff, Nat.reduceLeDiff, Nat.reduceBEq, reduceCtorEq, Int.reduceToNat, ↓reduceIte, rfP, rvP, rhP]) <;> (try clear ee))
  refine lp_go (fun i : Nat => ⟨18, [(0, .int .i64 (linkAll l (rs.take i))), (7, .far (rs.map .str)), (8, .int .i64 rs.length), (9, .int .i64 i)], []⟩) (fun i => i ≤ rs.length) (fun i => rs.length - i) 0 ?_ (by omega) ?_
  · (simp (disch := first | omega | (simp only [LN, numOk, verOk] <;> omega) | exact Ck.mk rfl) only [SB, EQ, Nat.reduceMul, Nat.reduceAdd, Nat.reduceSub, Nat.reduceLT, Nat.reduceEqDiff, Nat.reduceLeDiff, Nat.reduceBEq, reduceCtorEq, Int.reduceToNat, ↓reduceIte]; try omega)
    rfl
  · intro i hi N hN
    refine Wr.go ?_
    repeat' ((first | (have ee := True.intro; refine Wr.mk ?_) | ((first | refine br_go ?_ ?_ | refine pick_go ?_ ?_) <;> intro ee f <;> (try simp only [BB] at f) <;> (try simp only [numOk, verOk] at f)) | (have ee := True.intro; first | refine call_x (impl_LinkMore _ _ (hr _ (getD_mem _ _ (by omega)))) rfl ⟨rfl⟩ ?_)) <;> (try simp (maxSteps := 1000000) (disch := first | omega | (simp only [LN, numOk, verOk, rfP, rvP, rhP, linkAll_snoc] <;> omega) | exact Ck.mk rfl) only [ee, VC, T, Nat.reduceMul, Nat.reduceAdd, Nat.reduceSub, Nat.reduceLT, Nat.reduceEqDiff, Nat.reduceLeDiff, Nat.reduceBEq, reduceCtorEq, Int.reduceToNat, ↓reduceIte, rfP, rvP, rhP, linkAll_snoc]) <;> (try clear ee))
    · refine hN (i + 1) _ (by omega) (by omega) ?_
      (simp (disch := first | omega | (simp only [LN, numOk, verOk] <;> omega) | exact Ck.mk rfl) only [SB, EQ, Nat.reduceMul, Nat.reduceAdd, Nat.reduceSub, Nat.reduceLT, Nat.reduceEqDiff, Nat.reduceLeDiff, Nat.reduceBEq, reduceCtorEq, Int.reduceToNat, ↓reduceIte]; try omega)
    · obtain rfl : i = rs.length := by omega
      rw [List.take_length]
end Go.Pv

/- What functions of the program and of the reference do, in plain values. -/
namespace Go.Pv
open Go.Proofs Go.Mth
set_option linter.unusedSimpArgs false
set_option linter.unusedVariables false
set_option maxHeartbeats 4000000
set_option maxRecDepth 4000

theorem stringslite_HasPrefix (s p : ByteArray) : Fn Tryz.prog 240 [.str s, .str p] [] (.bool (decide (p.size ≤ s.size ∧ s.extract 0 p.size = p))) [] := by
  refine fn_x tok (n := 18) (rs := [.tmp 4]) Tryz.func240 (by decide) rfl rfl rfl rfl ?_
  refine Wr.go ?_
  repeat' ((first | (have ee := True.intro; refine Wr.mk ?_) | ((first | refine br_go ?_ ?_ | refine pick_go ?_ ?_) <;> intro ee f <;> (try simp only [BB] at f) <;> (try simp only [numOk, verOk] at f))) <;> (try simp (maxSteps := 1000000) (disch := first | omega | (simp only [LN, numOk, verOk, rfP, rvP, rhP] <;> omega) | exact Ck.mk rfl) only [ee, VC, T, Nat.reduceMul, Nat.reduceAdd, Nat.reduceSub, Nat.reduceLT, Nat.reduceEqDiff, Nat.reduceLeDiff, Nat.reduceBEq, reduceCtorEq, Int.reduceToNat, ↓reduceIte, rfP, rvP, rhP]) <;> (try clear ee))
  have h : ¬ p.size ≤ s.size := by omega
  simp [h]
theorem strings_HasPrefix (s p : ByteArray) : Fn Tryz.prog 198 [.str s, .str p] [] (.bool (decide (p.size ≤ s.size ∧ s.extract 0 p.size = p))) [] := by
  refine fn_x tok (n := 8) (rs := [.tmp 4]) Tryz.func198 (by decide) rfl rfl rfl rfl ?_
  refine Wr.go ?_
  repeat' ((first | (have ee := True.intro; refine Wr.mk ?_) | ((first | refine br_go ?_ ?_ | refine pick_go ?_ ?_) <;> intro ee f <;> (try simp only [BB] at f) <;> (try simp only [numOk, verOk] at f)) | (have ee := True.intro; first | refine call_x (stringslite_HasPrefix _ _) rfl ⟨rfl⟩ ?_)) <;> (try simp (maxSteps := 1000000) (disch := first | omega | (simp only [LN, numOk, verOk, rfP, rvP, rhP] <;> omega) | exact Ck.mk rfl) only [ee, VC, T, Nat.reduceMul, Nat.reduceAdd, Nat.reduceSub, Nat.reduceLT, Nat.reduceEqDiff, Nat.reduceLeDiff, Nat.reduceBEq, reduceCtorEq, Int.reduceToNat, ↓reduceIte, rfP, rvP, rhP]) <;> (try clear ee))
theorem hasPre_at (b : ByteArray) (a : Int) (t : ByteArray) (h0 : 0 ≤ a) (h1 : a ≤ b.size) : decide (t.size ≤ (b.extract a.toNat b.size).size ∧ (b.extract a.toNat b.size).extract 0 t.size = t) = hasAt b a t := by
  unfold hasAt
  rw [decide_eq_decide, ByteArray.size_extract, ByteArray.extract_extract]
  by_cases hs : a + t.size ≤ (b.size : Int)
  · rw [show min (a.toNat + t.size) b.size = a.toNat + t.size by omega]
    constructor
    · rintro ⟨_, h2⟩
      exact ⟨h0, hs, by simpa using h2⟩
    · rintro ⟨_, _, h2⟩
      exact ⟨by omega, by simpa using h2⟩
  · exact ⟨fun h' => absurd h'.1 (by omega), fun h' => absurd h'.2.1 hs⟩
theorem hasAt_no (b : ByteArray) (a : Int) (t : ByteArray) (h : ¬ (0 ≤ a ∧ a ≤ b.size)) : hasAt b a t = false := by
  unfold hasAt
  rw [decide_eq_false_iff_not]
  intro k; omega
theorem impl_hasAt (b : ByteArray) (a : Int) (t : ByteArray) : Fn Tryz.prog 227 [.str b, .int .i64 a, .str t] [] (.bool (hasAt b a t)) [] := by
  refine fn_x tok (n := 18) (rs := [.tmp 6]) Tryz.func227 (by decide) rfl rfl rfl rfl ?_
  refine Wr.go ?_
  repeat' ((first | (have ee := True.intro; refine Wr.mk ?_) | ((first | refine br_go ?_ ?_ | refine pick_go ?_ ?_) <;> intro ee f <;> (try simp only [BB] at f) <;> (try simp only [numOk, verOk] at f)) | (have ee := True.intro; first | refine call_x (impl_within _ _ _) rfl ⟨rfl⟩ ?_ | refine call_x (strings_HasPrefix _ _) rfl ⟨rfl⟩ ?_)) <;> (try simp (maxSteps := 1000000) (disch := first | omega | (simp only [LN, numOk, verOk, rfP, rvP, rhP] <;> omega) | exact Ck.mk rfl) only [ee, VC, T, Nat.reduceMul, Nat.reduceAdd, Nat.reduceSub, Nat.reduceLT, Nat.reduceEqDiff, Nat.reduceLeDiff, Nat.reduceBEq, reduceCtorEq, Int.reduceToNat, ↓reduceIte, rfP, rvP, rhP]) <;> (try clear ee))
  · rw [hasPre_at _ _ _ (by omega) (by omega)]
  · rw [hasAt_no _ _ _ f]
theorem spec_EndMark (v p : Int) : Fn Tryz.prog 151 [.int .i64 v, .int .i64 p] [] (.str (endMark v p)) [] := by
  have b1 := fixT_le p 8
  have b2 := fixT_le 4294967295 4
  have b3 := fixT_le (sumOf (fixT p 8 ++ fixT 4294967295 4)) 4
  refine fn_x tok (n := 25) (rs := [.tmp 4]) Tryz.func151 (by decide) rfl rfl rfl rfl ?_
  refine Wr.go ?_
  repeat' ((first | (have ee := True.intro; refine Wr.mk ?_) | ((first | refine br_go ?_ ?_ | refine pick_go ?_ ?_) <;> intro ee f <;> (try simp only [BB] at f) <;> (try simp only [numOk, verOk] at f)) | (have ee := True.intro; first | refine call_x (spec_l01In _ _ _) rfl ⟨rfl⟩ ?_ | refine call_x (spec_FixText _ _ (sumOf_lt _)) rfl ⟨rfl⟩ ?_ | refine call_x (spec_FixText _ _ (by omega)) rfl ⟨rfl⟩ ?_ | refine call_x (spec_SumOf _ (by rw [ByteArray.size_append]; omega)) rfl ⟨rfl⟩ ?_)) <;> (try simp (maxSteps := 1000000) (disch := first | omega | (simp only [LN, numOk, verOk, rfP, rvP, rhP] <;> omega) | exact Ck.mk rfl) only [ee, VC, T, Nat.reduceMul, Nat.reduceAdd, Nat.reduceSub, Nat.reduceLT, Nat.reduceEqDiff, Nat.reduceLeDiff, Nat.reduceBEq, reduceCtorEq, Int.reduceToNat, ↓reduceIte, rfP, rvP, rhP]) <;> (try clear ee))
  all_goals (unfold endMark; (repeat first | rw [if_pos (by (try simp only [verOk, numOk]); omega)] | rw [if_neg (by (try simp only [verOk, numOk]); omega)]); try rfl)
theorem impl_sized (p n : Int) (hp : p < 9223372036854775808) (hn : n < 9223372036854775808) : Fn Tryz.prog 253 [.int .i64 p, .int .i64 n] [] (.str (sizedT p n)) [] := by
  have b1 := fixT_le p 8
  have b2 := fixT_le n 4
  have b3 := fixT_le (sumOf (fixT p 8 ++ fixT n 4)) 4
  refine fn_x tok (n := 16) (rs := [.tmp 4]) Tryz.func253 (by decide) rfl rfl rfl rfl ?_
  refine Wr.go ?_
  repeat' ((first | (have ee := True.intro; refine Wr.mk ?_) | ((first | refine br_go ?_ ?_ | refine pick_go ?_ ?_) <;> intro ee f <;> (try simp only [BB] at f) <;> (try simp only [numOk, verOk] at f)) | (have ee := True.intro; first | refine call_x (impl_FixText _ _ (sumOf_lt _)) rfl ⟨rfl⟩ ?_ | refine call_x (impl_FixText _ _ (by omega)) rfl ⟨rfl⟩ ?_ | refine call_x (impl_SumOf _ (by rw [ByteArray.size_append]; omega)) rfl ⟨rfl⟩ ?_)) <;> (try simp (maxSteps := 1000000) (disch := first | omega | (simp only [LN, numOk, verOk, rfP, rvP, rhP] <;> omega) | exact Ck.mk rfl) only [ee, VC, T, Nat.reduceMul, Nat.reduceAdd, Nat.reduceSub, Nat.reduceLT, Nat.reduceEqDiff, Nat.reduceLeDiff, Nat.reduceBEq, reduceCtorEq, Int.reduceToNat, ↓reduceIte, rfP, rvP, rhP]) <;> (try clear ee))
  all_goals rfl
theorem impl_EndMark (v p : Int) : Fn Tryz.prog 226 [.int .i64 v, .int .i64 p] [] (.str (endMark v p)) [] := by
  refine fn_x tok (n := 19) (rs := [.tmp 4]) Tryz.func226 (by decide) rfl rfl rfl rfl ?_
  refine Wr.go ?_
  repeat' ((first | (have ee := True.intro; refine Wr.mk ?_) | ((first | refine br_go ?_ ?_ | refine pick_go ?_ ?_) <;> intro ee f <;> (try simp only [BB] at f) <;> (try simp only [numOk, verOk] at f)) | (have ee := True.intro; first | refine call_x (impl_isVersion _) rfl ⟨rfl⟩ ?_ | refine call_x (impl_isNumber _) rfl ⟨rfl⟩ ?_ | refine call_x (impl_sized _ _ (by omega) (by omega)) rfl ⟨rfl⟩ ?_)) <;> (try simp (maxSteps := 1000000) (disch := first | omega | (simp only [LN, numOk, verOk, rfP, rvP, rhP] <;> omega) | exact Ck.mk rfl) only [ee, VC, T, Nat.reduceMul, Nat.reduceAdd, Nat.reduceSub, Nat.reduceLT, Nat.reduceEqDiff, Nat.reduceLeDiff, Nat.reduceBEq, reduceCtorEq, Int.reduceToNat, ↓reduceIte, rfP, rvP, rhP]) <;> (try clear ee))
  all_goals (unfold endMark; (repeat first | rw [if_pos (by (try simp only [verOk, numOk]); omega)] | rw [if_neg (by (try simp only [verOk, numOk]); omega)]); try rfl)
theorem spec_FrameText (v p : Int) (r : ByteArray) (hr : r.size ≤ 140737488355328) : Fn Tryz.prog 104 [.int .i64 v, .int .i64 p, .str r] [] (.str (frameT v p r)) [] := by
  have b1 := fixT_le p 8
  have b2 := fixT_le r.size 4
  have b3 := fixT_le (sumOf (fixT p 8 ++ fixT r.size 4)) 4
  have b4 := fixT_le (sumOf r) 4
  have b5 := varT_le r.size
  refine fn_x tok (n := 49) (rs := [.tmp 6]) Tryz.func104 (by decide) rfl rfl rfl rfl ?_
  refine Wr.go ?_
  repeat' ((first | (have ee := True.intro; refine Wr.mk ?_) | ((first | refine br_go ?_ ?_ | refine pick_go ?_ ?_) <;> intro ee f <;> (try simp only [BB] at f) <;> (try simp only [numOk, verOk] at f)) | (have ee := True.intro; first | refine call_x (spec_l01In _ _ _) rfl ⟨rfl⟩ ?_ | refine call_x (spec_FixText _ _ (sumOf_lt _)) rfl ⟨rfl⟩ ?_ | refine call_x (spec_FixText _ _ (by omega)) rfl ⟨rfl⟩ ?_ | refine call_x (spec_SumOf _ (by first | omega | (rw [ByteArray.size_append]; omega))) rfl ⟨rfl⟩ ?_ | refine call_x (spec_VarText _) rfl ⟨rfl⟩ ?_)) <;> (try simp (maxSteps := 1000000) (disch := first | omega | (simp only [LN, numOk, verOk, rfP, rvP, rhP] <;> omega) | exact Ck.mk rfl) only [ee, VC, T, Nat.reduceMul, Nat.reduceAdd, Nat.reduceSub, Nat.reduceLT, Nat.reduceEqDiff, Nat.reduceLeDiff, Nat.reduceBEq, reduceCtorEq, Int.reduceToNat, ↓reduceIte, rfP, rvP, rhP]) <;> (try clear ee))
  all_goals (unfold frameT; (repeat first | rw [if_pos (by (try simp only [verOk, numOk]); omega)] | rw [if_neg (by (try simp only [verOk, numOk]); omega)]); try rfl)
theorem impl_FrameText (v p : Int) (r : ByteArray) (hr : r.size ≤ 140737488355328) : Fn Tryz.prog 229 [.int .i64 v, .int .i64 p, .str r] [] (.str (frameT v p r)) [] := by
  have b3 := sizedT_le p r.size
  have b4 := fixT_le (sumOf r) 4
  have b5 := varT_le r.size
  refine fn_x tok (n := 37) (rs := [.tmp 6]) Tryz.func229 (by decide) rfl rfl rfl rfl ?_
  refine Wr.go ?_
  repeat' ((first | (have ee := True.intro; refine Wr.mk ?_) | ((first | refine br_go ?_ ?_ | refine pick_go ?_ ?_) <;> intro ee f <;> (try simp only [BB] at f) <;> (try simp only [numOk, verOk] at f)) | (have ee := True.intro; first | refine call_x (impl_isVersion _) rfl ⟨rfl⟩ ?_ | refine call_x (impl_isNumber _) rfl ⟨rfl⟩ ?_ | refine call_x (impl_sized _ _ (by omega) (by omega)) rfl ⟨rfl⟩ ?_ | refine call_x (impl_FixText _ _ (sumOf_lt _)) rfl ⟨rfl⟩ ?_ | refine call_x (impl_SumOf _ (by omega)) rfl ⟨rfl⟩ ?_ | refine call_x (impl_VarText _) rfl ⟨rfl⟩ ?_)) <;> (try simp (maxSteps := 1000000) (disch := first | omega | (simp only [LN, numOk, verOk, rfP, rvP, rhP] <;> omega) | exact Ck.mk rfl) only [ee, VC, T, Nat.reduceMul, Nat.reduceAdd, Nat.reduceSub, Nat.reduceLT, Nat.reduceEqDiff, Nat.reduceLeDiff, Nat.reduceBEq, reduceCtorEq, Int.reduceToNat, ↓reduceIte, rfP, rvP, rhP]) <;> (try clear ee))
  all_goals (unfold frameT; (repeat first | rw [if_pos (by (try simp only [verOk, numOk]); omega)] | rw [if_neg (by (try simp only [verOk, numOk]); omega)]); try rfl)
theorem markAt_0 {v p : Int} {b : ByteArray} {a : Int} (h : (endMark v p).size = 0) : markAt v p b a = false := by unfold markAt; simp [h]
theorem markAt_1 {v p : Int} {b : ByteArray} {a : Int} (h : ¬ (endMark v p).size = 0) : markAt v p b a = hasAt b a (endMark v p) := by unfold markAt; simp [h]
theorem spec_MarkAt (v p : Int) (b : ByteArray) (hb : b.size ≤ 140737488355328) (a : Int) (ha0 : -9223372036854775808 ≤ a) (ha : a ≤ 9223372036854775807) : Fn Tryz.prog 145 [.int .i64 v, .int .i64 p, .str b, .int .i64 a] [] (.bool (markAt v p b a)) [] := by
  have hm := endMark_le v p
  refine fn_x tok (n := 35) (rs := [.tmp 8]) Tryz.func145 (by decide) rfl rfl rfl rfl ?_
  refine Wr.go ?_
  repeat' ((first | (have ee := True.intro; refine Wr.mk ?_) | ((first | refine br_go ?_ ?_ | refine pick_go ?_ ?_) <;> intro ee f <;> (try simp only [BB] at f) <;> (try simp only [numOk, verOk] at f)) | (have ee := True.intro; first | refine call_x (spec_EndMark _ _) rfl ⟨rfl⟩ ?_ | refine call_x (spec_l01In _ _ _) rfl ⟨rfl⟩ ?_)) <;> (try simp (maxSteps := 1000000) (disch := first | omega | (simp only [LN, numOk, verOk, rfP, rvP, rhP, wsmall] <;> omega) | exact Ck.mk rfl) only [ee, VC, T, Nat.reduceMul, Nat.reduceAdd, Nat.reduceSub, Nat.reduceLT, Nat.reduceEqDiff, Nat.reduceLeDiff, Nat.reduceBEq, reduceCtorEq, Int.reduceToNat, ↓reduceIte, rfP, rvP, rhP, wsmall]) <;> (try clear ee))
  · rw [markAt_0 f]
  · rename_i h
    rw [markAt_1 h]
    unfold hasAt
    congr 1
    rw [decide_eq_decide, show (a + ((endMark v p).size : Int)).toNat = a.toNat + (endMark v p).size by omega]
    exact ⟨fun h2 => ⟨by omega, by omega, h2⟩, fun h2 => h2.2.2⟩
  · rename_i h
    rw [markAt_1 h]
    unfold hasAt
    congr 1
    rw [eq_comm, decide_eq_false_iff_not]
    intro h2
    exact f ⟨h2.1, by omega⟩
theorem impl_MarkAt (v p : Int) (b : ByteArray) (_ : b.size ≤ 140737488355328) (a : Int) (_ : -9223372036854775808 ≤ a) (_ : a ≤ 9223372036854775807) : Fn Tryz.prog 190 [.int .i64 v, .int .i64 p, .str b, .int .i64 a] [] (.bool (markAt v p b a)) [] := by
  refine fn_x tok (n := 21) (rs := [.tmp 8]) Tryz.func190 (by decide) rfl rfl rfl rfl ?_
  refine Wr.go ?_
  repeat' ((first | (have ee := True.intro; refine Wr.mk ?_) | ((first | refine br_go ?_ ?_ | refine pick_go ?_ ?_) <;> intro ee f <;> (try simp only [BB] at f) <;> (try simp only [numOk, verOk] at f)) | (have ee := True.intro; first | refine call_x (impl_EndMark _ _) rfl ⟨rfl⟩ ?_ | refine call_x (impl_hasAt _ _ _) rfl ⟨rfl⟩ ?_)) <;> (try simp (maxSteps := 1000000) (disch := first | omega | (simp only [LN, numOk, verOk, rfP, rvP, rhP] <;> omega) | exact Ck.mk rfl) only [ee, VC, T, Nat.reduceMul, Nat.reduceAdd, Nat.reduceSub, Nat.reduceLT, Nat.reduceEqDiff, Nat.reduceLeDiff, Nat.reduceBEq, reduceCtorEq, Int.reduceToNat, ↓reduceIte, rfP, rvP, rhP]) <;> (try clear ee))
  · rw [markAt_0 f]
  · rw [markAt_1 f]
theorem rvI_no (b : ByteArray) (a : Nat) : ∀ (d i : Nat), (rvI b a d i).2.2 = false → rvI b a d i = (0, 0, false)
  | 0, i, _ => rfl
  | d + 1, i, h => by
    unfold rvI at h ⊢
    split at h
    · rename_i h1
      rw [if_pos h1]
      split at h
      · rename_i h2
        rw [if_pos h2]; exact rvI_no b a d (i + 1) h
      · rename_i h2
        rw [if_neg h2]
        split at h
        · rename_i h3; rw [if_pos h3]
        · cases h
    · rename_i h1; rw [if_neg h1]
theorem rv_any (b : ByteArray) (a : Int) : 0 ≤ (rv b a).1 ∧ (rv b a).1 ≤ 1000000000 ∧ 0 ≤ (rv b a).2.1 ∧ (rv b a).2.1 ≤ b.size := by
  cases h : (rv b a).2.2 with
  | true => have := rv_range b a h; omega
  | false =>
    have : rv b a = (0, 0, false) := by
      unfold rv at h ⊢
      split
      · rename_i h0; rw [if_pos h0] at h; exact rvI_no b _ _ _ h
      · rfl
    rw [this]; simp
def frP (x : ByteArray × Int × Bool) : PV := .tup [.str x.1, .int .i64 x.2.1, .bool x.2.2]
theorem rFrameQ_no {v p : Int} {b : ByteArray} {a : Int} {q : Int × Int × Bool} (h : ¬ ((verOk v ∧ numOk p ∧ 0 ≤ a ∧ a ≤ b.size) ∧ q.2.2 = true ∧ q.1 ≤ 60 ∧ q.2.1 + q.1 ≤ b.size ∧ hasAt b a (frameT v p (b.extract q.2.1.toNat (q.2.1 + q.1).toNat)) = true)) : rFrameQ v p b a q = (⟨#[]⟩, 0, false) := if_neg h
theorem rFrameQ_ok {v p : Int} {b : ByteArray} {a : Int} {q : Int × Int × Bool} (h : (verOk v ∧ numOk p ∧ 0 ≤ a ∧ a ≤ b.size) ∧ q.2.2 = true ∧ q.1 ≤ 60 ∧ q.2.1 + q.1 ≤ b.size ∧ hasAt b a (frameT v p (b.extract q.2.1.toNat (q.2.1 + q.1).toNat)) = true) : rFrameQ v p b a q = (b.extract q.2.1.toNat (q.2.1 + q.1).toNat, a + ((frameT v p (b.extract q.2.1.toNat (q.2.1 + q.1).toNat)).size : Int), true) := if_pos h
theorem rfix_ok4 {b : ByteArray} {a : Int} (h : (rfix b a 4).2 = true) : 0 ≤ a ∧ a ≤ (b.size : Int) - 4 := by
  unfold rfix at h
  split at h
  · rename_i h1; exact h1.2
  · cases h
theorem spec_ReadFrame (v p : Int) (b : ByteArray) (hb : b.size ≤ 140737488355328) (a : Int) (ha0 : -9223372036854775808 ≤ a) (ha : a ≤ 9223372036854775807) : Fn Tryz.prog 146 [.int .i64 v, .int .i64 p, .str b, .int .i64 a] [] (frP (rFrame v p b a)) [] := by
  have r1 := rfix_range b a 4
  have r2 := rv_any b a
  have r3 := @rfix_ok4 b a
  have hl := fun r => frameT_le v p r
  refine fn_x tok (n := 95) (rs := [.tmp 8, .tmp 9, .tmp 10]) Tryz.func146 (by decide) rfl rfl rfl rfl ?_
  refine Wr.go ?_
  repeat' ((first | (have ee := True.intro; refine Wr.mk ?_) | ((first | refine br_go ?_ ?_ | refine pick_go ?_ ?_) <;> intro ee f <;> (try simp only [BB] at f) <;> (try simp only [numOk, verOk] at f)) | (have ee := True.intro; first | refine call_x (spec_l01In _ _ _) rfl ⟨rfl⟩ ?_ | refine call_x (spec_ReadVar b hb _ ha0 ha) rfl ⟨rfl⟩ ?_ | refine call_x (spec_ReadFix b hb _ _ ha0 ha (by omega) (by omega)) rfl ⟨rfl⟩ ?_ | refine call_x (spec_FrameText _ _ _ (by rw [ByteArray.size_extract]; omega)) rfl ⟨rfl⟩ ?_)) <;> (try simp (maxSteps := 1000000) (disch := first | omega | (simp only [LN, numOk, verOk, rfP, rvP, rhP, wsmall, ByteArray.size_extract] <;> omega) | exact Ck.mk rfl) only [ee, VC, T, Nat.reduceMul, Nat.reduceAdd, Nat.reduceSub, Nat.reduceLT, Nat.reduceEqDiff, Nat.reduceLeDiff, Nat.reduceBEq, reduceCtorEq, Int.reduceToNat, ↓reduceIte, rfP, rvP, rhP, wsmall, ByteArray.size_extract]) <;> (try clear ee))
  all_goals (unfold rFrame fq; (first | rw [if_pos (by omega)] | rw [if_neg (by omega)] | skip); first
    | (rw [rFrameQ_ok ⟨⟨by simp only [verOk]; omega, by simp only [numOk]; omega, by omega, by omega⟩, by assumption, by (try simp only); omega, by (try simp only); omega, by
        rw [hasAt_iff]
        refine ⟨by omega, by (try simp only); omega, ?_⟩
        try simp only
        rw [← Int.toNat_natCast (frameT _ _ _).size, ← Int.toNat_add (by omega) (by omega)]
        exact f⟩]; rfl)
    | (rw [rFrameQ_no ?_]; rfl
       rintro ⟨⟨h1, h2, h3, h4⟩, h5, h6, h7, h8⟩
       simp only [verOk, numOk] at *
       first
         | omega
         | (exact absurd h5 (by rw [f]; decide))
         | (have h9 := rv_range _ _ h5; omega)
         | (have h9 := (hasAt_iff _ _ _).1 h8; omega)
         | (refine f ?_; rw [Int.toNat_add (by omega) (by omega), Int.toNat_natCast]; exact ((hasAt_iff _ _ _).1 h8).2.2)))
theorem frameT_pos' (v p : Int) (r : ByteArray) (hr : r.size ≤ 60) (h : ¬ (frameT v p r).size = 0) : verOk v ∧ numOk p := by
  by_cases hx : verOk v ∧ numOk p ∧ r.size ≤ 60
  · exact ⟨hx.1, hx.2.1⟩
  · exfalso
    apply h
    unfold frameT
    rw [if_neg hx]
    rfl
theorem impl_ReadFrame (v p : Int) (b : ByteArray) (hb : b.size ≤ 140737488355328) (a : Int) (ha0 : -9223372036854775808 ≤ a) (ha : a ≤ 9223372036854775807) : Fn Tryz.prog 191 [.int .i64 v, .int .i64 p, .str b, .int .i64 a] [] (frP (rFrame v p b a)) [] := by
  have r1 := rfix_range b a 4
  have r2 := rv_any b a
  have hl := fun r => frameT_le v p r
  have hq : frP (rFrameQ v p b a (fq v b a)) = frP (rFrame v p b a) := rfl
  rw [← hq]
  have no : ∀ q : Int × Int × Bool, (verOk v ∧ numOk p ∧ 0 ≤ a ∧ a ≤ b.size → q.2.2 = true → q.1 ≤ 60 → q.2.1 + q.1 ≤ b.size → hasAt b a (frameT v p (b.extract q.2.1.toNat (q.2.1 + q.1).toNat)) = true → False) → PV.tup [.str ⟨#[]⟩, .int .i64 0, .bool false] = frP (rFrameQ v p b a q) := fun q h => by
    rw [rFrameQ_no fun k => h k.1 k.2.1 k.2.2.1 k.2.2.2.1 k.2.2.2.2]; rfl
  have emp : ∀ q : Int × Int × Bool, q.1 ≤ 60 → 0 ≤ q.1 → 0 ≤ q.2.1 → q.2.1 + q.1 ≤ b.size → (frameT v p (b.extract q.2.1.toNat (q.2.1 + q.1).toNat)).size = 0 → PV.tup [.str ⟨#[]⟩, .int .i64 0, .bool false] = frP (rFrameQ v p b a q) := fun q h1 h2 h3 h4 h5 => no q fun k _ _ _ _ => by
    have := frameT_pos v p (b.extract q.2.1.toNat (q.2.1 + q.1).toNat) k.1 k.2.1 (by rw [ByteArray.size_extract]; omega)
    omega
  have ok : ∀ q : Int × Int × Bool, q.2.2 = true → 0 ≤ a → a ≤ b.size → 0 ≤ q.1 → q.1 ≤ 60 → 0 ≤ q.2.1 → q.2.1 + q.1 ≤ b.size → ¬ (frameT v p (b.extract q.2.1.toNat (q.2.1 + q.1).toNat)).size = 0 → hasAt b a (frameT v p (b.extract q.2.1.toNat (q.2.1 + q.1).toNat)) = true →
      PV.tup [.str (b.extract q.2.1.toNat (q.2.1 + q.1).toNat), .int .i64 (a + ((frameT v p (b.extract q.2.1.toNat (q.2.1 + q.1).toNat)).size : Int)), .bool true] = frP (rFrameQ v p b a q) := fun q h1 h2 h3 h4 h5 h6 h7 h8 ht => by
    obtain ⟨v1, p1⟩ := frameT_pos' v p _ (by rw [ByteArray.size_extract]; omega) h8
    rw [rFrameQ_ok ⟨⟨v1, p1, h2, h3⟩, h1, h5, h7, ht⟩]; rfl
  by_cases hv : v = 2
  · have hf : fq v b a = ((rfix b a 4).1, a + 8, (rfix b a 4).2) := if_pos hv
    rw [hf]
    cases hr : (rfix b a 4).2 with
    | true =>
      have r3 := rfix_ok4 hr
      have hl1 := frameT_le v p (b.extract (a + 8).toNat (a + 8 + (rfix b a 4).1).toNat)
      refine fn_x tok (n := 77) (rs := [.tmp 8, .tmp 9, .tmp 10]) Tryz.func191 (by decide) rfl rfl rfl rfl ?_
      refine Wr.go ?_
      repeat' ((first | (have ee := True.intro; refine Wr.mk ?_) | ((first | refine br_go ?_ ?_ | refine pick_go ?_ ?_) <;> intro ee f <;> (try simp only [BB] at f) <;> (try simp only [numOk, verOk] at f)) | (have ee := True.intro; first | refine call_x (impl_ReadFix b hb _ _ ha0 ha (by omega) (by omega)) rfl ⟨rfl⟩ ?_ | refine call_x (impl_FrameText _ _ _ (by rw [ByteArray.size_extract]; omega)) rfl ⟨rfl⟩ ?_ | refine call_x (impl_hasAt _ _ _) rfl ⟨rfl⟩ ?_)) <;> (try simp (maxSteps := 1000000) (disch := first | omega | (simp only [LN, numOk, verOk, rfP, rvP, rhP, wsmall, ByteArray.size_extract, hr] <;> omega) | exact Ck.mk rfl) only [ee, VC, T, Nat.reduceMul, Nat.reduceAdd, Nat.reduceSub, Nat.reduceLT, Nat.reduceEqDiff, Nat.reduceLeDiff, Nat.reduceBEq, reduceCtorEq, Int.reduceToNat, ↓reduceIte, rfP, rvP, rhP, wsmall, ByteArray.size_extract, hr]) <;> (try clear ee))
      all_goals first
        | (refine no ((rfix b a 4).1, a + 8, true) fun _ _ h1 h2 _ => ?_; (try simp only at h1 h2); omega)
        | (refine emp ((rfix b a 4).1, a + 8, true) ?_ ?_ ?_ ?_ f <;> (try simp only) <;> omega)
        | exact ok ((rfix b a 4).1, a + 8, true) (by first | rfl | exact hr) (by omega) (by omega) (by (try simp only); omega) (by (try simp only); omega) (by (try simp only); omega) (by (try simp only); omega) (by assumption) f
        | exact no ((rfix b a 4).1, a + 8, true) fun _ _ _ _ h => Bool.noConfusion (f.symm.trans h)
    | false =>
      refine fn_x tok (n := 77) (rs := [.tmp 8, .tmp 9, .tmp 10]) Tryz.func191 (by decide) rfl rfl rfl rfl ?_
      refine Wr.go ?_
      repeat' ((first | (have ee := True.intro; refine Wr.mk ?_) | ((first | refine br_go ?_ ?_ | refine pick_go ?_ ?_) <;> intro ee f <;> (try simp only [BB] at f) <;> (try simp only [numOk, verOk] at f)) | (have ee := True.intro; first | refine call_x (impl_ReadFix b hb _ _ ha0 ha (by omega) (by omega)) rfl ⟨rfl⟩ ?_)) <;> (try simp (maxSteps := 1000000) (disch := first | omega | (simp only [LN, numOk, verOk, rfP, rvP, rhP, hr] <;> omega) | exact Ck.mk rfl) only [ee, VC, T, Nat.reduceMul, Nat.reduceAdd, Nat.reduceSub, Nat.reduceLT, Nat.reduceEqDiff, Nat.reduceLeDiff, Nat.reduceBEq, reduceCtorEq, Int.reduceToNat, ↓reduceIte, rfP, rvP, rhP, hr]) <;> (try clear ee))
      rw [rFrameQ_no (fun k => Bool.noConfusion k.2.1)]; rfl
  · have hf : fq v b a = rv b a := if_neg hv
    rw [hf]
    cases hr : (rv b a).2.2 with
    | true =>
      have r3 := rv_range b a hr
      have hl1 := frameT_le v p (b.extract (rv b a).2.1.toNat ((rv b a).2.1 + (rv b a).1).toNat)
      refine fn_x tok (n := 77) (rs := [.tmp 8, .tmp 9, .tmp 10]) Tryz.func191 (by decide) rfl rfl rfl rfl ?_
      refine Wr.go ?_
      repeat' ((first | (have ee := True.intro; refine Wr.mk ?_) | ((first | refine br_go ?_ ?_ | refine pick_go ?_ ?_) <;> intro ee f <;> (try simp only [BB] at f) <;> (try simp only [numOk, verOk] at f)) | (have ee := True.intro; first | refine call_x (impl_ReadVar b hb _ ha0 ha) rfl ⟨rfl⟩ ?_ | refine call_x (impl_FrameText _ _ _ (by rw [ByteArray.size_extract]; omega)) rfl ⟨rfl⟩ ?_ | refine call_x (impl_hasAt _ _ _) rfl ⟨rfl⟩ ?_)) <;> (try simp (maxSteps := 1000000) (disch := first | omega | (simp only [LN, numOk, verOk, rfP, rvP, rhP, wsmall, ByteArray.size_extract, hr] <;> omega) | exact Ck.mk rfl) only [ee, VC, T, Nat.reduceMul, Nat.reduceAdd, Nat.reduceSub, Nat.reduceLT, Nat.reduceEqDiff, Nat.reduceLeDiff, Nat.reduceBEq, reduceCtorEq, Int.reduceToNat, ↓reduceIte, rfP, rvP, rhP, wsmall, ByteArray.size_extract, hr]) <;> (try clear ee))
      all_goals first
        | (refine no (rv b a) fun _ _ h1 h2 _ => ?_; (try simp only at h1 h2); omega)
        | (refine emp (rv b a) ?_ ?_ ?_ ?_ f <;> (try simp only) <;> omega)
        | exact ok (rv b a) (by first | rfl | exact hr) (by omega) (by omega) (by (try simp only); omega) (by (try simp only); omega) (by (try simp only); omega) (by (try simp only); omega) (by assumption) f
        | exact no (rv b a) fun _ _ _ _ h => Bool.noConfusion (f.symm.trans h)
    | false =>
      refine fn_x tok (n := 77) (rs := [.tmp 8, .tmp 9, .tmp 10]) Tryz.func191 (by decide) rfl rfl rfl rfl ?_
      refine Wr.go ?_
      repeat' ((first | (have ee := True.intro; refine Wr.mk ?_) | ((first | refine br_go ?_ ?_ | refine pick_go ?_ ?_) <;> intro ee f <;> (try simp only [BB] at f) <;> (try simp only [numOk, verOk] at f)) | (have ee := True.intro; first | refine call_x (impl_ReadVar b hb _ ha0 ha) rfl ⟨rfl⟩ ?_)) <;> (try simp (maxSteps := 1000000) (disch := first | omega | (simp only [LN, numOk, verOk, rfP, rvP, rhP, hr] <;> omega) | exact Ck.mk rfl) only [ee, VC, T, Nat.reduceMul, Nat.reduceAdd, Nat.reduceSub, Nat.reduceLT, Nat.reduceEqDiff, Nat.reduceLeDiff, Nat.reduceBEq, reduceCtorEq, Int.reduceToNat, ↓reduceIte, rfP, rvP, rhP, hr]) <;> (try clear ee))
      rw [rFrameQ_no (fun k => Bool.noConfusion (hr.symm.trans k.2.1))]; rfl
end Go.Pv

/- What functions of the program and of the reference do, in plain values. -/
namespace Go.Pv
open Go.Proofs Go.Mth
set_option linter.unusedSimpArgs false
set_option linter.unusedVariables false
set_option maxHeartbeats 4000000
set_option maxRecDepth 4000

/-! ### trailers -/
theorem trailGo_step (acc : ByteArray) (l : List Int) (i : Nat) (h : i < l.length) : trailGo acc (l.drop i) = if (fixT (l.getD i default) 4).size = 0 then ⟨#[]⟩ else trailGo (acc ++ fixT (l.getD i default) 4) (l.drop (i + 1)) := by
  rw [List.drop_eq_getElem_cons h, List.getD_eq_getElem?_getD, List.getElem?_eq_getElem h]; rfl
theorem spec_TrailerText (a b c d : Int) (hm : ∀ x ∈ [a, b, c, d], x < 9223372036854775808) : Fn Tryz.prog 154 [.int .i64 a, .int .i64 b, .int .i64 c, .int .i64 d] [] (.str (trailT a b c d)) [] := by
  refine fn_x tok (n := 34) (rs := [.tmp 8]) Tryz.func154 (by decide) rfl rfl rfl rfl ?_
  refine Wr.go ?_
  repeat' ((first | (have ee := True.intro; refine Wr.mk ?_) | ((first | refine br_go ?_ ?_ | refine pick_go ?_ ?_) <;> intro ee f <;> (try simp only [BB] at f) <;> (try simp only [numOk, verOk] at f))) <;> (try simp (maxSteps := 1000000) (disch := first | omega | (simp only [LN, numOk, verOk, rfP, rvP, rhP, frP] <;> omega) | exact Ck.mk rfl) only [ee, VC, T, Nat.reduceMul, Nat.reduceAdd, Nat.reduceSub, Nat.reduceLT, Nat.reduceEqDiff, Nat.reduceLeDiff, Nat.reduceBEq, reduceCtorEq, Int.reduceToNat, ↓reduceIte, rfP, rvP, rhP, frP]) <;> (try clear ee))
  generalize hq : trailT a b c d = q
  generalize hl : [a, b, c, d] = l at hm
  have ll : l.length = 4 := by rw [← hl]; rfl
  refine lp_go (fun x : Nat × ByteArray => ⟨34, [(9, .str x.2), (10, .row 1152 4), (11, .int .i64 x.1)], [(1152, .row ⟨1, 0⟩ (l.map (.int .i64)))]⟩) (fun x => x.1 ≤ 4 ∧ x.2.size ≤ 10 * x.1 ∧ q = trailGo x.2 (l.drop x.1)) (fun x => 4 - x.1) (0, ⟨#[]⟩) ?_ ?_ ?_
  · (simp (disch := first | omega | (simp only [LN, numOk, verOk] <;> omega) | exact Ck.mk rfl) only [SB, EQ, Nat.reduceMul, Nat.reduceAdd, Nat.reduceSub, Nat.reduceLT, Nat.reduceEqDiff, Nat.reduceLeDiff, Nat.reduceBEq, reduceCtorEq, Int.reduceToNat, ↓reduceIte]; try omega); rw [← hl]; rfl
  · exact ⟨by simp only; omega, Nat.le_refl _, by rw [← hq, ← hl]; rfl⟩
  · rintro ⟨i, s⟩ ⟨h1, h2, h3⟩ N hN
    simp only at h1 h2 h3
    have b1 := fixT_le (l.getD i default) 4
    have hm' : i < 4 → l.getD i default < 9223372036854775808 := fun h => hm _ (by rw [List.getD_eq_getElem?_getD, List.getElem?_eq_getElem (by omega)]; exact List.getElem_mem _)
    have hs := trailGo_step s l i
    refine Wr.go ?_
    repeat' ((first | (have ee := True.intro; refine Wr.mk ?_) | ((first | refine br_go ?_ ?_ | refine pick_go ?_ ?_) <;> intro ee f <;> (try simp only [BB] at f) <;> (try simp only [numOk, verOk] at f)) | (have ee := True.intro; first | refine call_x (spec_FixText _ _ (hm' (by omega))) rfl ⟨rfl⟩ ?_)) <;> (try simp (maxSteps := 1000000) (disch := first | omega | (simp only [LN, numOk, verOk, rfP, rvP, rhP, frP] <;> omega) | exact Ck.mk rfl) only [ee, VC, T, Nat.reduceMul, Nat.reduceAdd, Nat.reduceSub, Nat.reduceLT, Nat.reduceEqDiff, Nat.reduceLeDiff, Nat.reduceBEq, reduceCtorEq, Int.reduceToNat, ↓reduceIte, rfP, rvP, rhP, frP]) <;> (try clear ee))
    · rw [h3, hs (by omega), if_pos f]
    · refine hN (i + 1, s ++ fixT (l.getD i default) 4) _ ⟨by simp only; omega, by simp only [ByteArray.size_append]; omega, ?_⟩ (by simp only; omega) ?_
      · rw [h3, hs (by omega), if_neg f]
      · (simp (disch := first | omega | (simp only [LN, numOk, verOk] <;> omega) | exact Ck.mk rfl) only [SB, EQ, Nat.reduceMul, Nat.reduceAdd, Nat.reduceSub, Nat.reduceLT, Nat.reduceEqDiff, Nat.reduceLeDiff, Nat.reduceBEq, reduceCtorEq, Int.reduceToNat, ↓reduceIte]; try omega)
    · obtain rfl : i = 4 := by omega
      rw [h3, List.drop_eq_nil_of_le (by omega)]; rfl
end Go.Pv

/- What functions of the program and of the reference do, in plain values. -/
namespace Go.Pv
open Go.Proofs Go.Mth
set_option linter.unusedSimpArgs false
set_option linter.unusedVariables false
set_option maxHeartbeats 4000000
set_option maxRecDepth 4000

/-! ### places -/
def plP (p : Int × Int) : PV := .agg [.int .i64 p.1, .int .i64 p.2]
theorem plc_step (s : Int) (os : List Int) (i : Nat) (h : i < os.length) : plc (fun a b => (a, b)) s (os.drop i) i = if (i : Int) % s = 0 then ((i : Int), os.getD i default) :: plc (fun a b => (a, b)) s (os.drop (i + 1)) (i + 1) else plc (fun a b => (a, b)) s (os.drop (i + 1)) (i + 1) := by
  rw [List.drop_eq_getElem_cons h, List.getD_eq_getElem?_getD, List.getElem?_eq_getElem h]; rfl
theorem spec_PlacesOf (s : Int) (os : List Int) (hl : os.length ≤ 1073741824) : Fn Tryz.prog 153 [.int .i64 s, .far (os.map (.int .i64))] [] (.far ((placesP s os).map plP)) [] := by
  refine fn_x tok (n := 32) (rs := [.tmp 4]) Tryz.func153 (by decide) rfl rfl rfl rfl ?_
  refine Wr.go ?_
  repeat' ((first | (have ee := True.intro; refine Wr.mk ?_) | ((first | refine br_go ?_ ?_ | refine pick_go ?_ ?_) <;> intro ee f <;> (try simp only [BB] at f) <;> (try simp only [numOk, verOk] at f))) <;> (try simp (maxSteps := 1000000) (disch := first | omega | (simp only [LN, numOk, verOk, rfP, rvP, rhP, frP] <;> omega) | exact Ck.mk rfl) only [ee, VC, T, Nat.reduceMul, Nat.reduceAdd, Nat.reduceSub, Nat.reduceLT, Nat.reduceEqDiff, Nat.reduceLeDiff, Nat.reduceBEq, reduceCtorEq, Int.reduceToNat, ↓reduceIte, rfP, rvP, rhP, frP]) <;> (try clear ee))
  refine lp_go (fun x : Nat × List (Int × Int) => ⟨32, [(0, .int .i64 s), (1, .far (os.map (.int .i64))), (5, .row 512 x.2.length), (6, .int .i64 x.1)], [(512, .row ⟨2, 0⟩ (x.2.map plP))]⟩) (fun x => x.1 ≤ os.length ∧ x.2.length ≤ x.1 ∧ (1 ≤ s → placesP s os = x.2 ++ plc (fun a b => (a, b)) s (os.drop x.1) x.1) ∧ (s < 1 → x.2 = [])) (fun x => os.length - x.1) (0, []) ?_ ?_ ?_
  · (simp (disch := first | omega | (simp only [LN, numOk, verOk] <;> omega) | exact Ck.mk rfl) only [SB, EQ, Nat.reduceMul, Nat.reduceAdd, Nat.reduceSub, Nat.reduceLT, Nat.reduceEqDiff, Nat.reduceLeDiff, Nat.reduceBEq, reduceCtorEq, Int.reduceToNat, ↓reduceIte]; try omega)
  · refine ⟨Nat.zero_le _, Nat.le_refl _, fun h => ?_, fun _ => rfl⟩
    unfold placesP placesOf; rw [if_neg (by omega)]; rfl
  · rintro ⟨i, l⟩ ⟨h1, h2, h3, h4⟩ N hN
    simp only at h1 h2 h3 h4
    have ht : (i : Int).tmod s = (i : Int) % s := Int.tmod_eq_emod_of_nonneg (by omega)
    have hs := plc_step s os i
    refine Wr.go ?_
    repeat' ((first | (have ee := True.intro; refine Wr.mk ?_) | ((first | refine br_go ?_ ?_ | refine pick_go ?_ ?_) <;> intro ee f <;> (try simp only [BB] at f) <;> (try simp only [numOk, verOk] at f))) <;> (try simp (maxSteps := 1000000) (disch := first | omega | (simp only [LN, numOk, verOk, rfP, rvP, rhP, frP, ht] <;> omega) | exact Ck.mk rfl) only [ee, VC, T, Nat.reduceMul, Nat.reduceAdd, Nat.reduceSub, Nat.reduceLT, Nat.reduceEqDiff, Nat.reduceLeDiff, Nat.reduceBEq, reduceCtorEq, Int.reduceToNat, ↓reduceIte, rfP, rvP, rhP, frP, ht]) <;> (try clear ee))
    · refine hN (i + 1, l ++ [((i : Int), os.getD i default)]) _ ⟨by simp only; omega, by simp only [List.length_append, List.length_singleton]; omega, fun h => ?_, fun h => by omega⟩ (by simp only; omega) ?_
      · rw [h3 h, hs (by omega), if_pos f]; simp
      · (simp (disch := first | omega | (simp only [LN, numOk, verOk] <;> omega) | exact Ck.mk rfl) only [SB, EQ, Nat.reduceMul, Nat.reduceAdd, Nat.reduceSub, Nat.reduceLT, Nat.reduceEqDiff, Nat.reduceLeDiff, Nat.reduceBEq, reduceCtorEq, Int.reduceToNat, ↓reduceIte]; try omega)
        rw [List.map_append]; rfl
    · refine hN (i + 1, l) _ ⟨by simp only; omega, by simp only; omega, fun h => ?_, fun h => by omega⟩ (by simp only; omega) ?_
      · rw [h3 h, hs (by omega), if_neg f]
      · (simp (disch := first | omega | (simp only [LN, numOk, verOk] <;> omega) | exact Ck.mk rfl) only [SB, EQ, Nat.reduceMul, Nat.reduceAdd, Nat.reduceSub, Nat.reduceLT, Nat.reduceEqDiff, Nat.reduceLeDiff, Nat.reduceBEq, reduceCtorEq, Int.reduceToNat, ↓reduceIte]; try omega)
    · rw [h4 f]; unfold placesP placesOf; rw [if_pos f]
    · by_cases hs1 : s < 1
      · rw [h4 hs1]; unfold placesP placesOf; rw [if_pos hs1]
      · rw [h3 (by omega), List.drop_eq_nil_of_le (by omega)]; unfold plc; rw [List.append_nil]
theorem spec_PlacesOf2 (s : Int) (os : List Int) (hs : s ≤ 9223372036854775807) (hl : os.length ≤ 1073741824) : Fn Tryz.prog 153 [.int .i64 s, .far (os.map (.int .i64))] [] (.far ((placesP s os).map plP)) [] := spec_PlacesOf s os hl
theorem spec_l11Less (a b : Int) (ha : -9223372036854775808 ≤ a) (ha2 : a ≤ 9223372036854775807) (hb : 0 ≤ b) (hb : b ≤ 9223372036854775807) : Fn Tryz.prog 194 [.int .i64 a, .int .i64 b] [] (.int .i64 (if b ≤ a then a - b else -1)) [] := by
  generalize hq : (if b ≤ a then a - b else -1) = q
  refine fn_x tok (n := 17) (rs := [.tmp 4]) Tryz.func194 (by decide) rfl rfl rfl rfl ?_
  refine Wr.go ?_
  repeat' ((first | (have ee := True.intro; refine Wr.mk ?_) | ((first | refine br_go ?_ ?_ | refine pick_go ?_ ?_) <;> intro ee f <;> (try simp only [BB] at f) <;> (try simp only [numOk, verOk] at f))) <;> (try simp (maxSteps := 1000000) (disch := first | omega | (simp only [LN, numOk, verOk, rfP, rvP, rhP, frP] <;> omega) | exact Ck.mk rfl) only [ee, VC, T, Nat.reduceMul, Nat.reduceAdd, Nat.reduceSub, Nat.reduceLT, Nat.reduceEqDiff, Nat.reduceLeDiff, Nat.reduceBEq, reduceCtorEq, Int.reduceToNat, ↓reduceIte, rfP, rvP, rhP, frP]) <;> (try clear ee))
  · rw [← hq, if_neg (by omega)]
  · rw [← hq, if_pos (by omega)]
theorem upT_no {a b : Int} (h : ¬ (b ≤ a ∧ a - b ≤ 1000000000)) : upT a b = ⟨#[]⟩ := if_neg h
theorem upT_ok {a b : Int} (h : b ≤ a ∧ a - b ≤ 1000000000) : upT a b = varT (a - b) := if_pos h
theorem varT_if (a b : Int) : varT (if b ≤ a then a - b else -1) = upT a b := by
  by_cases h : b ≤ a
  · rw [if_pos h]
    by_cases h2 : a - b ≤ 1000000000
    · rw [upT_ok ⟨h, h2⟩]
    · rw [upT_no fun x => h2 x.2]; unfold varT; rw [if_pos (.inr (by omega))]
  · rw [if_neg h, upT_no fun x => h x.1]; rfl
theorem plGo_step (ps : List (Int × Int)) (i : Nat) (h : i < ps.length) (o : ByteArray) (lc la : Int) : plGo o lc la (ps.drop i) = if (upT (ps.getD i default).1 lc).size = 0 ∨ (upT (ps.getD i default).2 la).size = 0 then ⟨#[]⟩ else plGo (o ++ upT (ps.getD i default).1 lc ++ upT (ps.getD i default).2 la) (ps.getD i default).1 (ps.getD i default).2 (ps.drop (i + 1)) := by
  rw [List.drop_eq_getElem_cons h, List.getD_eq_getElem?_getD, List.getElem?_eq_getElem h]; rfl
def i64 (x : Int) : Prop := -9223372036854775808 ≤ x ∧ x ≤ 9223372036854775807
theorem spec_PlacesText (ps : List (Int × Int)) (hl : ps.length ≤ 1073741824) (hp : ∀ p ∈ ps, i64 p.1 ∧ i64 p.2) : Fn Tryz.prog 152 [.far (ps.map plP)] [] (.str (placesT ps)) [] := by
  have b1 := varT_le ps.length
  refine fn_x tok (n := 48) (rs := [.tmp 2]) Tryz.func152 (by decide) rfl rfl rfl rfl ?_
  refine Wr.go ?_
  repeat' ((first | (have ee := True.intro; refine Wr.mk ?_) | ((first | refine br_go ?_ ?_ | refine pick_go ?_ ?_) <;> intro ee f <;> (try simp only [BB] at f) <;> (try simp only [numOk, verOk] at f)) | (have ee := True.intro; first | refine call_x (spec_VarText _) rfl ⟨rfl⟩ ?_)) <;> (try simp (maxSteps := 1000000) (disch := first | omega | (simp only [LN, numOk, verOk, rfP, rvP, rhP, frP] <;> omega) | exact Ck.mk rfl) only [ee, VC, T, Nat.reduceMul, Nat.reduceAdd, Nat.reduceSub, Nat.reduceLT, Nat.reduceEqDiff, Nat.reduceLeDiff, Nat.reduceBEq, reduceCtorEq, Int.reduceToNat, ↓reduceIte, rfP, rvP, rhP, frP]) <;> (try clear ee))
  refine lp_go (fun x : Nat × ByteArray × Int × Int => ⟨48, [(0, .far (ps.map plP)), (3, .str x.2.1), (4, .ref 320 0), (5, .int .i64 x.1)], [(320, .box 187 [.int .i64 x.2.2.1, .int .i64 x.2.2.2])]⟩) (fun x => x.1 ≤ ps.length ∧ x.2.1.size ≤ 5 + 10 * x.1 ∧ (0 ≤ x.2.2.1 ∧ x.2.2.1 ≤ 9223372036854775807) ∧ (0 ≤ x.2.2.2 ∧ x.2.2.2 ≤ 9223372036854775807) ∧ placesT ps = plGo x.2.1 x.2.2.1 x.2.2.2 (ps.drop x.1)) (fun x => ps.length - x.1) (0, varT ps.length, 0, 0) ?_ ?_ ?_
  · (simp (disch := first | omega | (simp only [LN, numOk, verOk] <;> omega) | exact Ck.mk rfl) only [SB, EQ, Nat.reduceMul, Nat.reduceAdd, Nat.reduceSub, Nat.reduceLT, Nat.reduceEqDiff, Nat.reduceLeDiff, Nat.reduceBEq, reduceCtorEq, Int.reduceToNat, ↓reduceIte]; try omega)
  · exact ⟨Nat.zero_le _, by simp only; omega, by simp, by simp, rfl⟩
  · rintro ⟨i, o, lc, la⟩ ⟨h1, h2, h3, h4, h5⟩ N hN
    simp only at h1 h2 h3 h4 h5
    have hs := plGo_step ps i
    have hm : i < ps.length → i64 (ps.getD i default).1 ∧ i64 (ps.getD i default).2 := fun h => hp _ (getD_mem _ _ h)
    have s1 := stepT_le (ps.getD i default).1 lc
    have s2 := stepT_le (ps.getD i default).2 la
    have hg : i < ps.length → (ps.map plP).getD i .junk = .agg [.int .i64 (ps.getD i default).1, .int .i64 (ps.getD i default).2] := fun h => by
      rw [List.getD_eq_getElem?_getD, List.getElem?_map, List.getElem?_eq_getElem h, List.getD_eq_getElem?_getD, List.getElem?_eq_getElem h]; rfl
    refine Wr.go ?_
    repeat' ((first | (have ee := True.intro; refine Wr.mk ?_) | ((first | refine br_go ?_ ?_ | refine pick_go ?_ ?_) <;> intro ee f <;> (try simp only [BB] at f) <;> (try simp only [numOk, verOk] at f)) | (have ee := True.intro; first | refine call_x (spec_VarText _) rfl ⟨rfl⟩ ?_ | refine call_x (spec_l11Less _ _ (hm (by omega)).1.1 (hm (by omega)).1.2 h3.1 h3.2) rfl ⟨rfl⟩ ?_ | refine call_x (spec_l11Less _ _ (hm (by omega)).2.1 (hm (by omega)).2.2 h4.1 h4.2) rfl ⟨rfl⟩ ?_)) <;> (try simp (maxSteps := 1000000) (disch := first | omega | (simp only [LN, numOk, verOk, rfP, rvP, rhP, frP, varT_if, hg] <;> omega) | exact Ck.mk rfl) only [ee, VC, T, Nat.reduceMul, Nat.reduceAdd, Nat.reduceSub, Nat.reduceLT, Nat.reduceEqDiff, Nat.reduceLeDiff, Nat.reduceBEq, reduceCtorEq, Int.reduceToNat, ↓reduceIte, rfP, rvP, rhP, frP, varT_if, hg]) <;> (try clear ee))
    · rw [h5, hs (by omega), if_pos (.inl f)]
    · rw [h5, hs (by omega), if_pos (.inr f)]
    · have u : ∀ a b : Int, ¬ (upT a b).size = 0 → b ≤ a := fun a b h => Decidable.byContradiction fun q => h (by rw [upT_no fun x => q x.1]; rfl)
      have u1 := u (ps.getD i default).1 lc (by assumption)
      have u2 := u _ _ f
      have m := hm (by omega)
      unfold i64 at m
      refine hN (i + 1, o ++ upT (ps.getD i default).1 lc ++ upT (ps.getD i default).2 la, (ps.getD i default).1, (ps.getD i default).2) _ ⟨by simp only; omega, by simp only [ByteArray.size_append]; omega, ⟨Int.le_trans h3.1 u1, m.1.2⟩, ⟨Int.le_trans h4.1 u2, m.2.2⟩, ?_⟩ (by simp only; omega) ?_
      · rw [h5, hs (by omega), if_neg (by rintro (q | q) <;> simp_all)]
      · (simp (disch := first | omega | (simp only [LN, numOk, verOk] <;> omega) | exact Ck.mk rfl) only [SB, EQ, Nat.reduceMul, Nat.reduceAdd, Nat.reduceSub, Nat.reduceLT, Nat.reduceEqDiff, Nat.reduceLeDiff, Nat.reduceBEq, reduceCtorEq, Int.reduceToNat, ↓reduceIte]; try omega)
    · rw [h5, List.drop_eq_nil_of_le (by omega)]; rfl
end Go.Pv

/- What functions of the program and of the reference do, in plain values. -/
namespace Go.Pv
open Go.Proofs Go.Mth
set_option linter.unusedSimpArgs false
set_option linter.unusedVariables false
set_option maxHeartbeats 4000000
set_option maxRecDepth 4000

/-! ### the laws' own functions: slices of numbers and of texts -/
theorem eq_step {α : Type} [Inhabited α] (xs ys : List α) (i : Nat) (hl : xs.length = ys.length) (hi : i < xs.length) (h : xs.take i = ys.take i) (he : xs.getD i default = ys.getD i default) : xs.take (i + 1) = ys.take (i + 1) := by
  rw [List.take_succ_eq_append_getElem hi, List.take_succ_eq_append_getElem (by omega), h]
  rw [List.getD_eq_getElem?_getD, List.getD_eq_getElem?_getD, List.getElem?_eq_getElem hi, List.getElem?_eq_getElem (by omega : i < ys.length)] at he
  exact congrArg (fun x => ys.take i ++ [x]) he
theorem laws_sameStr (xs ys : List ByteArray) (hx : xs.length ≤ 4611686018427387904) : Fn Tryz.prog 40 [.far (xs.map .str), .far (ys.map .str)] [] (.bool (decide (xs = ys))) [] := by
  refine fn_x tok (n := 26) (rs := [.tmp 4]) Tryz.func40 (by decide) rfl rfl rfl rfl ?_
  refine Wr.go ?_
  repeat' ((first | (have ee := True.intro; refine Wr.mk ?_) | ((first | refine br_go ?_ ?_ | refine pick_go ?_ ?_) <;> intro ee f <;> (try simp only [BB] at f) <;> (try simp only [numOk, verOk] at f))) <;> (try simp (maxSteps := 1000000) (disch := first | omega | (simp only [LN, numOk, verOk] <;> omega) | exact Ck.mk rfl) only [ee, VC, T, Nat.reduceMul, Nat.reduceAdd, Nat.reduceSub, Nat.reduceLT, Nat.reduceEqDiff, Nat.reduceLeDiff, Nat.reduceBEq, reduceCtorEq, Int.reduceToNat, ↓reduceIte]) <;> (try clear ee))
  · have hl : xs.length = ys.length := by omega
    refine lp_go (fun i : Nat => ⟨26, [(0, .far (xs.map .str)), (1, .far (ys.map .str)), (5, .int .i64 i)], []⟩) (fun i => i ≤ xs.length ∧ xs.take i = ys.take i) (fun i => xs.length - i) 0 ?_ ⟨Nat.zero_le _, rfl⟩ ?_
    · (simp (disch := first | omega | (simp only [LN, numOk, verOk] <;> omega) | exact Ck.mk rfl) only [SB, EQ, Nat.reduceMul, Nat.reduceAdd, Nat.reduceSub, Nat.reduceLT, Nat.reduceEqDiff, Nat.reduceLeDiff, Nat.reduceBEq, reduceCtorEq, Int.reduceToNat, ↓reduceIte]; try omega)
    · rintro i ⟨h1, h2⟩ N hN
      refine Wr.go ?_
      repeat' ((first | (have ee := True.intro; refine Wr.mk ?_) | ((first | refine br_go ?_ ?_ | refine pick_go ?_ ?_) <;> intro ee f <;> (try simp only [BB] at f) <;> (try simp only [numOk, verOk] at f)) | (have ee := True.intro; first | refine dr_go mixed (id := 6) [([], [0], []), ([], [5], []), ([0, 1], [17, 18], []), ([0, 1, 2], [19], []), ([], [1], []), ([], [5], []), ([4, 5], [21, 22], []), ([4, 5, 6], [23], []), ([0, 1, 2, 3, 4, 5, 6, 7], [20, 24], [])] rfl rfl rfl ?_)) <;> (try simp (maxSteps := 1000000) (disch := first | omega | (simp only [LN, numOk, verOk] <;> omega) | exact Ck.mk rfl) only [ee, VC, T, Nat.reduceMul, Nat.reduceAdd, Nat.reduceSub, Nat.reduceLT, Nat.reduceEqDiff, Nat.reduceLeDiff, Nat.reduceBEq, reduceCtorEq, Int.reduceToNat, ↓reduceIte]) <;> (try clear ee))
      · refine hN (i + 1) _ ⟨by omega, eq_step xs ys i hl (by omega) h2 f⟩ (by omega) ?_
        (simp (disch := first | omega | (simp only [LN, numOk, verOk] <;> omega) | exact Ck.mk rfl) only [SB, EQ, Nat.reduceMul, Nat.reduceAdd, Nat.reduceSub, Nat.reduceLT, Nat.reduceEqDiff, Nat.reduceLeDiff, Nat.reduceBEq, reduceCtorEq, Int.reduceToNat, ↓reduceIte]; try omega)
      · rw [decide_eq_false fun h => f (by rw [h])]
      · rw [List.take_of_length_le (by omega), List.take_of_length_le (by omega)] at h2
        rw [decide_eq_true h2]
  · rw [decide_eq_false fun h => f (by rw [h])]
theorem laws_sameInt (xs ys : List Int) (hx : xs.length ≤ 4611686018427387904) : Fn Tryz.prog 43 [.far (xs.map (.int .i64)), .far (ys.map (.int .i64))] [] (.bool (decide (xs = ys))) [] := by
  refine fn_x tok (n := 26) (rs := [.tmp 4]) Tryz.func43 (by decide) rfl rfl rfl rfl ?_
  refine Wr.go ?_
  repeat' ((first | (have ee := True.intro; refine Wr.mk ?_) | ((first | refine br_go ?_ ?_ | refine pick_go ?_ ?_) <;> intro ee f <;> (try simp only [BB] at f) <;> (try simp only [numOk, verOk] at f))) <;> (try simp (maxSteps := 1000000) (disch := first | omega | (simp only [LN, numOk, verOk] <;> omega) | exact Ck.mk rfl) only [ee, VC, T, Nat.reduceMul, Nat.reduceAdd, Nat.reduceSub, Nat.reduceLT, Nat.reduceEqDiff, Nat.reduceLeDiff, Nat.reduceBEq, reduceCtorEq, Int.reduceToNat, ↓reduceIte]) <;> (try clear ee))
  · have hl : xs.length = ys.length := by omega
    refine lp_go (fun i : Nat => ⟨26, [(0, .far (xs.map (.int .i64))), (1, .far (ys.map (.int .i64))), (5, .int .i64 i)], []⟩) (fun i => i ≤ xs.length ∧ xs.take i = ys.take i) (fun i => xs.length - i) 0 ?_ ⟨Nat.zero_le _, rfl⟩ ?_
    · (simp (disch := first | omega | (simp only [LN, numOk, verOk] <;> omega) | exact Ck.mk rfl) only [SB, EQ, Nat.reduceMul, Nat.reduceAdd, Nat.reduceSub, Nat.reduceLT, Nat.reduceEqDiff, Nat.reduceLeDiff, Nat.reduceBEq, reduceCtorEq, Int.reduceToNat, ↓reduceIte]; try omega)
    · rintro i ⟨h1, h2⟩ N hN
      refine Wr.go ?_
      repeat' ((first | (have ee := True.intro; refine Wr.mk ?_) | ((first | refine br_go ?_ ?_ | refine pick_go ?_ ?_) <;> intro ee f <;> (try simp only [BB] at f) <;> (try simp only [numOk, verOk] at f)) | (have ee := True.intro; first | refine dr_go mixed (id := 6) [([], [0], []), ([], [5], []), ([0, 1], [17, 18], []), ([0, 1, 2], [19], []), ([], [1], []), ([], [5], []), ([4, 5], [21, 22], []), ([4, 5, 6], [23], []), ([0, 1, 2, 3, 4, 5, 6, 7], [20, 24], [])] rfl rfl rfl ?_)) <;> (try simp (maxSteps := 1000000) (disch := first | omega | (simp only [LN, numOk, verOk] <;> omega) | exact Ck.mk rfl) only [ee, VC, T, Nat.reduceMul, Nat.reduceAdd, Nat.reduceSub, Nat.reduceLT, Nat.reduceEqDiff, Nat.reduceLeDiff, Nat.reduceBEq, reduceCtorEq, Int.reduceToNat, ↓reduceIte]) <;> (try clear ee))
      · refine hN (i + 1) _ ⟨by omega, eq_step xs ys i hl (by omega) h2 f⟩ (by omega) ?_
        (simp (disch := first | omega | (simp only [LN, numOk, verOk] <;> omega) | exact Ck.mk rfl) only [SB, EQ, Nat.reduceMul, Nat.reduceAdd, Nat.reduceSub, Nat.reduceLT, Nat.reduceEqDiff, Nat.reduceLeDiff, Nat.reduceBEq, reduceCtorEq, Int.reduceToNat, ↓reduceIte]; try omega)
      · rw [decide_eq_false fun h => f (by rw [h])]
      · rw [List.take_of_length_le (by omega), List.take_of_length_le (by omega)] at h2
        rw [decide_eq_true h2]
  · rw [decide_eq_false fun h => f (by rw [h])]
end Go.Pv

/- What functions of the program and of the reference do, in plain values. -/
namespace Go.Pv
open Go.Proofs Go.Mth
set_option linter.unusedSimpArgs false
set_option linter.unusedVariables false
set_option maxHeartbeats 4000000
set_option maxRecDepth 4000

end Go.Pv

/- strings.Builder: what its functions do, in plain values. -/
namespace Go.Pv
open Go.Proofs Go.Mth Go.RowKit
set_option linter.unusedSimpArgs false
set_option linter.unusedVariables false
set_option maxHeartbeats 4000000
section
variable {w : World} {A : Bl} {Γ : Nat → Value} {hp : Hp}
end
/-- A builder that holds bytes, as it is handed over. -/
def blH (t : ByteArray) : Hp := [(0, .box 194 [.ref 0 0, .row 1 t.size]), (1, .row ⟨1, 5⟩ ((bytesOf t).map (.int .u8)))]
end Go.Pv

/- Plain mathematics, fifth part: texts back from scans, scans of frames, sealed files. No program in it. -/
namespace Go.Mth
open Go.RowKit
set_option linter.unusedVariables false
set_option linter.unusedSimpArgs false

theorem trailT_pos (a b c d : Int) (ha : 0 ≤ a ∧ a < 4294967296) (hb : 0 ≤ b ∧ b < 4294967296) (hc : 0 ≤ c ∧ c < 4294967296) (hd : 0 ≤ d ∧ d < 4294967296) : trailT a b c d = fixT a 4 ++ fixT b 4 ++ fixT c 4 ++ fixT d 4 ++ ⟨#[73, 68, 88, 33]⟩ ∧ (trailT a b c d).size = 20 := by
  have h1 := fixT4_size a ha.1 ha.2
  have h2 := fixT4_size b hb.1 hb.2
  have h3 := fixT4_size c hc.1 hc.2
  have h4 := fixT4_size d hd.1 hd.2
  have e : trailT a b c d = fixT a 4 ++ fixT b 4 ++ fixT c 4 ++ fixT d 4 ++ ⟨#[73, 68, 88, 33]⟩ := by
    unfold trailT trailGo
    rw [if_neg (by omega)]
    unfold trailGo
    rw [if_neg (by omega)]
    unfold trailGo
    rw [if_neg (by omega)]
    unfold trailGo
    rw [if_neg (by omega)]
    unfold trailGo
    rw [show (⟨#[]⟩ : ByteArray) ++ fixT a 4 = fixT a 4 from ByteArray.empty_append]
  refine ⟨e, ?_⟩
  rw [e]
  simp only [ByteArray.size_append, h1, h2, h3, h4]
  rfl
theorem seal_no (v s b l : Int) (rs : List ByteArray) (h : ¬ sealOk v s b l rs) : sealT v s b l rs = ⟨#[]⟩ := if_neg h
/-! ### sealed files read -/
abbrev Sc := Bool × Int × Int × Int × Int × List ByteArray × List Int × Int × Bool
/-- What is known of a scan of a text of n bytes. -/
def ScF (n : Nat) (t : Sc) : Prop :=
  (t.1 = true → headOk t.2.1 t.2.2.1 t.2.2.2.1 t.2.2.2.2.1 ∧ 24 ≤ t.2.2.2.2.2.2.2.1) ∧ (t.1 = false → t = (false, 0, 0, 0, 0, [], [], 0, false)) ∧ (0 ≤ t.2.2.2.1 ∧ t.2.2.2.1 ≤ 1000000000) ∧ t.2.2.2.2.2.2.1.length = t.2.2.2.2.2.1.length ∧ t.2.2.2.2.2.1.length ≤ n ∧
    (∀ r ∈ t.2.2.2.2.2.1, r.size ≤ 60) ∧ (∀ o ∈ t.2.2.2.2.2.2.1, 0 ≤ o ∧ o ≤ n) ∧ 0 ≤ t.2.2.2.2.2.2.2.1 ∧ t.2.2.2.2.2.2.2.1 ≤ n
theorem scan_f (b : ByteArray) : ScF b.size (scan b) := by
  by_cases h : (scan b).1 = true
  · obtain ⟨h1, h2, h3, h4, h5, h6⟩ := scan_inv b h
    obtain ⟨k1, k2, k3, k4, k5⟩ := scan_head b h
    have hk := (rHead_ok b k1).2.1
    rw [← k2, ← k3, ← k4, ← k5] at hk
    exact ⟨fun _ => ⟨hk, h2⟩, (fun e => by rw [h] at e; cases e), hk.2.2.1, h1.symm, by omega, h5, h6, by omega, h3⟩
  · have e := scan_no b h
    rw [e]
    exact ⟨fun h => Bool.noConfusion h, fun _ => rfl, ⟨by decide, by decide⟩, rfl, Nat.zero_le _, fun _ h => absurd h (by simp), fun _ h => absurd h (by simp), Int.le_refl _, Int.natCast_nonneg _⟩
end Go.Mth

/- What functions of the program and of the reference do, in plain values. -/
namespace Go.Pv
open Go.Proofs Go.Mth
set_option linter.unusedSimpArgs false
set_option linter.unusedVariables false
set_option maxHeartbeats 4000000
set_option maxRecDepth 4000

theorem plc_mem (s : Int) (os : List Int) : ∀ (l : List Int) (i : Nat), (∀ x ∈ l, x ∈ os) → i + l.length ≤ os.length → ∀ p ∈ plc (fun a b => (a, b)) s l i, (0 ≤ p.1 ∧ p.1 < os.length) ∧ p.2 ∈ os
  | [], i, _, _, p, hp => by simp [plc] at hp
  | x :: l, i, hm, hi, p, hp => by
    rw [List.length_cons] at hi
    have ih := plc_mem s os l (i + 1) (fun y hy => hm y (List.mem_cons_of_mem _ hy)) (by omega) p
    unfold plc at hp
    split at hp
    · rcases List.mem_cons.1 hp with rfl | hp
      · exact ⟨⟨by simp only; omega, by simp only; omega⟩, hm x List.mem_cons_self⟩
      · exact ih hp
    · exact ih hp
theorem placesP_mem (s : Int) (os : List Int) (p : Int × Int) (hp : p ∈ placesP s os) : (0 ≤ p.1 ∧ p.1 < os.length) ∧ p.2 ∈ os := by
  unfold placesP placesOf at hp
  split at hp
  · simp at hp
  · exact plc_mem s os os 0 (fun x h => h) (by omega) p hp
theorem trail_20 {a b c d : Int} (h : ¬ (trailT a b c d).size = 0) : (trailT a b c d).size = 20 := by
  obtain ⟨h1, h2, h3, h4, _⟩ := trailT_size a b c d h
  have k1 := fixT4_full a h1
  have k2 := fixT4_full b h2
  have k3 := fixT4_full c h3
  have k4 := fixT4_full d h4
  exact (trailT_pos a b c d k1.2 k2.2 k3.2 k4.2).2
theorem spec_FootText (v s b l : Int) (os : List Int) (e : Int) (hl : os.length ≤ 1000000000) (ho : ∀ o ∈ os, i64 o) (he : i64 e) : Fn Tryz.prog 105 [.agg [.int .i64 v, .int .i64 s, .int .i64 b, .int .i64 l], .far (os.map (.int .i64)), .int .i64 e] [] (.str (footT v s b l os e)) [] := by
  have hp : ∀ p ∈ placesP s os, i64 p.1 ∧ i64 p.2 := fun p h => by
    have := placesP_mem s os p h
    exact ⟨⟨by omega, by omega⟩, ho _ this.2⟩
  have hpl : (placesP s os).length ≤ os.length := placesOf_le _ _ _
  have t1 := endMark_le v (b + os.length)
  have t2 := placesT_le (placesP s os)
  have t3 := @trail_20 e os.length s 0
  have t5 := trailT_le e os.length s (sumOf (endMark v (b + os.length) ++ placesT (placesP s os) ++ (trailT e os.length s 0).extract 0 12))
  unfold i64 at he
  generalize hq : footT v s b l os e = q
  by_cases hk : headOk v s b l
  · have hH := spec_HeadOk v s b l
    rw [decide_eq_true hk] at hH
    obtain ⟨_, ⟨hs1, hs2⟩, ⟨hb0, hb1⟩, _⟩ := id hk
    have hm : ∀ z < 9223372036854775808, ∀ x ∈ [e, (os.length : Int), s, z], x < 9223372036854775808 := fun z hz x hx => by
      simp only [List.mem_cons, List.not_mem_nil, or_false] at hx
      omega
    unfold footT at hq
    rw [if_pos hk] at hq
    refine fn_x tok (n := 61) (rs := [.tmp 6]) Tryz.func105 (by decide) rfl rfl rfl rfl ?_
    refine Wr.go ?_
    repeat' ((first | (have ee := True.intro; refine Wr.mk ?_) | ((first | refine br_go ?_ ?_ | refine pick_go ?_ ?_) <;> intro ee f <;> (try simp only [BB] at f) <;> (try simp only [numOk, verOk] at f)) | (have ee := True.intro; first | refine dr_go mixed (id := 3) [([], [3], []), ([0], [14], []), ([], [3], []), ([2], [16], []), ([], [1], []), ([4], [18], []), ([2, 3, 4, 5], [17, 19], []), ([0, 1, 2, 3, 4, 5, 6], [15, 20], []), ([0, 1, 2, 3, 4, 5, 6, 7], [21], [])] rfl rfl rfl ?_ | refine call_x (hH) rfl ⟨rfl⟩ ?_ | refine call_x (spec_EndMark _ _) rfl ⟨rfl⟩ ?_ | refine call_x (spec_PlacesOf2 _ _ (by omega) (by omega)) rfl ⟨rfl⟩ ?_ | refine call_x (spec_PlacesText _ (by omega) hp) rfl ⟨rfl⟩ ?_ | refine call_x (spec_TrailerText _ _ _ _ (hm _ (by decide))) rfl ⟨rfl⟩ ?_ | refine call_x (spec_TrailerText _ _ _ _ (hm _ (sumOf_lt _))) rfl ⟨rfl⟩ ?_ | refine call_x (spec_SumOf _ (by simp only [ByteArray.size_append, ByteArray.size_extract]; omega)) rfl ⟨rfl⟩ ?_)) <;> (try simp (maxSteps := 1000000) (disch := first | omega | (simp only [LN, numOk, verOk, rfP, rvP, rhP, frP, blH, bytesOf_length, ByteArray.size_extract] <;> omega) | exact Ck.mk rfl) only [ee, VC, T, Nat.reduceMul, Nat.reduceAdd, Nat.reduceSub, Nat.reduceLT, Nat.reduceEqDiff, Nat.reduceLeDiff, Nat.reduceBEq, reduceCtorEq, Int.reduceToNat, ↓reduceIte, rfP, rvP, rhP, frP, blH, bytesOf_length, ByteArray.size_extract]) <;> (try clear ee))
    all_goals (rw [← hq]; first | rw [if_pos (by omega)] | rw [if_neg (by omega)])
  · have hH := spec_HeadOk v s b l
    rw [decide_eq_false hk] at hH
    unfold footT at hq
    rw [if_neg hk] at hq
    subst hq
    refine fn_x tok (n := 61) (rs := [.tmp 6]) Tryz.func105 (by decide) rfl rfl rfl rfl ?_
    refine Wr.go ?_
    repeat' ((first | (have ee := True.intro; refine Wr.mk ?_) | ((first | refine br_go ?_ ?_ | refine pick_go ?_ ?_) <;> intro ee f <;> (try simp only [BB] at f) <;> (try simp only [numOk, verOk] at f)) | (have ee := True.intro; first | refine call_x (hH) rfl ⟨rfl⟩ ?_)) <;> (try simp (maxSteps := 1000000) (disch := first | omega | (simp only [LN, numOk, verOk, rfP, rvP, rhP, frP, blH, bytesOf_length] <;> omega) | exact Ck.mk rfl) only [ee, VC, T, Nat.reduceMul, Nat.reduceAdd, Nat.reduceSub, Nat.reduceLT, Nat.reduceEqDiff, Nat.reduceLeDiff, Nat.reduceBEq, reduceCtorEq, Int.reduceToNat, ↓reduceIte, rfP, rvP, rhP, frP, blH, bytesOf_length]) <;> (try clear ee))
theorem spec_SealText (v s b l : Int) (rs : List ByteArray) (hl : rs.length ≤ 1073741824) (hz : ∀ r ∈ rs, r.size ≤ 140737488355328) : Fn Tryz.prog 39 [.agg [.int .i64 v, .int .i64 s, .int .i64 b, .int .i64 l], .far (rs.map .str)] [] (.str (sealT v s b l rs)) [] := by
  by_cases hk : headOk v s b l
  · have hH := spec_HeadOk v s b l
    rw [decide_eq_true hk] at hH
    obtain ⟨_, ⟨hs1, hs2⟩, ⟨hb0, hb1⟩, _⟩ := id hk
    have ht := headT_size v s b l hk
    generalize hq : sealT v s b l rs = q
    refine fn_x tok (n := 66) (rs := [.tmp 4]) Tryz.func39 (by decide) rfl rfl rfl rfl ?_
    refine Wr.go ?_
    repeat' ((first | (have ee := True.intro; refine Wr.mk ?_) | ((first | refine br_go ?_ ?_ | refine pick_go ?_ ?_) <;> intro ee f <;> (try simp only [BB] at f) <;> (try simp only [numOk, verOk] at f)) | (have ee := True.intro; first | refine call_x (hH) rfl ⟨rfl⟩ ?_ | refine call_x (spec_HeadText _ _ _ _) rfl ⟨rfl⟩ ?_)) <;> (try simp (maxSteps := 1000000) (disch := first | omega | (simp only [LN, numOk, verOk, rfP, rvP, rhP, frP, blH, bytesOf_length, ht] <;> omega) | exact Ck.mk rfl) only [ee, VC, T, Nat.reduceMul, Nat.reduceAdd, Nat.reduceSub, Nat.reduceLT, Nat.reduceEqDiff, Nat.reduceLeDiff, Nat.reduceBEq, reduceCtorEq, Int.reduceToNat, ↓reduceIte, rfP, rvP, rhP, frP, blH, bytesOf_length, ht]) <;> (try clear ee))
    · rw [← hq, seal_no _ _ _ _ _ fun h => by have := h.2.1; omega]
    · rw [← hq, seal_no _ _ _ _ _ fun h => by have := h.2.2.1; omega]
    · refine lp_go (fun x : Nat × ByteArray × List Int => ⟨66, [(1, .far (rs.map .str)), (2, .ref 192 0), (5, .row 1728 x.2.1.size), (6, .row 1792 x.2.2.length), (7, .int .i64 x.1)], [(1728, .row ⟨1, 0⟩ ((bytesOf x.2.1).map (.int .u8))), (1792, .row ⟨1, 0⟩ (x.2.2.map (.int .i64))), (192, .box 61 [.int .i64 v, .int .i64 s, .int .i64 b, .int .i64 l])]⟩) (fun x => x.1 ≤ rs.length ∧ x.2.2.length = x.1 ∧ (24 ≤ x.2.1.size ∧ x.2.1.size ≤ 24 + 84 * x.1) ∧ (∀ o ∈ x.2.2, 0 ≤ o ∧ o ≤ 1000000) ∧ frGo v b (headT v s b l) [] rs = frGo v b x.2.1 x.2.2 (rs.drop x.1) ∧ (∀ (j : Nat) (h : j < rs.length), j < x.1 → rs[j].size ≤ 60)) (fun x => rs.length - x.1) (0, headT v s b l, []) ?_ ?_ ?_
      · (simp (disch := first | omega | (simp only [LN, numOk, verOk, ht] <;> omega) | exact Ck.mk rfl) only [SB, EQ, Nat.reduceMul, Nat.reduceAdd, Nat.reduceSub, Nat.reduceLT, Nat.reduceEqDiff, Nat.reduceLeDiff, Nat.reduceBEq, reduceCtorEq, Int.reduceToNat, ↓reduceIte, ht]; try omega)
      · exact ⟨Nat.zero_le _, rfl, ⟨by simp only; omega, by simp only; omega⟩, fun _ h => absurd h (by simp), rfl, fun j _ h => absurd h (Nat.not_lt_zero _)⟩
      · rintro ⟨i, t, os⟩ ⟨h1, h2, h3, h4, h5, h6⟩ N hN
        simp only at h1 h2 h3 h4 h5 h6
        have hf := frameT_le v (b + i) (rs.getD i default)
        have hgd : ∀ h : i < rs.length, rs[i] = rs.getD i default := fun h => by rw [List.getD_eq_getElem?_getD, List.getElem?_eq_getElem h]; rfl
        have hrs : i < rs.length → (rs.getD i default).size ≤ 140737488355328 := fun h => hz _ (getD_mem _ _ h)
        have hst : i < rs.length → frGo v b t os (rs.drop i) = frGo v b (t ++ frameT v (b + i) (rs.getD i default)) (os ++ [(t.size : Int)]) (rs.drop (i + 1)) := fun h => by
          rw [List.drop_eq_getElem_cons h, List.getD_eq_getElem?_getD, List.getElem?_eq_getElem h]
          subst h2
          rfl
        have hfl := footT_le v s b l os t.size
        have hap : ∀ u : ByteArray, (bytesOf t).map (PV.int .u8) ++ (bytesOf u).map (PV.int .u8) = (bytesOf (t ++ u)).map (.int .u8) := fun u => by rw [bytesOf_append, List.map_append]
        refine Wr.go ?_
        repeat' ((first | (have ee := True.intro; refine Wr.mk ?_) | ((first | refine br_go ?_ ?_ | refine pick_go ?_ ?_) <;> intro ee f <;> (try simp only [BB] at f) <;> (try simp only [numOk, verOk] at f)) | (have ee := True.intro; first | refine dr_go mixed (id := 11) [([], [5], []), ([], [2], []), ([1], [46], []), ([], [2], []), ([3], [48], []), ([], [7], []), ([3, 4, 5], [49, 50], []), ([], [1], []), ([], [7], []), ([7, 8], [52, 53], []), ([7, 8, 9], [54], []), ([1, 2, 3, 4, 5, 6, 7, 8, 9, 10], [47, 51, 55], []), ([0, 1, 2, 3, 4, 5, 6, 7, 8, 9, 10, 11], [45, 56], []), ([0, 1, 2, 3, 4, 5, 6, 7, 8, 9, 10, 11, 12], [57], [])] rfl rfl rfl ?_ | refine call_x (spec_FrameText _ _ _ (hrs (by omega))) rfl ⟨rfl⟩ ?_ | (refine call_hx [] [1792] (spec_FootText v s b l os t.size (by omega) (fun o ho => by have := h4 o ho; unfold i64; omega) (by unfold i64; omega)) (by decide) ?_ rfl ?_; (focus (first | rfl | (simp (maxSteps := 1000000) (disch := first | omega | (simp only [LN, numOk, verOk, rfP, rvP, rhP, frP, blH, bytesOf_length, hap, ByteArray.size_append] <;> omega) | exact Ck.mk rfl) only [VC, T, Nat.reduceMul, Nat.reduceAdd, Nat.reduceSub, Nat.reduceLT, Nat.reduceEqDiff, Nat.reduceLeDiff, Nat.reduceBEq, reduceCtorEq, Int.reduceToNat, ↓reduceIte, rfP, rvP, rhP, frP, blH, bytesOf_length, hap, ByteArray.size_append]; done)))))) <;> (try simp (maxSteps := 1000000) (disch := first | omega | (simp only [LN, numOk, verOk, rfP, rvP, rhP, frP, blH, bytesOf_length, hap, ByteArray.size_append] <;> omega) | exact Ck.mk rfl) only [ee, VC, T, Nat.reduceMul, Nat.reduceAdd, Nat.reduceSub, Nat.reduceLT, Nat.reduceEqDiff, Nat.reduceLeDiff, Nat.reduceBEq, reduceCtorEq, Int.reduceToNat, ↓reduceIte, rfP, rvP, rhP, frP, blH, bytesOf_length, hap, ByteArray.size_append]) <;> (try clear ee))
        · rw [← hq, seal_no _ _ _ _ _ fun h => by have := h.2.2.2 _ (getD_mem rs i (by omega)); omega]
        · refine hN (i + 1, t ++ frameT v (b + i) (rs.getD i default), os ++ [(t.size : Int)]) _ ⟨by simp only; omega, by simp [h2], by simp only [ByteArray.size_append]; omega, fun o ho => ?_, by rw [h5, hst (by omega)], fun j hj hji => ?_⟩ (by simp only; omega) ?_
          · rcases List.mem_append.1 ho with ho | ho
            · exact h4 o ho
            · rw [List.mem_singleton.1 ho]; omega
          · by_cases e : j = i
            · subst e; rw [hgd hj]; omega
            · exact h6 j hj (by simp only at hji; omega)
          · (simp (disch := first | omega | (simp only [LN, numOk, verOk] <;> omega) | exact Ck.mk rfl) only [SB, EQ, Nat.reduceMul, Nat.reduceAdd, Nat.reduceSub, Nat.reduceLT, Nat.reduceEqDiff, Nat.reduceLeDiff, Nat.reduceBEq, reduceCtorEq, Int.reduceToNat, ↓reduceIte]; try omega)
            exact ByteArray.size_append.symm
        · have hall : ∀ r ∈ rs, r.size ≤ 60 := fun r hr => by
            obtain ⟨j, hj, rfl⟩ := List.getElem_of_mem hr
            exact h6 j hj (by omega)
          refine ⟨fun x hx => by have := bytesOf_range _ x hx; omega, ?_⟩
          rw [strOf_bytesOf, ← hq]
          unfold sealT
          rw [if_pos ⟨hk, by omega, by omega, hall⟩, h5, List.drop_eq_nil_of_le (by omega)]; rfl
  · have hH := spec_HeadOk v s b l
    rw [decide_eq_false hk] at hH
    rw [seal_no _ _ _ _ _ fun h => hk h.1]
    refine fn_x tok (n := 66) (rs := [.tmp 4]) Tryz.func39 (by decide) rfl rfl rfl rfl ?_
    refine Wr.go ?_
    repeat' ((first | (have ee := True.intro; refine Wr.mk ?_) | ((first | refine br_go ?_ ?_ | refine pick_go ?_ ?_) <;> intro ee f <;> (try simp only [BB] at f) <;> (try simp only [numOk, verOk] at f)) | (have ee := True.intro; first | refine call_x (hH) rfl ⟨rfl⟩ ?_)) <;> (try simp (maxSteps := 1000000) (disch := first | omega | (simp only [LN, numOk, verOk, rfP, rvP, rhP, frP, blH, bytesOf_length] <;> omega) | exact Ck.mk rfl) only [ee, VC, T, Nat.reduceMul, Nat.reduceAdd, Nat.reduceSub, Nat.reduceLT, Nat.reduceEqDiff, Nat.reduceLeDiff, Nat.reduceBEq, reduceCtorEq, Int.reduceToNat, ↓reduceIte, rfP, rvP, rhP, frP, blH, bytesOf_length]) <;> (try clear ee))
end Go.Pv

/- What functions of the program and of the reference do, in plain values. -/
namespace Go.Pv
open Go.Proofs Go.Mth
set_option linter.unusedSimpArgs false
set_option linter.unusedVariables false
set_option maxHeartbeats 4000000
set_option maxRecDepth 4000

/-! ### scans -/
def slN (K n : Nat) : PV := if n = 0 then .nils else .row K n
def hpN (K : Nat) (xs : List PV) : Hp := if xs.length = 0 then [] else [(K, .row ⟨1, 0⟩ xs)]
abbrev Sc := Bool × Int × Int × Int × Int × List ByteArray × List Int × Int × Bool
/-- A scan as it is handed back: its slices as one's own. -/
def scanR (t : Sc) : PV := .agg [.bool t.1, .int .i64 t.2.1, .int .i64 t.2.2.1, .int .i64 t.2.2.2.1, .int .i64 t.2.2.2.2.1, .row 64 t.2.2.2.2.2.1.length, .row 65 t.2.2.2.2.2.2.1.length, .int .i64 t.2.2.2.2.2.2.2.1, .bool t.2.2.2.2.2.2.2.2]
def scanH (t : Sc) : Hp := [(64, .row ⟨1, 0⟩ (t.2.2.2.2.2.1.map .str)), (65, .row ⟨1, 0⟩ (t.2.2.2.2.2.2.1.map (.int .i64)))]
def scanP (t : Sc) : PV := .agg [.bool t.1, .int .i64 t.2.1, .int .i64 t.2.2.1, .int .i64 t.2.2.2.1, .int .i64 t.2.2.2.2.1, .far (t.2.2.2.2.2.1.map .str), .far (t.2.2.2.2.2.2.1.map (.int .i64)), .int .i64 t.2.2.2.2.2.2.2.1, .bool t.2.2.2.2.2.2.2.2]
theorem impl_ScanR (b : ByteArray) (hb : b.size ≤ 1073741824) : FnE Tryz.prog 140 [.str b] [] (fun r m => r = scanR (scan b) ∧ m = scanH (scan b)) := by
  refine fn_e tok (n := 64) (rs := [.cell 2 95]) Tryz.func140 (by decide) rfl rfl rfl rfl (low_of rfl) ?_
  refine Wr.go ?_
  repeat' ((first | (have ee := True.intro; refine Wr.mk ?_) | ((first | refine br_go ?_ ?_ | refine pick_go ?_ ?_) <;> intro ee f <;> (try simp only [BB] at f) <;> (try simp only [numOk, verOk] at f)) | (have ee := True.intro; first | refine call_x (impl_ReadHead b (by omega)) rfl ⟨rfl⟩ ?_)) <;> (try simp (maxSteps := 1000000) (disch := first | omega | (simp only [LN, numOk, verOk, rfP, rvP, rhP, frP] <;> omega) | exact Ck.mk rfl) only [ee, VC, T, Nat.reduceMul, Nat.reduceAdd, Nat.reduceSub, Nat.reduceLT, Nat.reduceEqDiff, Nat.reduceLeDiff, Nat.reduceBEq, reduceCtorEq, Int.reduceToNat, ↓reduceIte, rfP, rvP, rhP, frP]) <;> (try clear ee))
  · have hk := rHead_ok b f
    obtain ⟨k1, k2, _⟩ := hk
    unfold headOk verOk numOk at k2
    have ht : scan b = (true, (rHead b).1, (rHead b).2.1, (rHead b).2.2.1, (rHead b).2.2.2.1, scanGo (rHead b).1 (rHead b).2.2.1 b (b.size + 1) [] [] 24) := by unfold scan; rw [if_pos f]
    generalize (rHead b).1 = v, (rHead b).2.1 = s, (rHead b).2.2.1 = base, (rHead b).2.2.2.1 = l at *
    refine lp_go (fun x : List ByteArray × List Int × Int × Nat => ⟨64, [(0, .str b), (2, .ref 192 0), (3, .ref 256 0), (5, .ref 384 0)], [(384, .box 95 [.bool true, .int .i64 v, .int .i64 s, .int .i64 base, .int .i64 l, slN 3456 x.1.length, slN 3904 x.2.1.length, .int .i64 x.2.2.1, .bool false]), (256, .box 61 [.int .i64 v, .int .i64 s, .int .i64 base, .int .i64 l]), (192, .box 95 [.bool false, .int .i64 0, .int .i64 0, .int .i64 0, .int .i64 0, .nils, .nils, .int .i64 0, .bool false])] ++ hpN 3456 (x.1.map .str) ++ hpN 3904 (x.2.1.map (.int .i64))⟩)
      (fun x => ScInv b x.1 x.2.1 x.2.2.1 ∧ (b.size : Int) < x.2.2.1 + x.2.2.2 ∧ scanGo v base b (b.size + 1) [] [] 24 = scanGo v base b x.2.2.2 x.1 x.2.1 x.2.2.1) (fun x => x.2.2.2) ([], [], 24, b.size + 1) ?_ ?_ ?_
    · (simp (disch := first | omega | (simp only [LN, numOk, verOk, slN, hpN] <;> omega) | exact Ck.mk rfl) only [SB, EQ, Nat.reduceMul, Nat.reduceAdd, Nat.reduceSub, Nat.reduceLT, Nat.reduceEqDiff, Nat.reduceLeDiff, Nat.reduceBEq, reduceCtorEq, Int.reduceToNat, ↓reduceIte, slN, hpN]; try omega)
    · exact ⟨⟨rfl, by simp, by simp only; omega, by simp, by simp, by simp⟩, by simp only; omega, rfl⟩
    · rintro ⟨rs, os, e, d⟩ ⟨hi, hd, hg⟩ N hN
      simp only at hi hd hg
      obtain ⟨i1, i2, i3, i4, i5, i6⟩ := id hi
      obtain ⟨d, rfl⟩ : ∃ d', d = d' + 1 := ⟨d - 1, by omega⟩
      have hst : scanGo v base b (d + 1) rs os e = if markAt v (base + rs.length) b e = true then (rs, os, e, true) else if (rFrame v (base + rs.length) b e).2.2 = true then scanGo v base b d (rs ++ [(rFrame v (base + rs.length) b e).1]) (os ++ [e]) (rFrame v (base + rs.length) b e).2.1 else (rs, os, e, false) := rfl
      have hok := rFrame_ok v (base + rs.length) b e
      have hsc := scInv_step v base b rs os e hi
      have next : (rFrame v (base + rs.length) b e).2.2 = true → markAt v (base + rs.length) b e = false → _ := fun h1 h2 => hN (rs ++ [(rFrame v (base + rs.length) b e).1], os ++ [e], (rFrame v (base + rs.length) b e).2.1, d)
      rw [ht, hg, hst]
      cases rs with
      | nil =>
        obtain rfl : os = [] := List.eq_nil_of_length_eq_zero (by simpa using i1.symm)
        simp only [List.length_nil, List.nil_append, show ((0 : Nat) : Int) = 0 from rfl, Int.add_zero] at *
        refine Wr.go ?_
        repeat' ((first | (have ee := True.intro; refine Wr.mk ?_) | ((first | refine br_go ?_ ?_ | refine pick_go ?_ ?_) <;> intro ee f <;> (try simp only [BB] at f) <;> (try simp only [numOk, verOk] at f)) | (have ee := True.intro; first | refine call_x (impl_MarkAt _ _ _ (by omega) _ (by omega) (by omega)) rfl ⟨rfl⟩ ?_ | refine call_x (impl_ReadFrame _ _ _ (by omega) _ (by omega) (by omega)) rfl ⟨rfl⟩ ?_)) <;> (try simp (maxSteps := 1000000) (disch := first | omega | (simp only [LN, numOk, verOk, rfP, rvP, rhP, frP, slN, hpN, wsmall, Int.add_zero] <;> omega) | exact Ck.mk rfl) only [ee, VC, T, Nat.reduceMul, Nat.reduceAdd, Nat.reduceSub, Nat.reduceLT, Nat.reduceEqDiff, Nat.reduceLeDiff, Nat.reduceBEq, reduceCtorEq, Int.reduceToNat, ↓reduceIte, rfP, rvP, rhP, frP, slN, hpN, wsmall, Int.add_zero]) <;> (try clear ee))
        · exact fin_t [none, none] ⟨rfl, rfl⟩ rfl (by simp [RV, RV2, RVl, RV1, tau, scanR, scanH, hget, data1, oneOf]) (by simp [RH, tau, scanH, hget]) (by simp [Taus, scanH, hget])
        · refine hN ([(rFrame v base b e).1], [e], (rFrame v base b e).2.1, d) _ ⟨hsc f, by have := hok f; simp only; omega, ?_⟩ (by simp) ?_
          · rw [hg, hst]; simp_all
          · (simp (disch := first | omega | (simp only [LN, numOk, verOk, slN, hpN] <;> omega) | exact Ck.mk rfl) only [SB, EQ, Nat.reduceMul, Nat.reduceAdd, Nat.reduceSub, Nat.reduceLT, Nat.reduceEqDiff, Nat.reduceLeDiff, Nat.reduceBEq, reduceCtorEq, Int.reduceToNat, ↓reduceIte, slN, hpN]; try omega); exact ⟨rfl, rfl⟩
        · exact fin_t [none, none] ⟨rfl, rfl⟩ rfl (by simp [RV, RV2, RVl, RV1, tau, scanR, scanH, hget, data1, oneOf]) (by simp [RH, tau, scanH, hget]) (by simp [Taus, scanH, hget])
      | cons r rs =>
        obtain ⟨o, os, rfl⟩ : ∃ o os', os = o :: os' := by
          cases os with
          | nil => simp at i1
          | cons o os => exact ⟨o, os, rfl⟩
        simp only [List.length_cons, show ((rs.length + 1 : Nat) : Int) = (rs.length : Int) + 1 from rfl] at *
        refine Wr.go ?_
        repeat' ((first | (have ee := True.intro; refine Wr.mk ?_) | ((first | refine br_go ?_ ?_ | refine pick_go ?_ ?_) <;> intro ee f <;> (try simp only [BB] at f) <;> (try simp only [numOk, verOk] at f)) | (have ee := True.intro; first | refine call_x (impl_MarkAt _ _ _ (by omega) _ (by omega) (by omega)) rfl ⟨rfl⟩ ?_ | refine call_x (impl_ReadFrame _ _ _ (by omega) _ (by omega) (by omega)) rfl ⟨rfl⟩ ?_)) <;> (try simp (maxSteps := 1000000) (disch := first | omega | (simp only [LN, numOk, verOk, rfP, rvP, rhP, frP, slN, hpN, wsmall] <;> omega) | exact Ck.mk rfl) only [ee, VC, T, Nat.reduceMul, Nat.reduceAdd, Nat.reduceSub, Nat.reduceLT, Nat.reduceEqDiff, Nat.reduceLeDiff, Nat.reduceBEq, reduceCtorEq, Int.reduceToNat, ↓reduceIte, rfP, rvP, rhP, frP, slN, hpN, wsmall]) <;> (try clear ee))
        · exact fin_t [some 3456, some 3904] ⟨rfl, rfl⟩ rfl (by simp [RV, RV2, RVl, RV1, tau, scanR, scanH, hget, data1, oneOf]) (by simp [RH, tau, scanH, hget]) (by simp [Taus, scanH, hget])
        · refine hN (r :: rs ++ [(rFrame v (base + (rs.length + 1)) b e).1], o :: os ++ [e], (rFrame v (base + (rs.length + 1)) b e).2.1, d) _ ⟨?_, ?_, ?_⟩ (by simp) ?_
          · exact hsc f
          · have := hok f; simp only; omega
          · rw [hg, hst]; simp_all
          · (simp (disch := first | omega | (simp only [LN, numOk, verOk, slN, hpN] <;> omega) | exact Ck.mk rfl) only [SB, EQ, Nat.reduceMul, Nat.reduceAdd, Nat.reduceSub, Nat.reduceLT, Nat.reduceEqDiff, Nat.reduceLeDiff, Nat.reduceBEq, reduceCtorEq, Int.reduceToNat, ↓reduceIte, slN, hpN]; try omega); exact ⟨rfl, rfl⟩
        · exact fin_t [some 3456, some 3904] ⟨rfl, rfl⟩ rfl (by simp [RV, RV2, RVl, RV1, tau, scanR, scanH, hget, data1, oneOf]) (by simp [RH, tau, scanH, hget]) (by simp [Taus, scanH, hget])
  · rw [show scan b = (false, 0, 0, 0, 0, [], [], 0, false) by unfold scan; rw [f]; rfl]
    exact fin_t [none, none] ⟨rfl, rfl⟩ rfl (by simp [RV, RV2, RVl, RV1, tau, scanR, scanH, hget, data1, oneOf]) (by simp [RH, tau, scanH, hget]) (by simp [Taus, scanH, hget])
theorem spec_ScanR (b : ByteArray) (hb : b.size ≤ 1073741824) : FnE Tryz.prog 92 [.str b] [] (fun r m => r = scanR (scan b) ∧ m = scanH (scan b)) := by
  refine fn_e tok (n := 64) (rs := [.cell 2 95]) Tryz.func92 (by decide) rfl rfl rfl rfl (low_of rfl) ?_
  refine Wr.go ?_
  repeat' ((first | (have ee := True.intro; refine Wr.mk ?_) | ((first | refine br_go ?_ ?_ | refine pick_go ?_ ?_) <;> intro ee f <;> (try simp only [BB] at f) <;> (try simp only [numOk, verOk] at f)) | (have ee := True.intro; first | refine call_x (spec_ReadHead b (by omega)) rfl ⟨rfl⟩ ?_)) <;> (try simp (maxSteps := 1000000) (disch := first | omega | (simp only [LN, numOk, verOk, rfP, rvP, rhP, frP] <;> omega) | exact Ck.mk rfl) only [ee, VC, T, Nat.reduceMul, Nat.reduceAdd, Nat.reduceSub, Nat.reduceLT, Nat.reduceEqDiff, Nat.reduceLeDiff, Nat.reduceBEq, reduceCtorEq, Int.reduceToNat, ↓reduceIte, rfP, rvP, rhP, frP]) <;> (try clear ee))
  · have hk := rHead_ok b f
    obtain ⟨k1, k2, _⟩ := hk
    unfold headOk verOk numOk at k2
    have ht : scan b = (true, (rHead b).1, (rHead b).2.1, (rHead b).2.2.1, (rHead b).2.2.2.1, scanGo (rHead b).1 (rHead b).2.2.1 b (b.size + 1) [] [] 24) := by unfold scan; rw [if_pos f]
    generalize (rHead b).1 = v, (rHead b).2.1 = s, (rHead b).2.2.1 = base, (rHead b).2.2.2.1 = l at *
    refine lp_go (fun x : List ByteArray × List Int × Int × Nat => ⟨64, [(0, .str b), (2, .ref 192 0), (3, .ref 256 0), (5, .ref 384 0)], [(384, .box 95 [.bool true, .int .i64 v, .int .i64 s, .int .i64 base, .int .i64 l, slN 3456 x.1.length, slN 3904 x.2.1.length, .int .i64 x.2.2.1, .bool false]), (256, .box 61 [.int .i64 v, .int .i64 s, .int .i64 base, .int .i64 l]), (192, .box 95 [.bool false, .int .i64 0, .int .i64 0, .int .i64 0, .int .i64 0, .nils, .nils, .int .i64 0, .bool false])] ++ hpN 3456 (x.1.map .str) ++ hpN 3904 (x.2.1.map (.int .i64))⟩)
      (fun x => ScInv b x.1 x.2.1 x.2.2.1 ∧ (b.size : Int) < x.2.2.1 + x.2.2.2 ∧ scanGo v base b (b.size + 1) [] [] 24 = scanGo v base b x.2.2.2 x.1 x.2.1 x.2.2.1) (fun x => x.2.2.2) ([], [], 24, b.size + 1) ?_ ?_ ?_
    · (simp (disch := first | omega | (simp only [LN, numOk, verOk, slN, hpN] <;> omega) | exact Ck.mk rfl) only [SB, EQ, Nat.reduceMul, Nat.reduceAdd, Nat.reduceSub, Nat.reduceLT, Nat.reduceEqDiff, Nat.reduceLeDiff, Nat.reduceBEq, reduceCtorEq, Int.reduceToNat, ↓reduceIte, slN, hpN]; try omega)
    · exact ⟨⟨rfl, by simp, by simp only; omega, by simp, by simp, by simp⟩, by simp only; omega, rfl⟩
    · rintro ⟨rs, os, e, d⟩ ⟨hi, hd, hg⟩ N hN
      simp only at hi hd hg
      obtain ⟨i1, i2, i3, i4, i5, i6⟩ := id hi
      obtain ⟨d, rfl⟩ : ∃ d', d = d' + 1 := ⟨d - 1, by omega⟩
      have hst : scanGo v base b (d + 1) rs os e = if markAt v (base + rs.length) b e = true then (rs, os, e, true) else if (rFrame v (base + rs.length) b e).2.2 = true then scanGo v base b d (rs ++ [(rFrame v (base + rs.length) b e).1]) (os ++ [e]) (rFrame v (base + rs.length) b e).2.1 else (rs, os, e, false) := rfl
      have hok := rFrame_ok v (base + rs.length) b e
      have hsc := scInv_step v base b rs os e hi
      have next : (rFrame v (base + rs.length) b e).2.2 = true → markAt v (base + rs.length) b e = false → _ := fun h1 h2 => hN (rs ++ [(rFrame v (base + rs.length) b e).1], os ++ [e], (rFrame v (base + rs.length) b e).2.1, d)
      rw [ht, hg, hst]
      cases rs with
      | nil =>
        obtain rfl : os = [] := List.eq_nil_of_length_eq_zero (by simpa using i1.symm)
        simp only [List.length_nil, List.nil_append, show ((0 : Nat) : Int) = 0 from rfl, Int.add_zero] at *
        refine Wr.go ?_
        repeat' ((first | (have ee := True.intro; refine Wr.mk ?_) | ((first | refine br_go ?_ ?_ | refine pick_go ?_ ?_) <;> intro ee f <;> (try simp only [BB] at f) <;> (try simp only [numOk, verOk] at f)) | (have ee := True.intro; first | refine call_x (spec_MarkAt _ _ _ (by omega) _ (by omega) (by omega)) rfl ⟨rfl⟩ ?_ | refine call_x (spec_ReadFrame _ _ _ (by omega) _ (by omega) (by omega)) rfl ⟨rfl⟩ ?_)) <;> (try simp (maxSteps := 1000000) (disch := first | omega | (simp only [LN, numOk, verOk, rfP, rvP, rhP, frP, slN, hpN, wsmall, Int.add_zero] <;> omega) | exact Ck.mk rfl) only [ee, VC, T, Nat.reduceMul, Nat.reduceAdd, Nat.reduceSub, Nat.reduceLT, Nat.reduceEqDiff, Nat.reduceLeDiff, Nat.reduceBEq, reduceCtorEq, Int.reduceToNat, ↓reduceIte, rfP, rvP, rhP, frP, slN, hpN, wsmall, Int.add_zero]) <;> (try clear ee))
        · exact fin_t [none, none] ⟨rfl, rfl⟩ rfl (by simp [RV, RV2, RVl, RV1, tau, scanR, scanH, hget, data1, oneOf]) (by simp [RH, tau, scanH, hget]) (by simp [Taus, scanH, hget])
        · refine hN ([(rFrame v base b e).1], [e], (rFrame v base b e).2.1, d) _ ⟨hsc f, by have := hok f; simp only; omega, ?_⟩ (by simp) ?_
          · rw [hg, hst]; simp_all
          · (simp (disch := first | omega | (simp only [LN, numOk, verOk, slN, hpN] <;> omega) | exact Ck.mk rfl) only [SB, EQ, Nat.reduceMul, Nat.reduceAdd, Nat.reduceSub, Nat.reduceLT, Nat.reduceEqDiff, Nat.reduceLeDiff, Nat.reduceBEq, reduceCtorEq, Int.reduceToNat, ↓reduceIte, slN, hpN]; try omega); exact ⟨rfl, rfl⟩
        · exact fin_t [none, none] ⟨rfl, rfl⟩ rfl (by simp [RV, RV2, RVl, RV1, tau, scanR, scanH, hget, data1, oneOf]) (by simp [RH, tau, scanH, hget]) (by simp [Taus, scanH, hget])
      | cons r rs =>
        obtain ⟨o, os, rfl⟩ : ∃ o os', os = o :: os' := by
          cases os with
          | nil => simp at i1
          | cons o os => exact ⟨o, os, rfl⟩
        simp only [List.length_cons, show ((rs.length + 1 : Nat) : Int) = (rs.length : Int) + 1 from rfl] at *
        refine Wr.go ?_
        repeat' ((first | (have ee := True.intro; refine Wr.mk ?_) | ((first | refine br_go ?_ ?_ | refine pick_go ?_ ?_) <;> intro ee f <;> (try simp only [BB] at f) <;> (try simp only [numOk, verOk] at f)) | (have ee := True.intro; first | refine call_x (spec_MarkAt _ _ _ (by omega) _ (by omega) (by omega)) rfl ⟨rfl⟩ ?_ | refine call_x (spec_ReadFrame _ _ _ (by omega) _ (by omega) (by omega)) rfl ⟨rfl⟩ ?_)) <;> (try simp (maxSteps := 1000000) (disch := first | omega | (simp only [LN, numOk, verOk, rfP, rvP, rhP, frP, slN, hpN, wsmall] <;> omega) | exact Ck.mk rfl) only [ee, VC, T, Nat.reduceMul, Nat.reduceAdd, Nat.reduceSub, Nat.reduceLT, Nat.reduceEqDiff, Nat.reduceLeDiff, Nat.reduceBEq, reduceCtorEq, Int.reduceToNat, ↓reduceIte, rfP, rvP, rhP, frP, slN, hpN, wsmall]) <;> (try clear ee))
        · exact fin_t [some 3456, some 3904] ⟨rfl, rfl⟩ rfl (by simp [RV, RV2, RVl, RV1, tau, scanR, scanH, hget, data1, oneOf]) (by simp [RH, tau, scanH, hget]) (by simp [Taus, scanH, hget])
        · refine hN (r :: rs ++ [(rFrame v (base + (rs.length + 1)) b e).1], o :: os ++ [e], (rFrame v (base + (rs.length + 1)) b e).2.1, d) _ ⟨?_, ?_, ?_⟩ (by simp) ?_
          · exact hsc f
          · have := hok f; simp only; omega
          · rw [hg, hst]; simp_all
          · (simp (disch := first | omega | (simp only [LN, numOk, verOk, slN, hpN] <;> omega) | exact Ck.mk rfl) only [SB, EQ, Nat.reduceMul, Nat.reduceAdd, Nat.reduceSub, Nat.reduceLT, Nat.reduceEqDiff, Nat.reduceLeDiff, Nat.reduceBEq, reduceCtorEq, Int.reduceToNat, ↓reduceIte, slN, hpN]; try omega); exact ⟨rfl, rfl⟩
        · exact fin_t [some 3456, some 3904] ⟨rfl, rfl⟩ rfl (by simp [RV, RV2, RVl, RV1, tau, scanR, scanH, hget, data1, oneOf]) (by simp [RH, tau, scanH, hget]) (by simp [Taus, scanH, hget])
  · rw [show scan b = (false, 0, 0, 0, 0, [], [], 0, false) by unfold scan; rw [f]; rfl]
    exact fin_t [none, none] ⟨rfl, rfl⟩ rfl (by simp [RV, RV2, RVl, RV1, tau, scanR, scanH, hget, data1, oneOf]) (by simp [RH, tau, scanH, hget]) (by simp [Taus, scanH, hget])
theorem impl_Scan (b : ByteArray) (hb : b.size ≤ 1073741824) : Fn Tryz.prog 140 [.str b] [] (scanP (scan b)) [] := by
  obtain ⟨_, _, ⟨rfl, rfl⟩, h⟩ := impl_ScanR b hb
  refine h.far ?_
  simp [fz, fz2, fz1, cvtl, elems, scanR, scanH, scanP, hget, data1]
theorem spec_Scan (b : ByteArray) (hb : b.size ≤ 1073741824) : Fn Tryz.prog 92 [.str b] [] (scanP (scan b)) [] := by
  obtain ⟨_, _, ⟨rfl, rfl⟩, h⟩ := spec_ScanR b hb
  refine h.far ?_
  simp [fz, fz2, fz1, cvtl, elems, scanR, scanH, scanP, hget, data1]
end Go.Pv

/- What functions of the program and of the reference do, in plain values. -/
namespace Go.Pv
open Go.Proofs Go.Mth
set_option linter.unusedSimpArgs false
set_option linter.unusedVariables false
set_option maxHeartbeats 4000000
set_option maxRecDepth 4000

theorem spec_RecordsIn (b : ByteArray) (hb : b.size ≤ 1073741824) : Fn Tryz.prog 35 [.str b] [] (.far ((scan b).2.2.2.2.2.1.map .str)) [] := by
  refine fn_x tok (n := 6) (rs := [.tmp 2]) Tryz.func35 (by decide) rfl rfl rfl rfl ?_
  refine Wr.go ?_
  repeat' ((first | (have ee := True.intro; refine Wr.mk ?_) | ((first | refine br_go ?_ ?_ | refine pick_go ?_ ?_) <;> intro ee f <;> (try simp only [BB] at f) <;> (try simp only [numOk, verOk] at f)) | (have ee := True.intro; first | refine call_x (spec_Scan _ (by omega)) rfl ⟨rfl⟩ ?_)) <;> (try simp (maxSteps := 1000000) (disch := first | omega | (simp only [LN, numOk, verOk, rfP, rvP, rhP, frP, scanP] <;> omega) | exact Ck.mk rfl) only [ee, VC, T, Nat.reduceMul, Nat.reduceAdd, Nat.reduceSub, Nat.reduceLT, Nat.reduceEqDiff, Nat.reduceLeDiff, Nat.reduceBEq, reduceCtorEq, Int.reduceToNat, ↓reduceIte, rfP, rvP, rhP, frP, scanP]) <;> (try clear ee))
end Go.Pv

/- What functions of the program and of the reference do, in plain values. -/
namespace Go.Pv
open Go.Proofs Go.Mth
set_option linter.unusedSimpArgs false
set_option linter.unusedVariables false
set_option maxHeartbeats 4000000
set_option maxRecDepth 4000

/-! ### sealed files, read -/
def rsP (x : (Int × Int × Int × Int) × List ByteArray × Bool) : PV := .tup [.agg [.int .i64 x.1.1, .int .i64 x.1.2.1, .int .i64 x.1.2.2.1, .int .i64 x.1.2.2.2], .far (x.2.1.map .str), .bool x.2.2]
def rsR (x : (Int × Int × Int × Int) × List ByteArray × Bool) : PV := .tup [.agg [.int .i64 x.1.1, .int .i64 x.1.2.1, .int .i64 x.1.2.2.1, .int .i64 x.1.2.2.2], .row 64 x.2.1.length, .bool x.2.2]
def rsH (x : (Int × Int × Int × Int) × List ByteArray × Bool) : Hp := [(64, .row ⟨1, 0⟩ (x.2.1.map .str))]
theorem impl_GoesOn (b : ByteArray) (p l : Int) (hb : b.size ≤ 1073741824) : Fn Tryz.prog 141 [.str b, .int .i64 p, .int .i64 l] [] (.bool ((rHead b).2.2.2.2 && decide ((rHead b).2.2.1 = p) && decide ((rHead b).2.2.2.1 = l))) [] := by
  have h := impl_ReadHead b (by omega)
  refine fn_x tok (n := 27) (rs := [.tmp 6]) Tryz.func141 (by decide) rfl rfl rfl rfl ?_
  refine Wr.go ?_
  repeat' ((first | (have ee := True.intro; refine Wr.mk ?_) | ((first | refine br_go ?_ ?_ | refine pick_go ?_ ?_) <;> intro ee f <;> (try simp only [BB] at f) <;> (try simp only [numOk, verOk] at f)) | (have ee := True.intro; first | refine call_x (h) rfl ⟨rfl⟩ ?_)) <;> (try simp (maxSteps := 1000000) (disch := first | omega | (simp only [LN, numOk, verOk, rfP, rvP, rhP, frP, blH, bytesOf_length, scanR, scanH, scanP, rsP, rsR, rsH] <;> omega) | exact Ck.mk rfl) only [ee, VC, T, Nat.reduceMul, Nat.reduceAdd, Nat.reduceSub, Nat.reduceLT, Nat.reduceEqDiff, Nat.reduceLeDiff, Nat.reduceBEq, reduceCtorEq, Int.reduceToNat, ↓reduceIte, rfP, rvP, rhP, frP, blH, bytesOf_length, scanR, scanH, scanP, rsP, rsR, rsH]) <;> (try clear ee))
theorem spec_GoesOn (b : ByteArray) (p l : Int) (hb : b.size ≤ 1073741824) : Fn Tryz.prog 52 [.str b, .int .i64 p, .int .i64 l] [] (.bool ((rHead b).2.2.2.2 && decide ((rHead b).2.2.1 = p) && decide ((rHead b).2.2.2.1 = l))) [] := by
  have h := spec_ReadHead b (by omega)
  refine fn_x tok (n := 27) (rs := [.tmp 6]) Tryz.func52 (by decide) rfl rfl rfl rfl ?_
  refine Wr.go ?_
  repeat' ((first | (have ee := True.intro; refine Wr.mk ?_) | ((first | refine br_go ?_ ?_ | refine pick_go ?_ ?_) <;> intro ee f <;> (try simp only [BB] at f) <;> (try simp only [numOk, verOk] at f)) | (have ee := True.intro; first | refine call_x (h) rfl ⟨rfl⟩ ?_)) <;> (try simp (maxSteps := 1000000) (disch := first | omega | (simp only [LN, numOk, verOk, rfP, rvP, rhP, frP, blH, bytesOf_length, scanR, scanH, scanP, rsP, rsR, rsH] <;> omega) | exact Ck.mk rfl) only [ee, VC, T, Nat.reduceMul, Nat.reduceAdd, Nat.reduceSub, Nat.reduceLT, Nat.reduceEqDiff, Nat.reduceLeDiff, Nat.reduceBEq, reduceCtorEq, Int.reduceToNat, ↓reduceIte, rfP, rvP, rhP, frP, blH, bytesOf_length, scanR, scanH, scanP, rsP, rsR, rsH]) <;> (try clear ee))
end Go.Pv

/- What functions of the program and of the reference do, in plain values. -/
namespace Go.Pv
open Go.Proofs Go.Mth
set_option linter.unusedSimpArgs false
set_option linter.unusedVariables false
set_option maxHeartbeats 4000000
set_option maxRecDepth 4000

/-! ### draws: a cursor over bytes -/
section
variable {hp hr : Hp}
theorem frz1_rv' {x y : PV} (h : frz1 hp x = some y) : RV1 hp hr [] y x ∧ RV2 hp hr [] y x ∧ RV hp hr [] y x := by
  unfold frz1 at h
  split at h
  · cases h; exact ⟨.inr (.inl ⟨rfl, rfl⟩), .inr (.inl ⟨rfl, rfl⟩), .inr (.inl ⟨rfl, rfl⟩)⟩
  · cases h; exact ⟨trivial, trivial, trivial⟩
  · rename_i g n
    split at h
    · rename_i hg
      rw [Option.map_eq_some_iff] at h
      obtain ⟨xs, h1, rfl⟩ := h
      have k : RV1 hp hr [] (.far xs) (.row g n) := .inr (.inr ⟨g, n, rfl, h1, by simp, Nat.le_of_ble_eq_true hg⟩)
      exact ⟨k, k, k⟩
    · cases h
  · split at h
    · rename_i hd
      cases h
      cases x <;> first
        | exact ⟨⟨hd, rfl⟩, ⟨hd, rfl⟩, ⟨hd, rfl⟩⟩
        | exact ⟨.inl rfl, .inl rfl, .inl rfl⟩
        | cases hd
    · cases h
theorem frz2_rv' {x y : PV} (h : frz2 hp x = some y) : RV2 hp hr [] y x ∧ RV hp hr [] y x := by
  cases x
  case agg xs =>
    simp only [frz2, Option.map_eq_some_iff] at h
    obtain ⟨ys, h1, rfl⟩ := h
    have k : RV2 hp hr [] (.agg ys) (.agg xs) := ⟨xs, rfl, cvtl_rvl (fun _ _ h => (frz1_rv' h).1) h1⟩
    exact ⟨k, k⟩
  all_goals (simp only [frz2] at h; exact (frz1_rv' h).2)
theorem frz_rv' {x y : PV} (h : frz hp x = some y) : RV hp hr [] y x := by
  cases x
  case tup xs =>
    simp only [frz, Option.map_eq_some_iff] at h
    obtain ⟨ys, h1, rfl⟩ := h
    exact ⟨xs, rfl, cvtl_rvl (fun _ _ h => (frz2_rv' h).1) h1⟩
  all_goals (simp only [frz] at h; exact (frz2_rv' h).2)
theorem rvl_self : ∀ {cs : List PV}, cs.all data1 = true → RVl (RV1 hp hr []) cs cs
  | [], _ => trivial
  | x :: cs, h => by
    simp only [List.all_cons, Bool.and_eq_true] at h
    refine ⟨?_, rvl_self h.2⟩
    cases x <;> first
      | exact ⟨h.1, rfl⟩
      | exact .inl rfl
      | exact trivial
      | cases h.1
theorem fin_c {T : Tab} {rs : List ResultVar} {ha : Hp} {Q : PV → Hp → Prop} {s : St} {xs cs : List PV} {y : PV} {q : TypeId} (h1 : resv T s rs = some xs) (h2 : frz s.hp (oneOf xs) = some y) (hc : hget s.hp 0 = some (.box q cs)) (hcs : cs.all data1 = true) (hq : Q y [(0, .box q cs)]) : Fin T rs ha Q s :=
  fin_t [] hq h1 (frz_rv' h2) ⟨⟨cs, hc, rvl_self hcs⟩, trivial⟩ trivial
end
def curB (code : List Int) (i h : Int) : HC := .box 142 [.far (code.map (.int .u8)), .int .i64 i, .int .i64 h]
def CurOk (code : List Int) (i h : Int) : Prop := (0 ≤ i ∧ i ≤ code.length) ∧ i64 h
def Bytes (code : List Int) : Prop := code.length ≤ 1048576 ∧ ∀ x ∈ code, 0 ≤ x ∧ x ≤ 255
/-- What a draw brings: a value of which A holds, and a cursor. -/
def CQ (code : List Int) (A : PV → Prop) (r : PV) (m : Hp) : Prop := A r ∧ ∃ i h, m = [(0, curB code i h)] ∧ CurOk code i h
/-- 0 .. n-1; 0 where n is not above 0. -/
def Bel (n x : Int) : Prop := (n ≤ 0 → x = 0) ∧ (0 < n → 0 ≤ x ∧ x < n)
def Mem (xs : List Int) (x : Int) : Prop := x ∈ xs
def MemT (xs : List ByteArray) (x : ByteArray) : Prop := x ∈ xs
def isBool (r : PV) : Prop := ∃ x, r = .bool x
def isInt (A : Int → Prop) (r : PV) : Prop := ∃ x, r = .int .i64 x ∧ A x
def isStr' (A : ByteArray → Prop) (r : PV) : Prop := ∃ x, r = .str x ∧ A x
theorem wrap_i64r (n : Int) : i64 (IntKind.i64.wrap n) := by rw [IntKind.wrap_i64]; unfold i64; omega
theorem and_mask30 (s : Int) : Go.bits .and .i64 s 1073741823 = s % 1073741824 := and_mask64 s 30 (by decide)
theorem l01New (code : List Int) (hb : Bytes code) : FnE Tryz.prog 86 [.far (code.map (.int .u8))] [] (fun r m => r = .ref 64 0 ∧ ∃ h, m = [(64, curB code 0 h)] ∧ CurOk code 0 h) := by
  obtain ⟨hl, hx⟩ := hb
  refine fn_e tok (n := 32) (rs := [.tmp 2]) Tryz.func86 (by decide) rfl rfl rfl rfl (low_of rfl) ?_
  refine Wr.go ?_
  repeat' ((first | (have ee := True.intro; refine Wr.mk ?_) | ((first | refine br_go ?_ ?_ | refine pick_go ?_ ?_) <;> intro ee f <;> (try simp only [BB] at f) <;> (try simp only [numOk, verOk] at f))) <;> (try simp (maxSteps := 1000000) (disch := first | omega | (simp only [LN, numOk, verOk, rfP, rvP, rhP, frP, curB, bkd] <;> omega) | exact Ck.mk rfl) only [ee, VC, T, Nat.reduceMul, Nat.reduceAdd, Nat.reduceSub, Nat.reduceLT, Nat.reduceEqDiff, Nat.reduceLeDiff, Nat.reduceBEq, reduceCtorEq, Int.reduceToNat, ↓reduceIte, rfP, rvP, rhP, frP, curB, bkd]) <;> (try clear ee))
  refine lp_go (fun x : Nat × Int => ⟨32, [(0, .far (code.map (.int .u8))), (3, .int .i64 x.2), (4, .int .i64 x.1)], []⟩) (fun x => x.1 ≤ code.length ∧ 0 ≤ x.2 ∧ x.2 ≤ 1073741824) (fun x => code.length - x.1) (0, 94701 + code.length) ?_ ⟨Nat.zero_le _, by simp only; omega, by simp only; omega⟩ ?_
  · (simp (disch := first | omega | (simp only [LN, numOk, verOk] <;> omega) | exact Ck.mk rfl) only [SB, EQ, Nat.reduceMul, Nat.reduceAdd, Nat.reduceSub, Nat.reduceLT, Nat.reduceEqDiff, Nat.reduceLeDiff, Nat.reduceBEq, reduceCtorEq, Int.reduceToNat, ↓reduceIte]; try omega)
  · rintro ⟨i, h⟩ ⟨h1, h2, h3⟩ N hN
    simp only at h1 h2 h3
    have hg : i < code.length → 0 ≤ code.getD i default ∧ code.getD i default ≤ 255 := fun h => hx _ (getD_mem _ _ h)
    refine Wr.go ?_
    repeat' ((first | (have ee := True.intro; refine Wr.mk ?_) | ((first | refine br_go ?_ ?_ | refine pick_go ?_ ?_) <;> intro ee f <;> (try simp only [BB] at f) <;> (try simp only [numOk, verOk] at f))) <;> (try simp (maxSteps := 1000000) (disch := first | omega | (simp only [LN, numOk, verOk, rfP, rvP, rhP, frP, curB, bkd, and_mask30] <;> omega) | exact Ck.mk rfl) only [ee, VC, T, Nat.reduceMul, Nat.reduceAdd, Nat.reduceSub, Nat.reduceLT, Nat.reduceEqDiff, Nat.reduceLeDiff, Nat.reduceBEq, reduceCtorEq, Int.reduceToNat, ↓reduceIte, rfP, rvP, rhP, frP, curB, bkd, and_mask30]) <;> (try clear ee))
    · refine hN (i + 1, (h * 131 + code.getD i default + 7) % 1073741824) _ ⟨by simp only; omega, by simp only; omega, by simp only; omega⟩ (by simp only; omega) ?_
      (simp (disch := first | omega | (simp only [LN, numOk, verOk] <;> omega) | exact Ck.mk rfl) only [SB, EQ, Nat.reduceMul, Nat.reduceAdd, Nat.reduceSub, Nat.reduceLT, Nat.reduceEqDiff, Nat.reduceLeDiff, Nat.reduceBEq, reduceCtorEq, Int.reduceToNat, ↓reduceIte]; try omega)
    · exact fin_t [some 2048] (⟨rfl, h, rfl, ⟨by omega, by omega⟩, by unfold i64; omega⟩) rfl (by simp [RV, RV2, RVl, RV1, tau, tget, hget, data1, oneOf, curB]) (by simp [RH, RVl, RV1, tau, hget, data1, curB]) (by simp [Taus, hget, curB])
    · exact fin_t [some 2048] (⟨rfl, h, rfl, ⟨by omega, by omega⟩, by unfold i64; omega⟩) rfl (by simp [RV, RV2, RVl, RV1, tau, tget, hget, data1, oneOf, curB]) (by simp [RH, RVl, RV1, tau, hget, data1, curB]) (by simp [Taus, hget, curB])
theorem l01Byte (code : List Int) (hb : Bytes code) (i h : Int) (hc : CurOk code i h) : FnE Tryz.prog 155 [.ref 0 0] [(0, curB code i h)] (CQ code (isInt (Bel 256))) := by
  obtain ⟨⟨h1, h2⟩, h3⟩ := hc
  obtain ⟨hl, hx⟩ := hb
  have hw := wrap_i64r (IntKind.i64.wrap (h * 6364136223846793005) + 1442695040888963407)
  have hg : ∀ n : Nat, n < code.length → 0 ≤ code.getD n default ∧ code.getD n default ≤ 255 := fun n h => hx _ (getD_mem _ _ h)
  refine fn_e tok (n := 58) (rs := [.tmp 2]) Tryz.func155 (by decide) rfl rfl rfl rfl (low_of rfl) ?_
  refine Wr.go ?_
  repeat' ((first | (have ee := True.intro; refine Wr.mk ?_) | ((first | refine br_go ?_ ?_ | refine pick_go ?_ ?_) <;> intro ee f <;> (try simp only [BB] at f) <;> (try simp only [numOk, verOk] at f)) | (have ee := True.intro; first | refine dr_go mixed (id := 2) [([], [0], []), ([0], [13], []), ([0, 1], [14], []), ([0, 1, 2], [15], []), ([0, 1, 2, 3], [16], []), ([], [0], []), ([5], [18], []), ([5, 6], [19], []), ([5, 6, 7], [20], []), ([5, 6, 7, 8], [21], []), ([0, 1, 2, 3, 4, 5, 6, 7, 8, 9], [17, 22], []), ([0, 1, 2, 3, 4, 5, 6, 7, 8, 9, 10], [23], []), ([0, 1, 2, 3, 4, 5, 6, 7, 8, 9, 10, 11], [24], [])] rfl rfl rfl ?_ | refine dr_go mixed (id := 3) [([], [0], []), ([0], [25], []), ([0, 1], [26], []), ([0, 1, 2], [27], []), ([], [0], []), ([4], [29], []), ([4, 5], [30], []), ([4, 5, 6], [31], []), ([4, 5, 6, 7], [32], []), ([0, 1, 2, 3, 4, 5, 6, 7, 8], [28, 33], [])] rfl rfl rfl ?_ | refine dr_go mixed (id := 4) [([], [3], []), ([], [0], []), ([1], [36], []), ([1, 2], [37], []), ([1, 2, 3], [38], []), ([], [0], []), ([5], [40], []), ([5, 6], [41], []), ([5, 6, 7], [42], []), ([1, 2, 3, 4, 5, 6, 7, 8], [39, 43], []), ([1, 2, 3, 4, 5, 6, 7, 8, 9], [44], []), ([1, 2, 3, 4, 5, 6, 7, 8, 9, 10], [45], []), ([0, 1, 2, 3, 4, 5, 6, 7, 8, 9, 10, 11], [35, 46], []), ([0, 1, 2, 3, 4, 5, 6, 7, 8, 9, 10, 11, 12], [47], []), ([0, 1, 2, 3, 4, 5, 6, 7, 8, 9, 10, 11, 12, 13], [48], [])] rfl rfl rfl ?_)) <;> (try simp (maxSteps := 1000000) (disch := first | omega | (simp only [LN, numOk, verOk, rfP, rvP, rhP, frP, curB, bkd, and_255] <;> omega) | exact Ck.mk rfl) only [ee, VC, T, Nat.reduceMul, Nat.reduceAdd, Nat.reduceSub, Nat.reduceLT, Nat.reduceEqDiff, Nat.reduceLeDiff, Nat.reduceBEq, reduceCtorEq, Int.reduceToNat, ↓reduceIte, rfP, rvP, rhP, frP, curB, bkd, and_255]) <;> (try clear ee))
  · refine fin_c rfl (by first | rfl | (simp (maxSteps := 1000000) (disch := first | omega | (simp only [LN, numOk, verOk, rfP, rvP, rhP, frP, curB, bkd] <;> omega) | exact Ck.mk rfl) only [VC, T, Nat.reduceMul, Nat.reduceAdd, Nat.reduceSub, Nat.reduceLT, Nat.reduceEqDiff, Nat.reduceLeDiff, Nat.reduceBEq, reduceCtorEq, Int.reduceToNat, ↓reduceIte, rfP, rvP, rhP, frP, curB, bkd]; done)) rfl rfl ?_
    exact ⟨⟨_, rfl, fun h => by omega, fun _ => by omega⟩, _, _, rfl, ⟨by omega, by omega⟩, hw⟩
  · refine fin_c rfl (by first | rfl | (simp (maxSteps := 1000000) (disch := first | omega | (simp only [LN, numOk, verOk, rfP, rvP, rhP, frP, curB, bkd] <;> omega) | exact Ck.mk rfl) only [VC, T, Nat.reduceMul, Nat.reduceAdd, Nat.reduceSub, Nat.reduceLT, Nat.reduceEqDiff, Nat.reduceLeDiff, Nat.reduceBEq, reduceCtorEq, Int.reduceToNat, ↓reduceIte, rfP, rvP, rhP, frP, curB, bkd]; done)) rfl rfl ?_
    exact ⟨⟨_, rfl, fun h => by omega, fun _ => by omega⟩, _, _, rfl, ⟨by omega, by omega⟩, hw⟩
theorem l01Below (code : List Int) (hb : Bytes code) (n : Int) (hn : n ≤ 1000000000) (i h : Int) (hc : CurOk code i h) : FnE Tryz.prog 106 [.ref 0 0, .int .i64 n] [(0, curB code i h)] (CQ code (isInt (Bel n))) := by
  have ht : ∀ x : Int, 0 ≤ x → x.tmod n = x % n := fun x h => Int.tmod_eq_emod_of_nonneg h
  have hm : ∀ x : Int, 0 < n → 0 ≤ x % n ∧ x % n < n := fun x h => ⟨Int.emod_nonneg _ (by omega), Int.emod_lt_of_pos _ h⟩
  refine fn_e tok (n := 37) (rs := [.tmp 4]) Tryz.func106 (by decide) rfl rfl rfl rfl (low_of rfl) ?_
  refine Wr.go ?_
  repeat' ((first | (have ee := True.intro; refine Wr.mk ?_) | ((first | refine br_go ?_ ?_ | refine pick_go ?_ ?_) <;> intro ee f <;> (try simp only [BB] at f) <;> (try simp only [numOk, verOk] at f)) | (have ee := True.intro; first | (refine call_h [0] [] (l01Byte code hb _ _ (by assumption)) (by decide) rfl rfl ?_; rintro _ _ ⟨⟨x, rfl, hx1, hx2⟩, i', h', rfl, hc'⟩))) <;> (try simp (maxSteps := 1000000) (disch := first | omega | (simp only [LN, numOk, verOk, rfP, rvP, rhP, frP, curB, bkd, ht] <;> omega) | exact Ck.mk rfl) only [ee, VC, T, Nat.reduceMul, Nat.reduceAdd, Nat.reduceSub, Nat.reduceLT, Nat.reduceEqDiff, Nat.reduceLeDiff, Nat.reduceBEq, reduceCtorEq, Int.reduceToNat, ↓reduceIte, rfP, rvP, rhP, frP, curB, bkd, ht]) <;> (try clear ee))
  · refine fin_c rfl (by first | rfl | (simp (maxSteps := 1000000) (disch := first | omega | (simp only [LN, numOk, verOk, rfP, rvP, rhP, frP, curB, bkd] <;> omega) | exact Ck.mk rfl) only [VC, T, Nat.reduceMul, Nat.reduceAdd, Nat.reduceSub, Nat.reduceLT, Nat.reduceEqDiff, Nat.reduceLeDiff, Nat.reduceBEq, reduceCtorEq, Int.reduceToNat, ↓reduceIte, rfP, rvP, rhP, frP, curB, bkd]; done)) rfl rfl ?_
    exact ⟨⟨_, rfl, fun _ => rfl, fun _ => by omega⟩, _, _, rfl, by assumption⟩
  · refine fin_c rfl (by first | rfl | (simp (maxSteps := 1000000) (disch := first | omega | (simp only [LN, numOk, verOk, rfP, rvP, rhP, frP, curB, bkd] <;> omega) | exact Ck.mk rfl) only [VC, T, Nat.reduceMul, Nat.reduceAdd, Nat.reduceSub, Nat.reduceLT, Nat.reduceEqDiff, Nat.reduceLeDiff, Nat.reduceBEq, reduceCtorEq, Int.reduceToNat, ↓reduceIte, rfP, rvP, rhP, frP, curB, bkd]; done)) rfl rfl ?_
    refine ⟨⟨_, rfl, ?_, ?_⟩, _, _, rfl, by assumption⟩
    · intro h; omega
    · intro h; exact hm _ h
  · refine fin_c rfl (by first | rfl | (simp (maxSteps := 1000000) (disch := first | omega | (simp only [LN, numOk, verOk, rfP, rvP, rhP, frP, curB, bkd] <;> omega) | exact Ck.mk rfl) only [VC, T, Nat.reduceMul, Nat.reduceAdd, Nat.reduceSub, Nat.reduceLT, Nat.reduceEqDiff, Nat.reduceLeDiff, Nat.reduceBEq, reduceCtorEq, Int.reduceToNat, ↓reduceIte, rfP, rvP, rhP, frP, curB, bkd]; done)) rfl rfl ?_
    refine ⟨⟨_, rfl, ?_, ?_⟩, _, _, rfl, by assumption⟩
    · intro h; omega
    · intro h; exact hm _ h
theorem l01Once (code : List Int) (hb : Bytes code) (n : Int) (hn : n ≤ 1000000000) (i h : Int) (hc : CurOk code i h) : FnE Tryz.prog 137 [.ref 0 0, .int .i64 n] [(0, curB code i h)] (CQ code isBool) := by
  refine fn_e tok (n := 9) (rs := [.tmp 4]) Tryz.func137 (by decide) rfl rfl rfl rfl (low_of rfl) ?_
  refine Wr.go ?_
  repeat' ((first | (have ee := True.intro; refine Wr.mk ?_) | ((first | refine br_go ?_ ?_ | refine pick_go ?_ ?_) <;> intro ee f <;> (try simp only [BB] at f) <;> (try simp only [numOk, verOk] at f)) | (have ee := True.intro; first | (refine call_h [0] [] (l01Below code hb _ (by omega) _ _ (by assumption)) (by decide) rfl rfl ?_; rintro _ _ ⟨⟨x, rfl, hx1, hx2⟩, i', h', rfl, hc'⟩))) <;> (try simp (maxSteps := 1000000) (disch := first | omega | (simp only [LN, numOk, verOk, rfP, rvP, rhP, frP, curB, bkd] <;> omega) | exact Ck.mk rfl) only [ee, VC, T, Nat.reduceMul, Nat.reduceAdd, Nat.reduceSub, Nat.reduceLT, Nat.reduceEqDiff, Nat.reduceLeDiff, Nat.reduceBEq, reduceCtorEq, Int.reduceToNat, ↓reduceIte, rfP, rvP, rhP, frP, curB, bkd]) <;> (try clear ee))
  refine fin_c rfl (by first | rfl | (simp (maxSteps := 1000000) (disch := first | omega | (simp only [LN, numOk, verOk, rfP, rvP, rhP, frP, curB, bkd] <;> omega) | exact Ck.mk rfl) only [VC, T, Nat.reduceMul, Nat.reduceAdd, Nat.reduceSub, Nat.reduceLT, Nat.reduceEqDiff, Nat.reduceLeDiff, Nat.reduceBEq, reduceCtorEq, Int.reduceToNat, ↓reduceIte, rfP, rvP, rhP, frP, curB, bkd]; done)) rfl rfl ?_
  exact ⟨⟨_, rfl⟩, _, _, rfl, by assumption⟩
theorem l01PickInt (code : List Int) (hb : Bytes code) (xs : List Int) (h0 : xs ≠ []) (hl : xs.length ≤ 1000) (i h : Int) (hc : CurOk code i h) : FnE Tryz.prog 143 [.ref 0 0, .far (xs.map (.int .i64))] [(0, curB code i h)] (CQ code (isInt (Mem xs))) := by
  have hl0 : 0 < xs.length := List.length_pos_iff.2 h0
  refine fn_e tok (n := 12) (rs := [.tmp 4]) Tryz.func143 (by decide) rfl rfl rfl rfl (low_of rfl) ?_
  refine Wr.go ?_
  repeat' ((first | (have ee := True.intro; refine Wr.mk ?_) | ((first | refine br_go ?_ ?_ | refine pick_go ?_ ?_) <;> intro ee f <;> (try simp only [BB] at f) <;> (try simp only [numOk, verOk] at f)) | (have ee := True.intro; first | (refine call_h [0] [] (l01Below code hb _ (by omega) _ _ (by assumption)) (by decide) rfl rfl ?_; rintro _ _ ⟨⟨x, rfl, hx1, hx2⟩, i', h', rfl, hc'⟩))) <;> (try simp (maxSteps := 1000000) (disch := first | omega | (simp only [LN, numOk, verOk, rfP, rvP, rhP, frP, curB, bkd] <;> omega) | exact Ck.mk rfl) only [ee, VC, T, Nat.reduceMul, Nat.reduceAdd, Nat.reduceSub, Nat.reduceLT, Nat.reduceEqDiff, Nat.reduceLeDiff, Nat.reduceBEq, reduceCtorEq, Int.reduceToNat, ↓reduceIte, rfP, rvP, rhP, frP, curB, bkd]) <;> (try clear ee))
  refine Wr.go ?_
  repeat' ((first | (have ee := True.intro; refine Wr.mk ?_) | ((first | refine br_go ?_ ?_ | refine pick_go ?_ ?_) <;> intro ee f <;> (try simp only [BB] at f) <;> (try simp only [numOk, verOk] at f)) | (have ee := True.intro; first | (refine call_h [0] [] (l01Below code hb _ (by omega) _ _ (by assumption)) (by decide) rfl rfl ?_; rintro _ _ ⟨⟨x, rfl, hx1, hx2⟩, i', h', rfl, hc'⟩))) <;> (try simp (maxSteps := 1000000) (disch := first | omega | (simp only [LN, numOk, verOk, rfP, rvP, rhP, frP, curB, bkd] <;> omega) | exact Ck.mk rfl) only [ee, VC, T, Nat.reduceMul, Nat.reduceAdd, Nat.reduceSub, Nat.reduceLT, Nat.reduceEqDiff, Nat.reduceLeDiff, Nat.reduceBEq, reduceCtorEq, Int.reduceToNat, ↓reduceIte, rfP, rvP, rhP, frP, curB, bkd]) <;> (try clear ee))
  refine fin_c rfl (by first | rfl | (simp (maxSteps := 1000000) (disch := first | omega | (simp only [LN, numOk, verOk, rfP, rvP, rhP, frP, curB, bkd] <;> omega) | exact Ck.mk rfl) only [VC, T, Nat.reduceMul, Nat.reduceAdd, Nat.reduceSub, Nat.reduceLT, Nat.reduceEqDiff, Nat.reduceLeDiff, Nat.reduceBEq, reduceCtorEq, Int.reduceToNat, ↓reduceIte, rfP, rvP, rhP, frP, curB, bkd]; done)) rfl rfl ?_
  exact ⟨⟨_, rfl, getD_mem _ _ (by omega)⟩, _, _, rfl, by assumption⟩
theorem l01Pick (code : List Int) (hb : Bytes code) (xs : List ByteArray) (h0 : xs ≠ []) (hl : xs.length ≤ 1000) (i h : Int) (hc : CurOk code i h) : FnE Tryz.prog 182 [.ref 0 0, .far (xs.map .str)] [(0, curB code i h)] (CQ code (isStr' (MemT xs))) := by
  have hl0 : 0 < xs.length := List.length_pos_iff.2 h0
  refine fn_e tok (n := 12) (rs := [.tmp 4]) Tryz.func182 (by decide) rfl rfl rfl rfl (low_of rfl) ?_
  refine Wr.go ?_
  repeat' ((first | (have ee := True.intro; refine Wr.mk ?_) | ((first | refine br_go ?_ ?_ | refine pick_go ?_ ?_) <;> intro ee f <;> (try simp only [BB] at f) <;> (try simp only [numOk, verOk] at f)) | (have ee := True.intro; first | (refine call_h [0] [] (l01Below code hb _ (by omega) _ _ (by assumption)) (by decide) rfl rfl ?_; rintro _ _ ⟨⟨x, rfl, hx1, hx2⟩, i', h', rfl, hc'⟩))) <;> (try simp (maxSteps := 1000000) (disch := first | omega | (simp only [LN, numOk, verOk, rfP, rvP, rhP, frP, curB, bkd] <;> omega) | exact Ck.mk rfl) only [ee, VC, T, Nat.reduceMul, Nat.reduceAdd, Nat.reduceSub, Nat.reduceLT, Nat.reduceEqDiff, Nat.reduceLeDiff, Nat.reduceBEq, reduceCtorEq, Int.reduceToNat, ↓reduceIte, rfP, rvP, rhP, frP, curB, bkd]) <;> (try clear ee))
  refine fin_c rfl (by first | rfl | (simp (maxSteps := 1000000) (disch := first | omega | (simp only [LN, numOk, verOk, rfP, rvP, rhP, frP, curB, bkd] <;> omega) | exact Ck.mk rfl) only [VC, T, Nat.reduceMul, Nat.reduceAdd, Nat.reduceSub, Nat.reduceLT, Nat.reduceEqDiff, Nat.reduceLeDiff, Nat.reduceBEq, reduceCtorEq, Int.reduceToNat, ↓reduceIte, rfP, rvP, rhP, frP, curB, bkd]; done)) rfl rfl ?_
  exact ⟨⟨_, rfl, getD_mem _ _ (by omega)⟩, _, _, rfl, by assumption⟩
def SzIn (n : Int) (x : ByteArray) : Prop := (x.size : Int) ≤ n
theorem l01Text (code : List Int) (hb : Bytes code) (n : Int) (hn : n ≤ 1000000) (i h : Int) (hc : CurOk code i h) : FnE Tryz.prog 222 [.ref 0 0, .int .i64 n] [(0, curB code i h)] (CQ code (isStr' (SzIn (max 0 n)))) := by
  refine fn_e tok (n := 23) (rs := [.tmp 4]) Tryz.func222 (by decide) rfl rfl rfl rfl (low_of rfl) ?_
  refine Wr.go ?_
  repeat' ((first | (have ee := True.intro; refine Wr.mk ?_) | ((first | refine br_go ?_ ?_ | refine pick_go ?_ ?_) <;> intro ee f <;> (try simp only [BB] at f) <;> (try simp only [numOk, verOk] at f))) <;> (try simp (maxSteps := 1000000) (disch := first | omega | (simp only [LN, numOk, verOk, rfP, rvP, rhP, frP, curB, bkd] <;> omega) | exact Ck.mk rfl) only [ee, VC, T, Nat.reduceMul, Nat.reduceAdd, Nat.reduceSub, Nat.reduceLT, Nat.reduceEqDiff, Nat.reduceLeDiff, Nat.reduceBEq, reduceCtorEq, Int.reduceToNat, ↓reduceIte, rfP, rvP, rhP, frP, curB, bkd]) <;> (try clear ee))
  · refine lp_go (fun x : List Int × Int × Int => ⟨23, [(0, .ref 0 0), (1, .int .i64 5000), (5, .row 640 x.1.length), (6, .int .i64 x.1.length)], [(640, .row ⟨1, 0⟩ (x.1.map (.int .u8))), (0, curB code x.2.1 x.2.2)]⟩) (fun x => ((x.1.length : Int) ≤ max 0 5000 ∧ ∀ z ∈ x.1, 0 ≤ z ∧ z ≤ 255) ∧ CurOk code x.2.1 x.2.2) (fun x => (5000 : Int).toNat - x.1.length) ([], i, h) ?_ ⟨⟨by simp only [List.length_nil]; omega, fun _ h => absurd h (by simp)⟩, hc⟩ ?_
    · (simp (disch := first | omega | (simp only [LN, numOk, verOk, curB] <;> omega) | exact Ck.mk rfl) only [SB, EQ, Nat.reduceMul, Nat.reduceAdd, Nat.reduceSub, Nat.reduceLT, Nat.reduceEqDiff, Nat.reduceLeDiff, Nat.reduceBEq, reduceCtorEq, Int.reduceToNat, ↓reduceIte, curB]; try omega)
    · rintro ⟨bs, i, h⟩ ⟨⟨h1, h2⟩, hc⟩ N hN
      simp only at h1 h2 hc
      refine Wr.go ?_
      repeat' ((first | (have ee := True.intro; refine Wr.mk ?_) | ((first | refine br_go ?_ ?_ | refine pick_go ?_ ?_) <;> intro ee f <;> (try simp only [BB] at f) <;> (try simp only [numOk, verOk] at f)) | (have ee := True.intro; first | (refine call_h [0] [] (l01Byte code hb _ _ (by assumption)) (by decide) rfl rfl ?_; rintro _ _ ⟨⟨x, rfl, hx1, hx2⟩, i', h', rfl, hc'⟩))) <;> (try simp (maxSteps := 1000000) (disch := first | omega | (simp only [LN, numOk, verOk, rfP, rvP, rhP, frP, curB, bkd] <;> omega) | exact Ck.mk rfl) only [ee, VC, T, Nat.reduceMul, Nat.reduceAdd, Nat.reduceSub, Nat.reduceLT, Nat.reduceEqDiff, Nat.reduceLeDiff, Nat.reduceBEq, reduceCtorEq, Int.reduceToNat, ↓reduceIte, rfP, rvP, rhP, frP, curB, bkd]) <;> (try clear ee))
      · have hx := hx2 (by decide)
        refine hN (bs ++ [x % 256], i', h') _ ⟨⟨by simp only [List.length_append, List.length_singleton]; omega, fun z hz => ?_⟩, hc'⟩ (by simp only [List.length_append, List.length_singleton]; omega) ?_
        · rcases List.mem_append.1 hz with hz | hz
          · exact h2 z hz
          · rw [List.mem_singleton.1 hz]; omega
        · (simp (disch := first | omega | (simp only [LN, numOk, verOk, curB] <;> omega) | exact Ck.mk rfl) only [SB, EQ, Nat.reduceMul, Nat.reduceAdd, Nat.reduceSub, Nat.reduceLT, Nat.reduceEqDiff, Nat.reduceLeDiff, Nat.reduceBEq, reduceCtorEq, Int.reduceToNat, ↓reduceIte, curB]; try omega)
      · refine ⟨fun z hz => by have := h2 z hz; omega, ?_⟩
        refine fin_c rfl (by first | rfl | (simp (maxSteps := 1000000) (disch := first | omega | (simp only [LN, numOk, verOk, rfP, rvP, rhP, frP, curB, bkd] <;> omega) | exact Ck.mk rfl) only [VC, T, Nat.reduceMul, Nat.reduceAdd, Nat.reduceSub, Nat.reduceLT, Nat.reduceEqDiff, Nat.reduceLeDiff, Nat.reduceBEq, reduceCtorEq, Int.reduceToNat, ↓reduceIte, rfP, rvP, rhP, frP, curB, bkd]; done)) rfl rfl ?_
        exact ⟨⟨_, rfl, by unfold SzIn; rw [strOf_size]; omega⟩, _, _, rfl, hc⟩
  · refine lp_go (fun x : List Int × Int × Int => ⟨23, [(0, .ref 0 0), (1, .int .i64 n), (5, .row 640 x.1.length), (6, .int .i64 x.1.length)], [(640, .row ⟨1, 0⟩ (x.1.map (.int .u8))), (0, curB code x.2.1 x.2.2)]⟩) (fun x => ((x.1.length : Int) ≤ max 0 n ∧ ∀ z ∈ x.1, 0 ≤ z ∧ z ≤ 255) ∧ CurOk code x.2.1 x.2.2) (fun x => (n : Int).toNat - x.1.length) ([], i, h) ?_ ⟨⟨by simp only [List.length_nil]; omega, fun _ h => absurd h (by simp)⟩, hc⟩ ?_
    · (simp (disch := first | omega | (simp only [LN, numOk, verOk, curB] <;> omega) | exact Ck.mk rfl) only [SB, EQ, Nat.reduceMul, Nat.reduceAdd, Nat.reduceSub, Nat.reduceLT, Nat.reduceEqDiff, Nat.reduceLeDiff, Nat.reduceBEq, reduceCtorEq, Int.reduceToNat, ↓reduceIte, curB]; try omega)
    · rintro ⟨bs, i, h⟩ ⟨⟨h1, h2⟩, hc⟩ N hN
      simp only at h1 h2 hc
      refine Wr.go ?_
      repeat' ((first | (have ee := True.intro; refine Wr.mk ?_) | ((first | refine br_go ?_ ?_ | refine pick_go ?_ ?_) <;> intro ee f <;> (try simp only [BB] at f) <;> (try simp only [numOk, verOk] at f)) | (have ee := True.intro; first | (refine call_h [0] [] (l01Byte code hb _ _ (by assumption)) (by decide) rfl rfl ?_; rintro _ _ ⟨⟨x, rfl, hx1, hx2⟩, i', h', rfl, hc'⟩))) <;> (try simp (maxSteps := 1000000) (disch := first | omega | (simp only [LN, numOk, verOk, rfP, rvP, rhP, frP, curB, bkd] <;> omega) | exact Ck.mk rfl) only [ee, VC, T, Nat.reduceMul, Nat.reduceAdd, Nat.reduceSub, Nat.reduceLT, Nat.reduceEqDiff, Nat.reduceLeDiff, Nat.reduceBEq, reduceCtorEq, Int.reduceToNat, ↓reduceIte, rfP, rvP, rhP, frP, curB, bkd]) <;> (try clear ee))
      · have hx := hx2 (by decide)
        refine hN (bs ++ [x % 256], i', h') _ ⟨⟨by simp only [List.length_append, List.length_singleton]; omega, fun z hz => ?_⟩, hc'⟩ (by simp only [List.length_append, List.length_singleton]; omega) ?_
        · rcases List.mem_append.1 hz with hz | hz
          · exact h2 z hz
          · rw [List.mem_singleton.1 hz]; omega
        · (simp (disch := first | omega | (simp only [LN, numOk, verOk, curB] <;> omega) | exact Ck.mk rfl) only [SB, EQ, Nat.reduceMul, Nat.reduceAdd, Nat.reduceSub, Nat.reduceLT, Nat.reduceEqDiff, Nat.reduceLeDiff, Nat.reduceBEq, reduceCtorEq, Int.reduceToNat, ↓reduceIte, curB]; try omega)
      · refine ⟨fun z hz => by have := h2 z hz; omega, ?_⟩
        refine fin_c rfl (by first | rfl | (simp (maxSteps := 1000000) (disch := first | omega | (simp only [LN, numOk, verOk, rfP, rvP, rhP, frP, curB, bkd] <;> omega) | exact Ck.mk rfl) only [VC, T, Nat.reduceMul, Nat.reduceAdd, Nat.reduceSub, Nat.reduceLT, Nat.reduceEqDiff, Nat.reduceLeDiff, Nat.reduceBEq, reduceCtorEq, Int.reduceToNat, ↓reduceIte, rfP, rvP, rhP, frP, curB, bkd]; done)) rfl rfl ?_
        exact ⟨⟨_, rfl, by unfold SzIn; rw [strOf_size]; omega⟩, _, _, rfl, hc⟩
def isHd (A : Int × Int × Int × Int → Prop) (r : PV) : Prop := ∃ v s b l, r = .agg [.int .i64 v, .int .i64 s, .int .i64 b, .int .i64 l] ∧ A (v, s, b, l)
def Hd8 (x : Int × Int × Int × Int) : Prop := (1 ≤ x.1 ∧ x.1 ≤ 2) ∧ (1 ≤ x.2.1 ∧ x.2.1 ≤ 4) ∧ (0 ≤ x.2.2.1 ∧ x.2.2.1 ≤ 8) ∧ (0 ≤ x.2.2.2 ∧ x.2.2.2 ≤ 999999)
theorem l08Head (code : List Int) (hb : Bytes code) (i h : Int) (hc : CurOk code i h) : FnE Tryz.prog 223 [.ref 0 0] [(0, curB code i h)] (CQ code (isHd Hd8)) := by
  refine fn_e tok (n := 14) (rs := [.cell 2 61]) Tryz.func223 (by decide) rfl rfl rfl rfl (low_of rfl) ?_
  refine Wr.go ?_
  repeat' ((first | (have ee := True.intro; refine Wr.mk ?_) | ((first | refine br_go ?_ ?_ | refine pick_go ?_ ?_) <;> intro ee f <;> (try simp only [BB] at f) <;> (try simp only [numOk, verOk] at f)) | (have ee := True.intro; first | (refine call_h [0] [] (l01Below code hb _ (by omega) _ _ (by assumption)) (by decide) rfl rfl ?_; rintro _ _ ⟨⟨x, rfl, hx1, hx2⟩, i', h', rfl, hc'⟩))) <;> (try simp (maxSteps := 1000000) (disch := first | omega | (simp only [LN, numOk, verOk, rfP, rvP, rhP, frP, curB, bkd] <;> omega) | exact Ck.mk rfl) only [ee, VC, T, Nat.reduceMul, Nat.reduceAdd, Nat.reduceSub, Nat.reduceLT, Nat.reduceEqDiff, Nat.reduceLeDiff, Nat.reduceBEq, reduceCtorEq, Int.reduceToNat, ↓reduceIte, rfP, rvP, rhP, frP, curB, bkd]) <;> (try clear ee))
  refine fin_c rfl (by first | rfl | (simp (maxSteps := 1000000) (disch := first | omega | (simp only [LN, numOk, verOk, rfP, rvP, rhP, frP, curB, bkd] <;> omega) | exact Ck.mk rfl) only [VC, T, Nat.reduceMul, Nat.reduceAdd, Nat.reduceSub, Nat.reduceLT, Nat.reduceEqDiff, Nat.reduceLeDiff, Nat.reduceBEq, reduceCtorEq, Int.reduceToNat, ↓reduceIte, rfP, rvP, rhP, frP, curB, bkd]; done)) rfl rfl ?_
  exact ⟨⟨_, _, _, _, rfl, by unfold Hd8; simp only; omega⟩, _, _, rfl, by assumption⟩
def Rec (x : ByteArray) : Prop := x.size ≤ 60
theorem l08Record (code : List Int) (hb : Bytes code) (i h : Int) (hc : CurOk code i h) : FnE Tryz.prog 183 [.ref 0 0] [(0, curB code i h)] (CQ code (isStr' Rec)) := by
  refine fn_e tok (n := 18) (rs := [.tmp 2]) Tryz.func183 (by decide) rfl rfl rfl rfl (low_of rfl) ?_
  refine Wr.go ?_
  repeat' ((first | (have ee := True.intro; refine Wr.mk ?_) | ((first | refine br_go ?_ ?_ | refine pick_go ?_ ?_) <;> intro ee f <;> (try simp only [BB] at f) <;> (try simp only [numOk, verOk] at f)) | (have ee := True.intro; first | (refine call_h [0] [] (l01Below code hb _ (by omega) _ _ (by assumption)) (by decide) rfl rfl ?_; rintro _ _ ⟨⟨x, rfl, hx1, hx2⟩, i', h', rfl, hc'⟩) | (refine call_h [0] [] (l01Text code hb _ (by omega) _ _ (by assumption)) (by decide) rfl rfl ?_; rintro _ _ ⟨⟨t, rfl, ht⟩, i', h', rfl, hc'⟩))) <;> (try simp (maxSteps := 1000000) (disch := first | omega | (simp only [LN, numOk, verOk, rfP, rvP, rhP, frP, curB, bkd] <;> omega) | exact Ck.mk rfl) only [ee, VC, T, Nat.reduceMul, Nat.reduceAdd, Nat.reduceSub, Nat.reduceLT, Nat.reduceEqDiff, Nat.reduceLeDiff, Nat.reduceBEq, reduceCtorEq, Int.reduceToNat, ↓reduceIte, rfP, rvP, rhP, frP, curB, bkd]) <;> (try clear ee))
  all_goals
    refine fin_c rfl (by first | rfl | (simp (maxSteps := 1000000) (disch := first | omega | (simp only [LN, numOk, verOk, rfP, rvP, rhP, frP, curB, bkd] <;> omega) | exact Ck.mk rfl) only [VC, T, Nat.reduceMul, Nat.reduceAdd, Nat.reduceSub, Nat.reduceLT, Nat.reduceEqDiff, Nat.reduceLeDiff, Nat.reduceBEq, reduceCtorEq, Int.reduceToNat, ↓reduceIte, rfP, rvP, rhP, frP, curB, bkd]; done)) rfl rfl ?_
    refine ⟨⟨_, rfl, ?_⟩, _, _, rfl, by assumption⟩
    first
      | exact Nat.zero_le _
      | (unfold SzIn at ht; unfold Rec; omega)
def isTexts (A : List ByteArray → Prop) (r : PV) : Prop := ∃ x, r = .far (x.map .str) ∧ A x
def Recs (n : Int) (x : List ByteArray) : Prop := (x.length : Int) ≤ n ∧ ∀ r ∈ x, r.size ≤ 60
theorem l08Records (code : List Int) (hb : Bytes code) (n : Int) (hn : 0 ≤ n ∧ n ≤ 1000) (i h : Int) (hc : CurOk code i h) : FnE Tryz.prog 184 [.ref 0 0, .int .i64 n] [(0, curB code i h)] (CQ code (isTexts (Recs n))) := by
  refine fn_e tok (n := 22) (rs := [.tmp 4]) Tryz.func184 (by decide) rfl rfl rfl rfl (low_of rfl) ?_
  refine Wr.go ?_
  repeat' ((first | (have ee := True.intro; refine Wr.mk ?_) | ((first | refine br_go ?_ ?_ | refine pick_go ?_ ?_) <;> intro ee f <;> (try simp only [BB] at f) <;> (try simp only [numOk, verOk] at f))) <;> (try simp (maxSteps := 1000000) (disch := first | omega | (simp only [LN, numOk, verOk, rfP, rvP, rhP, frP, curB, bkd] <;> omega) | exact Ck.mk rfl) only [ee, VC, T, Nat.reduceMul, Nat.reduceAdd, Nat.reduceSub, Nat.reduceLT, Nat.reduceEqDiff, Nat.reduceLeDiff, Nat.reduceBEq, reduceCtorEq, Int.reduceToNat, ↓reduceIte, rfP, rvP, rhP, frP, curB, bkd]) <;> (try clear ee))
  refine lp_go (fun x : List ByteArray × Int × Int => ⟨22, [(0, .ref 0 0), (1, .int .i64 n), (5, .row 512 x.1.length), (6, .int .i64 x.1.length)], [(512, .row ⟨1, 0⟩ (x.1.map .str)), (0, curB code x.2.1 x.2.2)]⟩) (fun x => Recs n x.1 ∧ CurOk code x.2.1 x.2.2) (fun x => n.toNat - x.1.length) ([], i, h) ?_ ⟨⟨by simp only [List.length_nil]; omega, fun _ h => absurd h (by simp)⟩, hc⟩ ?_
  · (simp (disch := first | omega | (simp only [LN, numOk, verOk, curB] <;> omega) | exact Ck.mk rfl) only [SB, EQ, Nat.reduceMul, Nat.reduceAdd, Nat.reduceSub, Nat.reduceLT, Nat.reduceEqDiff, Nat.reduceLeDiff, Nat.reduceBEq, reduceCtorEq, Int.reduceToNat, ↓reduceIte, curB]; try omega)
  · rintro ⟨rs, i, h⟩ ⟨⟨h1, h2⟩, hc⟩ N hN
    simp only at h1 h2 hc
    refine Wr.go ?_
    repeat' ((first | (have ee := True.intro; refine Wr.mk ?_) | ((first | refine br_go ?_ ?_ | refine pick_go ?_ ?_) <;> intro ee f <;> (try simp only [BB] at f) <;> (try simp only [numOk, verOk] at f)) | (have ee := True.intro; first | (refine call_h [0] [] (l01Below code hb _ (by omega) _ _ (by assumption)) (by decide) rfl rfl ?_; rintro _ _ ⟨⟨x, rfl, hx1, hx2⟩, i', h', rfl, hc'⟩) | (refine call_h [0] [] (l08Record code hb _ _ (by assumption)) (by decide) rfl rfl ?_; rintro _ _ ⟨⟨t, rfl, ht⟩, i', h', rfl, hc'⟩))) <;> (try simp (maxSteps := 1000000) (disch := first | omega | (simp only [LN, numOk, verOk, rfP, rvP, rhP, frP, curB, bkd] <;> omega) | exact Ck.mk rfl) only [ee, VC, T, Nat.reduceMul, Nat.reduceAdd, Nat.reduceSub, Nat.reduceLT, Nat.reduceEqDiff, Nat.reduceLeDiff, Nat.reduceBEq, reduceCtorEq, Int.reduceToNat, ↓reduceIte, rfP, rvP, rhP, frP, curB, bkd]) <;> (try clear ee))
    · refine hN (rs ++ [t], _, _) _ ⟨⟨by simp only [List.length_append, List.length_singleton]; omega, fun z hz => ?_⟩, by assumption⟩ (by simp only [List.length_append, List.length_singleton]; omega) ?_
      · rcases List.mem_append.1 hz with hz | hz
        · exact h2 z hz
        · rw [List.mem_singleton.1 hz]; exact ht
      · (simp (disch := first | omega | (simp only [LN, numOk, verOk, curB] <;> omega) | exact Ck.mk rfl) only [SB, EQ, Nat.reduceMul, Nat.reduceAdd, Nat.reduceSub, Nat.reduceLT, Nat.reduceEqDiff, Nat.reduceLeDiff, Nat.reduceBEq, reduceCtorEq, Int.reduceToNat, ↓reduceIte, curB]; try omega)
    · refine fin_c (y := .far (rs.map .str)) rfl (by first | rfl | (simp (maxSteps := 1000000) (disch := first | omega | (simp only [LN, numOk, verOk, rfP, rvP, rhP, frP, curB, bkd] <;> omega) | exact Ck.mk rfl) only [VC, T, Nat.reduceMul, Nat.reduceAdd, Nat.reduceSub, Nat.reduceLT, Nat.reduceEqDiff, Nat.reduceLeDiff, Nat.reduceBEq, reduceCtorEq, Int.reduceToNat, ↓reduceIte, rfP, rvP, rhP, frP, curB, bkd]; done)) rfl rfl ?_
      exact ⟨⟨_, rfl, h1, h2⟩, _, _, rfl, by assumption⟩
theorem bits_u8 (op : BinOp) (a b : Int) : isByte (.int .u8 (Go.bits op .u8 a b)) := by
  unfold Go.bits
  show 0 ≤ IntKind.u8.wrap _ ∧ IntKind.u8.wrap _ < 256
  rw [IntKind.wrap_u8]
  omega
theorem l08Bent (code : List Int) (hb : Bytes code) (t : ByteArray) (ht : t.size ≤ 1000000) (i h : Int) (hc : CurOk code i h) : FnE Tryz.prog 186 [.ref 0 0, .str t] [(0, curB code i h)] (CQ code (isStr' (SzIn (t.size + 4)))) := by
  refine fn_e tok (n := 62) (rs := [.tmp 4]) Tryz.func186 (by decide) rfl rfl rfl rfl (low_of rfl) ?_
  refine Wr.go ?_
  repeat' ((first | (have ee := True.intro; refine Wr.mk ?_) | ((first | refine br_go ?_ ?_ | refine pick_go ?_ ?_) <;> intro ee f <;> (try simp only [BB] at f) <;> (try simp only [numOk, verOk] at f)) | (have ee := True.intro; first | refine dr_go mixed (id := 8) [([], [1], []), ([], [5], []), ([0, 1], [26, 27], []), ([], [1], []), ([], [5], []), ([4], [30], []), ([3, 4, 5], [29, 31], []), ([0, 1, 2, 3, 4, 5, 6], [28, 32], []), ([0, 1, 2, 3, 4, 5, 6, 7], [33], [])] rfl rfl rfl ?_ | refine dr_go mixed (id := 11) [([], [1], []), ([], [5], []), ([0, 1], [43, 44], [0]), ([], [1], []), ([], [5], []), ([3, 4], [46, 47], [0]), ([], [0], []), ([6], [49], []), ([6, 7], [50], []), ([6, 7, 8], [51], []), ([3, 4, 5, 6, 7, 8, 9], [48, 52], []), ([3, 4, 5, 6, 7, 8, 9, 10], [53], []), ([3, 4, 5, 6, 7, 8, 9, 10, 11], [54], []), ([0, 1, 2, 3, 4, 5, 6, 7, 8, 9, 10, 11, 12], [45, 55], []), ([], [1], []), ([], [5], []), ([15], [58], [0]), ([14, 15, 16], [57, 59], [0]), ([0, 1, 2, 3, 4, 5, 6, 7, 8, 9, 10, 11, 12, 13, 14, 15, 16, 17], [56, 60], []), ([0, 1, 2, 3, 4, 5, 6, 7, 8, 9, 10, 11, 12, 13, 14, 15, 16, 17, 18], [61], [])] rfl rfl rfl ?_ | (refine call_h [0] [] (l01Once code hb _ (by omega) _ _ (by assumption)) (by decide) rfl rfl ?_; rintro _ _ ⟨⟨x, rfl⟩, i', h', rfl, hc'⟩) | (refine call_h [0] [] (l01Below code hb _ (by omega) _ _ (by assumption)) (by decide) rfl rfl ?_; rintro _ _ ⟨⟨x, rfl, hx1, hx2⟩, i', h', rfl, hc'⟩) | (refine call_h [0] [] (l01Text code hb _ (by omega) _ _ (by assumption)) (by decide) rfl rfl ?_; rintro _ _ ⟨⟨u, rfl, hu⟩, i', h', rfl, hc'⟩))) <;> (try simp (maxSteps := 1000000) (disch := first | omega | (simp only [LN, numOk, verOk, rfP, rvP, rhP, frP, curB, bkd, ByteArray.size_extract, ByteArray.size_append] <;> omega) | exact Ck.mk rfl) only [ee, VC, T, Nat.reduceMul, Nat.reduceAdd, Nat.reduceSub, Nat.reduceLT, Nat.reduceEqDiff, Nat.reduceLeDiff, Nat.reduceBEq, reduceCtorEq, Int.reduceToNat, ↓reduceIte, rfP, rvP, rhP, frP, curB, bkd, ByteArray.size_extract, ByteArray.size_append]) <;> (try clear ee))
  · refine fin_c rfl (by first | rfl | (simp (maxSteps := 1000000) (disch := first | omega | (simp only [LN, numOk, verOk, rfP, rvP, rhP, frP, curB, bkd] <;> omega) | exact Ck.mk rfl) only [VC, T, Nat.reduceMul, Nat.reduceAdd, Nat.reduceSub, Nat.reduceLT, Nat.reduceEqDiff, Nat.reduceLeDiff, Nat.reduceBEq, reduceCtorEq, Int.reduceToNat, ↓reduceIte, rfP, rvP, rhP, frP, curB, bkd]; done)) rfl rfl ?_
    exact ⟨⟨_, rfl, by unfold SzIn; omega⟩, _, _, rfl, by assumption⟩
  · refine fin_c rfl (by first | rfl | (simp (maxSteps := 1000000) (disch := first | omega | (simp only [LN, numOk, verOk, rfP, rvP, rhP, frP, curB, bkd] <;> omega) | exact Ck.mk rfl) only [VC, T, Nat.reduceMul, Nat.reduceAdd, Nat.reduceSub, Nat.reduceLT, Nat.reduceEqDiff, Nat.reduceLeDiff, Nat.reduceBEq, reduceCtorEq, Int.reduceToNat, ↓reduceIte, rfP, rvP, rhP, frP, curB, bkd]; done)) rfl rfl ?_
    exact ⟨⟨_, rfl, by unfold SzIn; omega⟩, _, _, rfl, by assumption⟩
  · refine fin_c rfl (by first | rfl | (simp (maxSteps := 1000000) (disch := first | omega | (simp only [LN, numOk, verOk, rfP, rvP, rhP, frP, curB, bkd] <;> omega) | exact Ck.mk rfl) only [VC, T, Nat.reduceMul, Nat.reduceAdd, Nat.reduceSub, Nat.reduceLT, Nat.reduceEqDiff, Nat.reduceLeDiff, Nat.reduceBEq, reduceCtorEq, Int.reduceToNat, ↓reduceIte, rfP, rvP, rhP, frP, curB, bkd]; done)) rfl rfl ?_
    exact ⟨⟨_, rfl, by unfold SzIn; (try simp only [ByteArray.size_extract]); omega⟩, _, _, rfl, by assumption⟩
  · refine fin_c rfl (by first | rfl | (simp (maxSteps := 1000000) (disch := first | omega | (simp only [LN, numOk, verOk, rfP, rvP, rhP, frP, curB, bkd] <;> omega) | exact Ck.mk rfl) only [VC, T, Nat.reduceMul, Nat.reduceAdd, Nat.reduceSub, Nat.reduceLT, Nat.reduceEqDiff, Nat.reduceLeDiff, Nat.reduceBEq, reduceCtorEq, Int.reduceToNat, ↓reduceIte, rfP, rvP, rhP, frP, curB, bkd]; done)) rfl rfl ?_
    exact ⟨⟨_, rfl, by unfold SzIn; (try simp only [ByteArray.size_append, ByteArray.size_extract]); omega⟩, _, _, rfl, by assumption⟩
  · unfold SzIn at hu
    refine ⟨by omega, ?_⟩
    refine fin_c rfl (by first | rfl | (simp (maxSteps := 1000000) (disch := first | omega | (simp only [LN, numOk, verOk, rfP, rvP, rhP, frP, curB, bkd] <;> omega) | exact Ck.mk rfl) only [VC, T, Nat.reduceMul, Nat.reduceAdd, Nat.reduceSub, Nat.reduceLT, Nat.reduceEqDiff, Nat.reduceLeDiff, Nat.reduceBEq, reduceCtorEq, Int.reduceToNat, ↓reduceIte, rfP, rvP, rhP, frP, curB, bkd]; done)) rfl rfl ?_
    exact ⟨⟨_, rfl, by unfold SzIn; simp only [ByteArray.size_append]; omega⟩, _, _, rfl, by assumption⟩
  · have e1 : ∀ z : Int, (strP [.int .u8 z]).size = 1 := fun z => rfl
    refine ⟨fun z hz => ?_, by rw [e1]; omega, by rw [e1]; omega, ?_⟩
    · rw [List.mem_singleton.1 hz]
      exact bits_u8 _ _ _
    · refine fin_c rfl (by first | rfl | (simp (maxSteps := 1000000) (disch := first | omega | (simp only [LN, numOk, verOk, rfP, rvP, rhP, frP, curB, bkd] <;> omega) | exact Ck.mk rfl) only [VC, T, Nat.reduceMul, Nat.reduceAdd, Nat.reduceSub, Nat.reduceLT, Nat.reduceEqDiff, Nat.reduceLeDiff, Nat.reduceBEq, reduceCtorEq, Int.reduceToNat, ↓reduceIte, rfP, rvP, rhP, frP, curB, bkd]; done)) rfl rfl ?_
      exact ⟨⟨_, rfl, by unfold SzIn; simp only [ByteArray.size_append, ByteArray.size_extract, e1]; omega⟩, _, _, rfl, by assumption⟩
theorem l10Frames (v s b l : Int) (rs : List ByteArray) (hb : 0 ≤ b ∧ b ≤ 1000) (hr : Recs 1000 rs) : FnV Tryz.prog 185 [.agg [.int .i64 v, .int .i64 s, .int .i64 b, .int .i64 l], .far (rs.map .str)] (isStr' (SzIn (46 + 84 * rs.length))) := by
  obtain ⟨hr1, hr2⟩ := hr
  have ht := headT_le v s b l
  refine fn_v tok (n := 29) (rs := [.tmp 4]) Tryz.func185 (by decide) rfl rfl rfl rfl ?_
  refine Wr.go ?_
  repeat' ((first | (have ee := True.intro; refine Wr.mk ?_) | ((first | refine br_go ?_ ?_ | refine pick_go ?_ ?_) <;> intro ee f <;> (try simp only [BB] at f) <;> (try simp only [numOk, verOk] at f)) | (have ee := True.intro; first | refine call_x (spec_HeadText _ _ _ _) rfl ⟨rfl⟩ ?_)) <;> (try simp (maxSteps := 1000000) (disch := first | omega | (simp only [LN, numOk, verOk, rfP, rvP, rhP, frP, curB, bkd] <;> omega) | exact Ck.mk rfl) only [ee, VC, T, Nat.reduceMul, Nat.reduceAdd, Nat.reduceSub, Nat.reduceLT, Nat.reduceEqDiff, Nat.reduceLeDiff, Nat.reduceBEq, reduceCtorEq, Int.reduceToNat, ↓reduceIte, rfP, rvP, rhP, frP, curB, bkd]) <;> (try clear ee))
  refine lp_go (fun x : Nat × ByteArray => ⟨29, [(1, .far (rs.map .str)), (2, .ref 192 0), (5, .str x.2), (6, .int .i64 x.1)], [(192, .box 61 [.int .i64 v, .int .i64 s, .int .i64 b, .int .i64 l])]⟩) (fun x => x.1 ≤ rs.length ∧ x.2.size ≤ 46 + 84 * x.1) (fun x => rs.length - x.1) (0, headT v s b l) ?_ ⟨Nat.zero_le _, ht⟩ ?_
  · (simp (disch := first | omega | (simp only [LN, numOk, verOk] <;> omega) | exact Ck.mk rfl) only [SB, EQ, Nat.reduceMul, Nat.reduceAdd, Nat.reduceSub, Nat.reduceLT, Nat.reduceEqDiff, Nat.reduceLeDiff, Nat.reduceBEq, reduceCtorEq, Int.reduceToNat, ↓reduceIte]; try omega)
  · rintro ⟨i, t⟩ ⟨h1, h2⟩ N hN
    simp only at h1 h2
    have hf := frameT_le v (b + i) (rs.getD i default)
    have hrs : i < rs.length → (rs.getD i default).size ≤ 60 := fun h => hr2 _ (getD_mem _ _ h)
    refine Wr.go ?_
    repeat' ((first | (have ee := True.intro; refine Wr.mk ?_) | ((first | refine br_go ?_ ?_ | refine pick_go ?_ ?_) <;> intro ee f <;> (try simp only [BB] at f) <;> (try simp only [numOk, verOk] at f)) | (have ee := True.intro; first | refine dr_go mixed (id := 5) [([], [5], []), ([], [2], []), ([1], [16], []), ([], [2], []), ([3], [18], []), ([], [6], []), ([3, 4, 5], [19, 20], []), ([], [1], []), ([], [6], []), ([7, 8], [22, 23], []), ([7, 8, 9], [24], []), ([1, 2, 3, 4, 5, 6, 7, 8, 9, 10], [17, 21, 25], []), ([0, 1, 2, 3, 4, 5, 6, 7, 8, 9, 10, 11], [15, 26], []), ([0, 1, 2, 3, 4, 5, 6, 7, 8, 9, 10, 11, 12], [27], [])] rfl rfl rfl ?_ | refine call_x (spec_FrameText _ _ _ (by have := hrs (by omega); omega)) rfl ⟨rfl⟩ ?_)) <;> (try simp (maxSteps := 1000000) (disch := first | omega | (simp only [LN, numOk, verOk, rfP, rvP, rhP, frP, curB, bkd] <;> omega) | exact Ck.mk rfl) only [ee, VC, T, Nat.reduceMul, Nat.reduceAdd, Nat.reduceSub, Nat.reduceLT, Nat.reduceEqDiff, Nat.reduceLeDiff, Nat.reduceBEq, reduceCtorEq, Int.reduceToNat, ↓reduceIte, rfP, rvP, rhP, frP, curB, bkd]) <;> (try clear ee))
    · refine hN (i + 1, t ++ frameT v (b + i) (rs.getD i default)) _ ⟨by simp only; omega, by simp only [ByteArray.size_append]; omega⟩ (by simp only; omega) ?_
      (simp (disch := first | omega | (simp only [LN, numOk, verOk] <;> omega) | exact Ck.mk rfl) only [SB, EQ, Nat.reduceMul, Nat.reduceAdd, Nat.reduceSub, Nat.reduceLT, Nat.reduceEqDiff, Nat.reduceLeDiff, Nat.reduceBEq, reduceCtorEq, Int.reduceToNat, ↓reduceIte]; try omega)
    · exact ⟨_, rfl, by unfold SzIn; omega⟩
theorem l10File (code : List Int) (hb : Bytes code) (i h : Int) (hc : CurOk code i h) : FnE Tryz.prog 188 [.ref 0 0] [(0, curB code i h)] (CQ code (isStr' (SzIn 200000))) := by
  refine fn_e tok (n := 21) (rs := [.tmp 2]) Tryz.func188 (by decide) rfl rfl rfl rfl (low_of rfl) ?_
  refine Wr.go ?_
  repeat' ((first | (have ee := True.intro; refine Wr.mk ?_) | ((first | refine br_go ?_ ?_ | refine pick_go ?_ ?_) <;> intro ee f <;> (try simp only [BB] at f) <;> (try simp only [numOk, verOk] at f)) | (have ee := True.intro; first | (refine call_h [0] [] (l08Head code hb _ _ (by assumption)) (by decide) rfl rfl ?_; rintro _ _ ⟨⟨v, s, b, l, rfl, hx⟩, i', h', rfl, hc'⟩) | (refine call_h [0] [] (l08Records code hb _ (by omega) _ _ (by assumption)) (by decide) rfl rfl ?_; rintro _ _ ⟨⟨rs, rfl, hr1, hr2⟩, i', h', rfl, hc'⟩) | (refine call_h [0] [] (l01Once code hb _ (by omega) _ _ (by assumption)) (by decide) rfl rfl ?_; rintro _ _ ⟨⟨x, rfl⟩, i', h', rfl, hc'⟩) | refine call_x (spec_SealText _ _ _ _ _ (by omega) (fun r hr => by have := hr2 r hr; omega)) rfl ⟨rfl⟩ ?_ | (refine call_v (l10Frames v s b l rs (by unfold Hd8 at hx; simp only at hx; omega) ⟨by omega, hr2⟩) rfl ?_; rintro _ ⟨u, rfl, hu⟩; refine ⟨⟨rfl⟩, ?_⟩) | (refine call_h [0] [] (l08Bent code hb _ (by have := sealT_le v s b l rs; omega) _ _ (by assumption)) (by decide) rfl rfl ?_; rintro _ _ ⟨⟨w, rfl, hw⟩, i', h', rfl, hc'⟩) | (refine call_h [0] [] (l08Bent code hb _ (by unfold SzIn at hu; omega) _ _ (by assumption)) (by decide) rfl rfl ?_; rintro _ _ ⟨⟨w, rfl, hw⟩, i', h', rfl, hc'⟩))) <;> (try simp (maxSteps := 1000000) (disch := first | omega | (simp only [LN, numOk, verOk, rfP, rvP, rhP, frP, curB, bkd] <;> omega) | exact Ck.mk rfl) only [ee, VC, T, Nat.reduceMul, Nat.reduceAdd, Nat.reduceSub, Nat.reduceLT, Nat.reduceEqDiff, Nat.reduceLeDiff, Nat.reduceBEq, reduceCtorEq, Int.reduceToNat, ↓reduceIte, rfP, rvP, rhP, frP, curB, bkd]) <;> (try clear ee))
  · refine fin_c rfl (by first | rfl | (simp (maxSteps := 1000000) (disch := first | omega | (simp only [LN, numOk, verOk, rfP, rvP, rhP, frP, curB, bkd] <;> omega) | exact Ck.mk rfl) only [VC, T, Nat.reduceMul, Nat.reduceAdd, Nat.reduceSub, Nat.reduceLT, Nat.reduceEqDiff, Nat.reduceLeDiff, Nat.reduceBEq, reduceCtorEq, Int.reduceToNat, ↓reduceIte, rfP, rvP, rhP, frP, curB, bkd]; done)) rfl rfl ?_
    have := sealT_le v s b l rs
    exact ⟨⟨_, rfl, by unfold SzIn at *; omega⟩, _, _, rfl, by assumption⟩
  · refine fin_c rfl (by first | rfl | (simp (maxSteps := 1000000) (disch := first | omega | (simp only [LN, numOk, verOk, rfP, rvP, rhP, frP, curB, bkd] <;> omega) | exact Ck.mk rfl) only [VC, T, Nat.reduceMul, Nat.reduceAdd, Nat.reduceSub, Nat.reduceLT, Nat.reduceEqDiff, Nat.reduceLeDiff, Nat.reduceBEq, reduceCtorEq, Int.reduceToNat, ↓reduceIte, rfP, rvP, rhP, frP, curB, bkd]; done)) rfl rfl ?_
    exact ⟨⟨_, rfl, by unfold SzIn at *; omega⟩, _, _, rfl, by assumption⟩
end Go.Pv

/- What functions of the program and of the reference do, in plain values. -/
namespace Go.Pv
open Go.Proofs Go.Mth
set_option linter.unusedSimpArgs false
set_option linter.unusedVariables false
set_option maxHeartbeats 4000000
set_option maxRecDepth 4000

end Go.Pv

/- What functions of the program and of the reference do, in plain values. -/
namespace Go.Pv
open Go.Proofs Go.Mth
set_option linter.unusedSimpArgs false
set_option linter.unusedVariables false
set_option maxHeartbeats 4000000
set_option maxRecDepth 4000

end Go.Pv

/- Names of files, in plain numbers. -/
namespace Go.Mth
open Go.RowKit

/-! ### sixteen digits -/
def hexD (d : Int) : Int := if d < 10 then 48 + d else 87 + d
/-- So many digits, the highest first. -/
def hexL : Nat → Int → List Int
  | 0, _ => []
  | k + 1, n => hexL k (n / 16) ++ [hexD (n % 16)]
theorem hexL_length : ∀ (k : Nat) (n : Int), (hexL k n).length = k
  | 0, _ => rfl
  | k + 1, n => by rw [hexL, List.length_append, hexL_length k]; rfl
theorem hexD_range (d : Int) (h0 : 0 ≤ d) (h1 : d < 16) : 0 ≤ hexD d ∧ hexD d ≤ 255 := by unfold hexD; split <;> omega
theorem hexL_range : ∀ (k : Nat) (n : Int), ∀ x ∈ hexL k n, 0 ≤ x ∧ x ≤ 255
  | 0, _, x, h => by simp [hexL] at h
  | k + 1, n, x, h => by
    rcases List.mem_append.1 h with h | h
    · exact hexL_range k _ x h
    · rw [List.mem_singleton.1 h]; exact hexD_range _ (by omega) (by omega)
/-- The name of a file of a base. -/
def segL (n : Int) : List Int := [115] ++ hexL 8 n ++ [46, 115, 101, 103]
def segT (n : Int) : ByteArray := if numOk n then strOf (segL n) else ⟨#[]⟩
def tmpT (n : Int) : ByteArray := if numOk n then strOf (segL n ++ [46, 116, 109, 112]) else ⟨#[]⟩
theorem segL_length (n : Int) : (segL n).length = 13 := by
  unfold segL
  rw [List.length_append, List.length_append, hexL_length]; rfl
theorem segT_size (n : Int) (h : numOk n) : (segT n).size = 13 := by
  unfold segT
  rw [if_pos h, strOf_size, segL_length]
theorem tmpT_size (n : Int) (h : numOk n) : (tmpT n).size = 17 := by
  unfold tmpT
  rw [if_pos h, strOf_size, List.length_append, segL_length]; rfl
theorem segT_le (n : Int) : (segT n).size ≤ 13 := by
  by_cases h : numOk n
  · rw [segT_size n h]; exact Nat.le_refl _
  · unfold segT; rw [if_neg h]; exact Nat.zero_le _
theorem tmpT_le (n : Int) : (tmpT n).size ≤ 17 := by
  by_cases h : numOk n
  · rw [tmpT_size n h]; exact Nat.le_refl _
  · unfold tmpT; rw [if_neg h]; exact Nat.zero_le _
end Go.Mth
