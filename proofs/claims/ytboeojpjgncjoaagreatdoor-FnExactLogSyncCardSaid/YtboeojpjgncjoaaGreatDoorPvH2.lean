/- The texts of this claim, part 2: a small logic of plain values for the model's runs, what it says of the functions, in plain values. -/
import Derived.Test.YtboeojpjgncjoaaGreatDoorProg
import Derived.KernelRfl
import Derived.Lib.Strings
import Derived.Lib.Walk
import Derived.Lib.Builder
import Derived.Lib.UnsafeStr
import Derived.WalkKit
import Derived.Laws.Externs
import Derived.Shelf.RegionOpenPlain
import Derived.Test.YtboeojpjgncjoaaGreatDoorPvH0
import Derived.Test.YtboeojpjgncjoaaGreatDoorPvH1
/- The table of types. -/
namespace Go.Pv
open Go.Proofs
def T : Tab
  | 2 => some ⟨.int .i64, 1, 8, [.int .i64 0]⟩
  | 3 => some ⟨.int .i64, 1, 8, [.int .i64 0]⟩
  | 4 => some ⟨.bool, 1, 1, [.bool false]⟩
  | 5 => some ⟨.int .u8, 1, 1, [.int .u8 0]⟩
  | 6 => some ⟨.int .u8, 1, 1, [.int .u8 0]⟩
  | 7 => some ⟨.struct [(0, 2), (1, 3), (2, 4), (3, 6)], 4, 24, [.int .i64 0, .int .i64 0, .bool false, .int .u8 0]⟩
  | 8 => some ⟨.struct [(0, 2), (1, 3), (2, 4), (3, 6)], 4, 24, [.int .i64 0, .int .i64 0, .bool false, .int .u8 0]⟩
  | 9 => some ⟨.str, 1, 16, [.str ByteArray.empty]⟩
  | 10 => some ⟨.str, 1, 16, [.str ByteArray.empty]⟩
  | 11 => some ⟨.str, 1, 16, [.str ByteArray.empty]⟩
  | 12 => some ⟨.int .u64, 1, 8, [.int .u64 0]⟩
  | 15 => some ⟨.ptr 211, 1, 8, [.nilp]⟩
  | 16 => some ⟨.ptr 214, 1, 8, [.nilp]⟩
  | 17 => some ⟨.ptr 221, 1, 8, [.nilp]⟩
  | 18 => some ⟨.struct [(0, 17)], 1, 8, [.nilp]⟩
  | 19 => some ⟨.struct [(0, 17)], 1, 8, [.nilp]⟩
  | 21 => some ⟨.int .i32, 1, 4, [.int .i32 0]⟩
  | 22 => some ⟨.slice 76, 1, 24, [.nils]⟩
  | 23 => some ⟨.slice 79, 1, 24, [.nils]⟩
  | 24 => some ⟨.slice 9, 1, 24, [.nils]⟩
  | 25 => some ⟨.struct [(0, 22), (1, 23), (2, 23), (3, 24), (4, 3), (5, 3)], 6, 112, [.nils, .nils, .nils, .nils, .int .i64 0, .int .i64 0]⟩
  | 26 => some ⟨.struct [(0, 22), (1, 23), (2, 23), (3, 24), (4, 3), (5, 3)], 6, 112, [.nils, .nils, .nils, .nils, .int .i64 0, .int .i64 0]⟩
  | 27 => some ⟨.slice 3, 1, 24, [.nils]⟩
  | 28 => some ⟨.struct [(0, 3), (1, 3), (2, 3), (3, 3), (4, 3), (5, 27), (6, 3), (7, 4), (8, 3)], 9, 88, [.int .i64 0, .int .i64 0, .int .i64 0, .int .i64 0, .int .i64 0, .nils, .int .i64 0, .bool false, .int .i64 0]⟩
  | 29 => some ⟨.struct [(0, 3), (1, 3), (2, 3), (3, 3), (4, 3), (5, 27), (6, 3), (7, 4), (8, 3)], 9, 88, [.int .i64 0, .int .i64 0, .int .i64 0, .int .i64 0, .int .i64 0, .nils, .int .i64 0, .bool false, .int .i64 0]⟩
  | 32 => some ⟨.slice 93, 1, 24, [.nils]⟩
  | 33 => some ⟨.slice 101, 1, 24, [.nils]⟩
  | 34 => some ⟨.struct [(0, 32), (1, 33), (2, 33), (3, 24), (4, 3), (5, 3)], 6, 112, [.nils, .nils, .nils, .nils, .int .i64 0, .int .i64 0]⟩
  | 35 => some ⟨.struct [(0, 32), (1, 33), (2, 33), (3, 24), (4, 3), (5, 3)], 6, 112, [.nils, .nils, .nils, .nils, .int .i64 0, .int .i64 0]⟩
  | 36 => some ⟨.struct [(0, 3), (1, 3), (2, 3), (3, 3), (4, 3), (5, 27), (6, 3), (7, 4), (8, 3)], 9, 88, [.int .i64 0, .int .i64 0, .int .i64 0, .int .i64 0, .int .i64 0, .nils, .int .i64 0, .bool false, .int .i64 0]⟩
  | 59 => some ⟨.struct [(0, 3), (1, 3), (2, 3), (3, 3)], 4, 32, [.int .i64 0, .int .i64 0, .int .i64 0, .int .i64 0]⟩
  | 60 => some ⟨.struct [(0, 3), (1, 3), (2, 3), (3, 3)], 4, 32, [.int .i64 0, .int .i64 0, .int .i64 0, .int .i64 0]⟩
  | 75 => some ⟨.struct [(0, 3), (1, 9), (2, 3)], 3, 32, [.int .i64 0, .str ByteArray.empty, .int .i64 0]⟩
  | 76 => some ⟨.struct [(0, 3), (1, 9), (2, 3)], 3, 32, [.int .i64 0, .str ByteArray.empty, .int .i64 0]⟩
  | 78 => some ⟨.struct [(0, 9), (1, 3)], 2, 24, [.str ByteArray.empty, .int .i64 0]⟩
  | 79 => some ⟨.struct [(0, 9), (1, 3)], 2, 24, [.str ByteArray.empty, .int .i64 0]⟩
  | 81 => some ⟨.slice 5, 1, 24, [.nils]⟩
  | 82 => some ⟨.int .u64, 1, 8, [.int .u64 0]⟩
  | 83 => some ⟨.struct [(0, 4), (1, 60), (5, 24), (6, 27), (7, 3), (8, 4)], 9, 104, [.bool false, .int .i64 0, .int .i64 0, .int .i64 0, .int .i64 0, .nils, .nils, .int .i64 0, .bool false]⟩
  | 84 => some ⟨.struct [(0, 4), (1, 60), (5, 24), (6, 27), (7, 3), (8, 4)], 9, 104, [.bool false, .int .i64 0, .int .i64 0, .int .i64 0, .int .i64 0, .nils, .nils, .int .i64 0, .bool false]⟩
  | 93 => some ⟨.struct [(0, 3), (1, 9), (2, 3)], 3, 32, [.int .i64 0, .str ByteArray.empty, .int .i64 0]⟩
  | 97 => some ⟨.slice 122, 1, 24, [.nils]⟩
  | 101 => some ⟨.struct [(0, 9), (1, 3)], 2, 24, [.str ByteArray.empty, .int .i64 0]⟩
  | 121 => some ⟨.struct [(0, 3), (1, 3)], 2, 16, [.int .i64 0, .int .i64 0]⟩
  | 122 => some ⟨.struct [(0, 3), (1, 3)], 2, 16, [.int .i64 0, .int .i64 0]⟩
  | 127 => some ⟨.ptr 129, 1, 8, [.nilp]⟩
  | 128 => some ⟨.struct [(0, 127), (1, 81)], 2, 32, [.nilp, .nils]⟩
  | 129 => some ⟨.struct [(0, 127), (1, 81)], 2, 32, [.nilp, .nils]⟩
  | 132 => some ⟨.iface, 1, 16, [.raw .nilIface]⟩
  | 153 => some ⟨.arr 24 5, 24, 24, [.int .u8 0, .int .u8 0, .int .u8 0, .int .u8 0, .int .u8 0, .int .u8 0, .int .u8 0, .int .u8 0, .int .u8 0, .int .u8 0, .int .u8 0, .int .u8 0, .int .u8 0, .int .u8 0, .int .u8 0, .int .u8 0, .int .u8 0, .int .u8 0, .int .u8 0, .int .u8 0, .int .u8 0, .int .u8 0, .int .u8 0, .int .u8 0]⟩
  | 154 => some ⟨.int .u64, 1, 8, [.int .u64 0]⟩
  | 159 => some ⟨.int .u32, 1, 4, [.int .u32 0]⟩
  | 164 => some ⟨.ptr 5, 1, 8, [.nilp]⟩
  | 176 => some ⟨.arr 20 154, 20, 160, [.int .u64 0, .int .u64 0, .int .u64 0, .int .u64 0, .int .u64 0, .int .u64 0, .int .u64 0, .int .u64 0, .int .u64 0, .int .u64 0, .int .u64 0, .int .u64 0, .int .u64 0, .int .u64 0, .int .u64 0, .int .u64 0, .int .u64 0, .int .u64 0, .int .u64 0, .int .u64 0]⟩
  | 177 => some ⟨.arr 65 5, 65, 65, [.int .u8 0, .int .u8 0, .int .u8 0, .int .u8 0, .int .u8 0, .int .u8 0, .int .u8 0, .int .u8 0, .int .u8 0, .int .u8 0, .int .u8 0, .int .u8 0, .int .u8 0, .int .u8 0, .int .u8 0, .int .u8 0, .int .u8 0, .int .u8 0, .int .u8 0, .int .u8 0, .int .u8 0, .int .u8 0, .int .u8 0, .int .u8 0, .int .u8 0, .int .u8 0, .int .u8 0, .int .u8 0, .int .u8 0, .int .u8 0, .int .u8 0, .int .u8 0, .int .u8 0, .int .u8 0, .int .u8 0, .int .u8 0, .int .u8 0, .int .u8 0, .int .u8 0, .int .u8 0, .int .u8 0, .int .u8 0, .int .u8 0, .int .u8 0, .int .u8 0, .int .u8 0, .int .u8 0, .int .u8 0, .int .u8 0, .int .u8 0, .int .u8 0, .int .u8 0, .int .u8 0, .int .u8 0, .int .u8 0, .int .u8 0, .int .u8 0, .int .u8 0, .int .u8 0, .int .u8 0, .int .u8 0, .int .u8 0, .int .u8 0, .int .u8 0, .int .u8 0]⟩
  | 189 => some ⟨.arr 32 5, 32, 32, [.int .u8 0, .int .u8 0, .int .u8 0, .int .u8 0, .int .u8 0, .int .u8 0, .int .u8 0, .int .u8 0, .int .u8 0, .int .u8 0, .int .u8 0, .int .u8 0, .int .u8 0, .int .u8 0, .int .u8 0, .int .u8 0, .int .u8 0, .int .u8 0, .int .u8 0, .int .u8 0, .int .u8 0, .int .u8 0, .int .u8 0, .int .u8 0, .int .u8 0, .int .u8 0, .int .u8 0, .int .u8 0, .int .u8 0, .int .u8 0, .int .u8 0, .int .u8 0]⟩
  | 190 => some ⟨.arr 64 5, 64, 64, [.int .u8 0, .int .u8 0, .int .u8 0, .int .u8 0, .int .u8 0, .int .u8 0, .int .u8 0, .int .u8 0, .int .u8 0, .int .u8 0, .int .u8 0, .int .u8 0, .int .u8 0, .int .u8 0, .int .u8 0, .int .u8 0, .int .u8 0, .int .u8 0, .int .u8 0, .int .u8 0, .int .u8 0, .int .u8 0, .int .u8 0, .int .u8 0, .int .u8 0, .int .u8 0, .int .u8 0, .int .u8 0, .int .u8 0, .int .u8 0, .int .u8 0, .int .u8 0, .int .u8 0, .int .u8 0, .int .u8 0, .int .u8 0, .int .u8 0, .int .u8 0, .int .u8 0, .int .u8 0, .int .u8 0, .int .u8 0, .int .u8 0, .int .u8 0, .int .u8 0, .int .u8 0, .int .u8 0, .int .u8 0, .int .u8 0, .int .u8 0, .int .u8 0, .int .u8 0, .int .u8 0, .int .u8 0, .int .u8 0, .int .u8 0, .int .u8 0, .int .u8 0, .int .u8 0, .int .u8 0, .int .u8 0, .int .u8 0, .int .u8 0, .int .u8 0]⟩
  | 192 => some ⟨.int .i64, 1, 8, [.int .i64 0]⟩
  | 195 => some ⟨.ptr 203, 1, 8, [.nilp]⟩
  | 202 => some ⟨.struct [(0, 9), (1, 9), (2, 132)], 3, 48, [.str ByteArray.empty, .str ByteArray.empty, .raw .nilIface]⟩
  | 203 => some ⟨.struct [(0, 9), (1, 9), (2, 132)], 3, 48, [.str ByteArray.empty, .str ByteArray.empty, .raw .nilIface]⟩
  | 207 => some ⟨.ptr 209, 1, 8, [.nilp]⟩
  | 208 => some ⟨.struct [(0, 9)], 1, 16, [.str ByteArray.empty]⟩
  | 209 => some ⟨.struct [(0, 9)], 1, 16, [.str ByteArray.empty]⟩
  | 210 => some ⟨.struct [(0, 17), (1, 17), (2, 17), (3, 9)], 4, 40, [.nilp, .nilp, .nilp, .str ByteArray.empty]⟩
  | 211 => some ⟨.struct [(0, 17), (1, 17), (2, 17), (3, 9)], 4, 40, [.nilp, .nilp, .nilp, .str ByteArray.empty]⟩
  | 212 => some ⟨.arr 0 16, 0, 0, []⟩
  | 215 => some ⟨.int .u8, 1, 1, [.int .u8 0]⟩
  | 216 => some ⟨.int .u8, 1, 1, [.int .u8 0]⟩
  | 218 => some ⟨.int .i32, 1, 4, [.int .i32 0]⟩
  | 219 => some ⟨.int .i32, 1, 4, [.int .i32 0]⟩
  | 220 => some ⟨.struct [(0, 12), (1, 12), (2, 159), (3, 215), (4, 5), (5, 5), (6, 216), (7, 217), (8, 164), (9, 218), (10, 219)], 11, 48, [.int .u64 0, .int .u64 0, .int .u32 0, .int .u8 0, .int .u8 0, .int .u8 0, .int .u8 0, .raw .nilFunc, .nilp, .int .i32 0, .int .i32 0]⟩
  | 221 => some ⟨.struct [(0, 12), (1, 12), (2, 159), (3, 215), (4, 5), (5, 5), (6, 216), (7, 217), (8, 164), (9, 218), (10, 219)], 11, 48, [.int .u64 0, .int .u64 0, .int .u32 0, .int .u8 0, .int .u8 0, .int .u8 0, .int .u8 0, .raw .nilFunc, .nilp, .int .i32 0, .int .i32 0]⟩
  | _ => none
theorem tok2 : TEok Tryz.prog 2 ⟨.int .i64, 1, 8, [.int .i64 0]⟩ := ⟨by kernel_rfl, ⟨rfl, by decide⟩, (fun _ => rfl), (show Tryz.prog.underlying 2 = some (.int .i64) by kernel_rfl), (fun h => by cases h)⟩
theorem tok3 : TEok Tryz.prog 3 ⟨.int .i64, 1, 8, [.int .i64 0]⟩ := ⟨by kernel_rfl, ⟨rfl, by decide⟩, (fun _ => rfl), (show Tryz.prog.underlying 3 = some (.int .i64) by kernel_rfl), (fun h => by cases h)⟩
theorem tok4 : TEok Tryz.prog 4 ⟨.bool, 1, 1, [.bool false]⟩ := ⟨by kernel_rfl, ⟨rfl, by decide⟩, (fun _ => rfl), (show Tryz.prog.underlying 4 = some (.bool) by kernel_rfl), (fun h => by cases h)⟩
theorem tok5 : TEok Tryz.prog 5 ⟨.int .u8, 1, 1, [.int .u8 0]⟩ := ⟨by kernel_rfl, ⟨rfl, by decide⟩, (fun _ => rfl), (show Tryz.prog.underlying 5 = some (.int .u8) by kernel_rfl), (fun h => by cases h)⟩
theorem tok6 : TEok Tryz.prog 6 ⟨.int .u8, 1, 1, [.int .u8 0]⟩ := ⟨by kernel_rfl, ⟨rfl, by decide⟩, (fun _ => rfl), (show Tryz.prog.underlying 6 = some (.int .u8) by kernel_rfl), (fun h => by cases h)⟩
theorem tok7 : TEok Tryz.prog 7 ⟨.struct [(0, 2), (1, 3), (2, 4), (3, 6)], 4, 24, [.int .i64 0, .int .i64 0, .bool false, .int .u8 0]⟩ := ⟨by kernel_rfl, ⟨rfl, by decide⟩, (fun h => by cases h), und_struct (by kernel_rfl), (fun _ => by kernel_rfl)⟩
theorem tok8 : TEok Tryz.prog 8 ⟨.struct [(0, 2), (1, 3), (2, 4), (3, 6)], 4, 24, [.int .i64 0, .int .i64 0, .bool false, .int .u8 0]⟩ := ⟨by kernel_rfl, ⟨rfl, by decide⟩, (fun h => by cases h), und_struct (by kernel_rfl), (fun _ => by kernel_rfl)⟩
theorem tok9 : TEok Tryz.prog 9 ⟨.str, 1, 16, [.str ByteArray.empty]⟩ := ⟨by kernel_rfl, ⟨rfl, by decide⟩, (fun _ => rfl), (show Tryz.prog.underlying 9 = some (.string) by kernel_rfl), (fun h => by cases h)⟩
theorem tok10 : TEok Tryz.prog 10 ⟨.str, 1, 16, [.str ByteArray.empty]⟩ := ⟨by kernel_rfl, ⟨rfl, by decide⟩, (fun _ => rfl), (show Tryz.prog.underlying 10 = some (.string) by kernel_rfl), (fun h => by cases h)⟩
theorem tok11 : TEok Tryz.prog 11 ⟨.str, 1, 16, [.str ByteArray.empty]⟩ := ⟨by kernel_rfl, ⟨rfl, by decide⟩, (fun _ => rfl), (show Tryz.prog.underlying 11 = some (.string) by kernel_rfl), (fun h => by cases h)⟩
theorem tok12 : TEok Tryz.prog 12 ⟨.int .u64, 1, 8, [.int .u64 0]⟩ := ⟨by kernel_rfl, ⟨rfl, by decide⟩, (fun _ => rfl), (show Tryz.prog.underlying 12 = some (.int .u64) by kernel_rfl), (fun h => by cases h)⟩
theorem tok15 : TEok Tryz.prog 15 ⟨.ptr 211, 1, 8, [.nilp]⟩ := ⟨by kernel_rfl, ⟨rfl, by decide⟩, (fun _ => rfl), (show Tryz.prog.underlying 15 = some (.pointer 211) by kernel_rfl), (fun h => by cases h)⟩
theorem tok16 : TEok Tryz.prog 16 ⟨.ptr 214, 1, 8, [.nilp]⟩ := ⟨by kernel_rfl, ⟨rfl, by decide⟩, (fun _ => rfl), (show Tryz.prog.underlying 16 = some (.pointer 214) by kernel_rfl), (fun h => by cases h)⟩
theorem tok17 : TEok Tryz.prog 17 ⟨.ptr 221, 1, 8, [.nilp]⟩ := ⟨by kernel_rfl, ⟨rfl, by decide⟩, (fun _ => rfl), (show Tryz.prog.underlying 17 = some (.pointer 221) by kernel_rfl), (fun h => by cases h)⟩
theorem tok18 : TEok Tryz.prog 18 ⟨.struct [(0, 17)], 1, 8, [.nilp]⟩ := ⟨by kernel_rfl, ⟨rfl, by decide⟩, (fun h => by cases h), und_struct (by kernel_rfl), (fun h => by cases h)⟩
theorem tok19 : TEok Tryz.prog 19 ⟨.struct [(0, 17)], 1, 8, [.nilp]⟩ := ⟨by kernel_rfl, ⟨rfl, by decide⟩, (fun h => by cases h), und_struct (by kernel_rfl), (fun h => by cases h)⟩
theorem tok21 : TEok Tryz.prog 21 ⟨.int .i32, 1, 4, [.int .i32 0]⟩ := ⟨by kernel_rfl, ⟨rfl, by decide⟩, (fun _ => rfl), (show Tryz.prog.underlying 21 = some (.int .i32) by kernel_rfl), (fun h => by cases h)⟩
theorem tok22 : TEok Tryz.prog 22 ⟨.slice 76, 1, 24, [.nils]⟩ := ⟨by kernel_rfl, ⟨rfl, by decide⟩, (fun _ => rfl), (show Tryz.prog.underlying 22 = some (.slice 76) by kernel_rfl), (fun h => by cases h)⟩
theorem tok23 : TEok Tryz.prog 23 ⟨.slice 79, 1, 24, [.nils]⟩ := ⟨by kernel_rfl, ⟨rfl, by decide⟩, (fun _ => rfl), (show Tryz.prog.underlying 23 = some (.slice 79) by kernel_rfl), (fun h => by cases h)⟩
theorem tok24 : TEok Tryz.prog 24 ⟨.slice 9, 1, 24, [.nils]⟩ := ⟨by kernel_rfl, ⟨rfl, by decide⟩, (fun _ => rfl), (show Tryz.prog.underlying 24 = some (.slice 9) by kernel_rfl), (fun h => by cases h)⟩
theorem tok25 : TEok Tryz.prog 25 ⟨.struct [(0, 22), (1, 23), (2, 23), (3, 24), (4, 3), (5, 3)], 6, 112, [.nils, .nils, .nils, .nils, .int .i64 0, .int .i64 0]⟩ := ⟨by kernel_rfl, ⟨rfl, by decide⟩, (fun h => by cases h), und_struct (by kernel_rfl), (fun h => by cases h)⟩
theorem tok26 : TEok Tryz.prog 26 ⟨.struct [(0, 22), (1, 23), (2, 23), (3, 24), (4, 3), (5, 3)], 6, 112, [.nils, .nils, .nils, .nils, .int .i64 0, .int .i64 0]⟩ := ⟨by kernel_rfl, ⟨rfl, by decide⟩, (fun h => by cases h), und_struct (by kernel_rfl), (fun h => by cases h)⟩
theorem tok27 : TEok Tryz.prog 27 ⟨.slice 3, 1, 24, [.nils]⟩ := ⟨by kernel_rfl, ⟨rfl, by decide⟩, (fun _ => rfl), (show Tryz.prog.underlying 27 = some (.slice 3) by kernel_rfl), (fun h => by cases h)⟩
theorem tok28 : TEok Tryz.prog 28 ⟨.struct [(0, 3), (1, 3), (2, 3), (3, 3), (4, 3), (5, 27), (6, 3), (7, 4), (8, 3)], 9, 88, [.int .i64 0, .int .i64 0, .int .i64 0, .int .i64 0, .int .i64 0, .nils, .int .i64 0, .bool false, .int .i64 0]⟩ := ⟨by kernel_rfl, ⟨rfl, by decide⟩, (fun h => by cases h), und_struct (by kernel_rfl), (fun h => by cases h)⟩
theorem tok29 : TEok Tryz.prog 29 ⟨.struct [(0, 3), (1, 3), (2, 3), (3, 3), (4, 3), (5, 27), (6, 3), (7, 4), (8, 3)], 9, 88, [.int .i64 0, .int .i64 0, .int .i64 0, .int .i64 0, .int .i64 0, .nils, .int .i64 0, .bool false, .int .i64 0]⟩ := ⟨by kernel_rfl, ⟨rfl, by decide⟩, (fun h => by cases h), und_struct (by kernel_rfl), (fun h => by cases h)⟩
theorem tok32 : TEok Tryz.prog 32 ⟨.slice 93, 1, 24, [.nils]⟩ := ⟨by kernel_rfl, ⟨rfl, by decide⟩, (fun _ => rfl), (show Tryz.prog.underlying 32 = some (.slice 93) by kernel_rfl), (fun h => by cases h)⟩
theorem tok33 : TEok Tryz.prog 33 ⟨.slice 101, 1, 24, [.nils]⟩ := ⟨by kernel_rfl, ⟨rfl, by decide⟩, (fun _ => rfl), (show Tryz.prog.underlying 33 = some (.slice 101) by kernel_rfl), (fun h => by cases h)⟩
theorem tok34 : TEok Tryz.prog 34 ⟨.struct [(0, 32), (1, 33), (2, 33), (3, 24), (4, 3), (5, 3)], 6, 112, [.nils, .nils, .nils, .nils, .int .i64 0, .int .i64 0]⟩ := ⟨by kernel_rfl, ⟨rfl, by decide⟩, (fun h => by cases h), und_struct (by kernel_rfl), (fun h => by cases h)⟩
theorem tok35 : TEok Tryz.prog 35 ⟨.struct [(0, 32), (1, 33), (2, 33), (3, 24), (4, 3), (5, 3)], 6, 112, [.nils, .nils, .nils, .nils, .int .i64 0, .int .i64 0]⟩ := ⟨by kernel_rfl, ⟨rfl, by decide⟩, (fun h => by cases h), und_struct (by kernel_rfl), (fun h => by cases h)⟩
theorem tok36 : TEok Tryz.prog 36 ⟨.struct [(0, 3), (1, 3), (2, 3), (3, 3), (4, 3), (5, 27), (6, 3), (7, 4), (8, 3)], 9, 88, [.int .i64 0, .int .i64 0, .int .i64 0, .int .i64 0, .int .i64 0, .nils, .int .i64 0, .bool false, .int .i64 0]⟩ := ⟨by kernel_rfl, ⟨rfl, by decide⟩, (fun h => by cases h), und_struct (by kernel_rfl), (fun h => by cases h)⟩
theorem tok59 : TEok Tryz.prog 59 ⟨.struct [(0, 3), (1, 3), (2, 3), (3, 3)], 4, 32, [.int .i64 0, .int .i64 0, .int .i64 0, .int .i64 0]⟩ := ⟨by kernel_rfl, ⟨rfl, by decide⟩, (fun h => by cases h), und_struct (by kernel_rfl), (fun _ => by kernel_rfl)⟩
theorem tok60 : TEok Tryz.prog 60 ⟨.struct [(0, 3), (1, 3), (2, 3), (3, 3)], 4, 32, [.int .i64 0, .int .i64 0, .int .i64 0, .int .i64 0]⟩ := ⟨by kernel_rfl, ⟨rfl, by decide⟩, (fun h => by cases h), und_struct (by kernel_rfl), (fun _ => by kernel_rfl)⟩
theorem tok75 : TEok Tryz.prog 75 ⟨.struct [(0, 3), (1, 9), (2, 3)], 3, 32, [.int .i64 0, .str ByteArray.empty, .int .i64 0]⟩ := ⟨by kernel_rfl, ⟨rfl, by decide⟩, (fun h => by cases h), und_struct (by kernel_rfl), (fun _ => by kernel_rfl)⟩
theorem tok76 : TEok Tryz.prog 76 ⟨.struct [(0, 3), (1, 9), (2, 3)], 3, 32, [.int .i64 0, .str ByteArray.empty, .int .i64 0]⟩ := ⟨by kernel_rfl, ⟨rfl, by decide⟩, (fun h => by cases h), und_struct (by kernel_rfl), (fun _ => by kernel_rfl)⟩
theorem tok78 : TEok Tryz.prog 78 ⟨.struct [(0, 9), (1, 3)], 2, 24, [.str ByteArray.empty, .int .i64 0]⟩ := ⟨by kernel_rfl, ⟨rfl, by decide⟩, (fun h => by cases h), und_struct (by kernel_rfl), (fun _ => by kernel_rfl)⟩
theorem tok79 : TEok Tryz.prog 79 ⟨.struct [(0, 9), (1, 3)], 2, 24, [.str ByteArray.empty, .int .i64 0]⟩ := ⟨by kernel_rfl, ⟨rfl, by decide⟩, (fun h => by cases h), und_struct (by kernel_rfl), (fun _ => by kernel_rfl)⟩
theorem tok81 : TEok Tryz.prog 81 ⟨.slice 5, 1, 24, [.nils]⟩ := ⟨by kernel_rfl, ⟨rfl, by decide⟩, (fun _ => rfl), (show Tryz.prog.underlying 81 = some (.slice 5) by kernel_rfl), (fun h => by cases h)⟩
theorem tok82 : TEok Tryz.prog 82 ⟨.int .u64, 1, 8, [.int .u64 0]⟩ := ⟨by kernel_rfl, ⟨rfl, by decide⟩, (fun _ => rfl), (show Tryz.prog.underlying 82 = some (.int .u64) by kernel_rfl), (fun h => by cases h)⟩
theorem tok83 : TEok Tryz.prog 83 ⟨.struct [(0, 4), (1, 60), (5, 24), (6, 27), (7, 3), (8, 4)], 9, 104, [.bool false, .int .i64 0, .int .i64 0, .int .i64 0, .int .i64 0, .nils, .nils, .int .i64 0, .bool false]⟩ := ⟨by kernel_rfl, ⟨rfl, by decide⟩, (fun h => by cases h), und_struct (by kernel_rfl), (fun h => by cases h)⟩
theorem tok84 : TEok Tryz.prog 84 ⟨.struct [(0, 4), (1, 60), (5, 24), (6, 27), (7, 3), (8, 4)], 9, 104, [.bool false, .int .i64 0, .int .i64 0, .int .i64 0, .int .i64 0, .nils, .nils, .int .i64 0, .bool false]⟩ := ⟨by kernel_rfl, ⟨rfl, by decide⟩, (fun h => by cases h), und_struct (by kernel_rfl), (fun h => by cases h)⟩
theorem tok93 : TEok Tryz.prog 93 ⟨.struct [(0, 3), (1, 9), (2, 3)], 3, 32, [.int .i64 0, .str ByteArray.empty, .int .i64 0]⟩ := ⟨by kernel_rfl, ⟨rfl, by decide⟩, (fun h => by cases h), und_struct (by kernel_rfl), (fun _ => by kernel_rfl)⟩
theorem tok97 : TEok Tryz.prog 97 ⟨.slice 122, 1, 24, [.nils]⟩ := ⟨by kernel_rfl, ⟨rfl, by decide⟩, (fun _ => rfl), (show Tryz.prog.underlying 97 = some (.slice 122) by kernel_rfl), (fun h => by cases h)⟩
theorem tok101 : TEok Tryz.prog 101 ⟨.struct [(0, 9), (1, 3)], 2, 24, [.str ByteArray.empty, .int .i64 0]⟩ := ⟨by kernel_rfl, ⟨rfl, by decide⟩, (fun h => by cases h), und_struct (by kernel_rfl), (fun _ => by kernel_rfl)⟩
theorem tok121 : TEok Tryz.prog 121 ⟨.struct [(0, 3), (1, 3)], 2, 16, [.int .i64 0, .int .i64 0]⟩ := ⟨by kernel_rfl, ⟨rfl, by decide⟩, (fun h => by cases h), und_struct (by kernel_rfl), (fun _ => by kernel_rfl)⟩
theorem tok122 : TEok Tryz.prog 122 ⟨.struct [(0, 3), (1, 3)], 2, 16, [.int .i64 0, .int .i64 0]⟩ := ⟨by kernel_rfl, ⟨rfl, by decide⟩, (fun h => by cases h), und_struct (by kernel_rfl), (fun _ => by kernel_rfl)⟩
theorem tok127 : TEok Tryz.prog 127 ⟨.ptr 129, 1, 8, [.nilp]⟩ := ⟨by kernel_rfl, ⟨rfl, by decide⟩, (fun _ => rfl), (show Tryz.prog.underlying 127 = some (.pointer 129) by kernel_rfl), (fun h => by cases h)⟩
theorem tok128 : TEok Tryz.prog 128 ⟨.struct [(0, 127), (1, 81)], 2, 32, [.nilp, .nils]⟩ := ⟨by kernel_rfl, ⟨rfl, by decide⟩, (fun h => by cases h), und_struct (by kernel_rfl), (fun h => by cases h)⟩
theorem tok129 : TEok Tryz.prog 129 ⟨.struct [(0, 127), (1, 81)], 2, 32, [.nilp, .nils]⟩ := ⟨by kernel_rfl, ⟨rfl, by decide⟩, (fun h => by cases h), und_struct (by kernel_rfl), (fun h => by cases h)⟩
theorem tok132 : TEok Tryz.prog 132 ⟨.iface, 1, 16, [.raw .nilIface]⟩ := ⟨by kernel_rfl, ⟨rfl, by decide⟩, (fun _ => rfl), ⟨_, Tryz.underlying132⟩, (fun h => by cases h)⟩
theorem tok153 : TEok Tryz.prog 153 ⟨.arr 24 5, 24, 24, [.int .u8 0, .int .u8 0, .int .u8 0, .int .u8 0, .int .u8 0, .int .u8 0, .int .u8 0, .int .u8 0, .int .u8 0, .int .u8 0, .int .u8 0, .int .u8 0, .int .u8 0, .int .u8 0, .int .u8 0, .int .u8 0, .int .u8 0, .int .u8 0, .int .u8 0, .int .u8 0, .int .u8 0, .int .u8 0, .int .u8 0, .int .u8 0]⟩ := ⟨by kernel_rfl, ⟨rfl, by decide⟩, (fun h => by cases h), (show Tryz.prog.underlying 153 = some (.array 24 5) by kernel_rfl), (fun h => by cases h)⟩
theorem tok154 : TEok Tryz.prog 154 ⟨.int .u64, 1, 8, [.int .u64 0]⟩ := ⟨by kernel_rfl, ⟨rfl, by decide⟩, (fun _ => rfl), (show Tryz.prog.underlying 154 = some (.int .u64) by kernel_rfl), (fun h => by cases h)⟩
theorem tok159 : TEok Tryz.prog 159 ⟨.int .u32, 1, 4, [.int .u32 0]⟩ := ⟨by kernel_rfl, ⟨rfl, by decide⟩, (fun _ => rfl), (show Tryz.prog.underlying 159 = some (.int .u32) by kernel_rfl), (fun h => by cases h)⟩
theorem tok164 : TEok Tryz.prog 164 ⟨.ptr 5, 1, 8, [.nilp]⟩ := ⟨by kernel_rfl, ⟨rfl, by decide⟩, (fun _ => rfl), (show Tryz.prog.underlying 164 = some (.pointer 5) by kernel_rfl), (fun h => by cases h)⟩
theorem tok176 : TEok Tryz.prog 176 ⟨.arr 20 154, 20, 160, [.int .u64 0, .int .u64 0, .int .u64 0, .int .u64 0, .int .u64 0, .int .u64 0, .int .u64 0, .int .u64 0, .int .u64 0, .int .u64 0, .int .u64 0, .int .u64 0, .int .u64 0, .int .u64 0, .int .u64 0, .int .u64 0, .int .u64 0, .int .u64 0, .int .u64 0, .int .u64 0]⟩ := ⟨by kernel_rfl, ⟨rfl, by decide⟩, (fun h => by cases h), (show Tryz.prog.underlying 176 = some (.array 20 154) by kernel_rfl), (fun h => by cases h)⟩
theorem tok177 : TEok Tryz.prog 177 ⟨.arr 65 5, 65, 65, [.int .u8 0, .int .u8 0, .int .u8 0, .int .u8 0, .int .u8 0, .int .u8 0, .int .u8 0, .int .u8 0, .int .u8 0, .int .u8 0, .int .u8 0, .int .u8 0, .int .u8 0, .int .u8 0, .int .u8 0, .int .u8 0, .int .u8 0, .int .u8 0, .int .u8 0, .int .u8 0, .int .u8 0, .int .u8 0, .int .u8 0, .int .u8 0, .int .u8 0, .int .u8 0, .int .u8 0, .int .u8 0, .int .u8 0, .int .u8 0, .int .u8 0, .int .u8 0, .int .u8 0, .int .u8 0, .int .u8 0, .int .u8 0, .int .u8 0, .int .u8 0, .int .u8 0, .int .u8 0, .int .u8 0, .int .u8 0, .int .u8 0, .int .u8 0, .int .u8 0, .int .u8 0, .int .u8 0, .int .u8 0, .int .u8 0, .int .u8 0, .int .u8 0, .int .u8 0, .int .u8 0, .int .u8 0, .int .u8 0, .int .u8 0, .int .u8 0, .int .u8 0, .int .u8 0, .int .u8 0, .int .u8 0, .int .u8 0, .int .u8 0, .int .u8 0, .int .u8 0]⟩ := ⟨by kernel_rfl, ⟨rfl, by decide⟩, (fun h => by cases h), (show Tryz.prog.underlying 177 = some (.array 65 5) by kernel_rfl), (fun h => by cases h)⟩
theorem tok189 : TEok Tryz.prog 189 ⟨.arr 32 5, 32, 32, [.int .u8 0, .int .u8 0, .int .u8 0, .int .u8 0, .int .u8 0, .int .u8 0, .int .u8 0, .int .u8 0, .int .u8 0, .int .u8 0, .int .u8 0, .int .u8 0, .int .u8 0, .int .u8 0, .int .u8 0, .int .u8 0, .int .u8 0, .int .u8 0, .int .u8 0, .int .u8 0, .int .u8 0, .int .u8 0, .int .u8 0, .int .u8 0, .int .u8 0, .int .u8 0, .int .u8 0, .int .u8 0, .int .u8 0, .int .u8 0, .int .u8 0, .int .u8 0]⟩ := ⟨by kernel_rfl, ⟨rfl, by decide⟩, (fun h => by cases h), (show Tryz.prog.underlying 189 = some (.array 32 5) by kernel_rfl), (fun h => by cases h)⟩
theorem tok190 : TEok Tryz.prog 190 ⟨.arr 64 5, 64, 64, [.int .u8 0, .int .u8 0, .int .u8 0, .int .u8 0, .int .u8 0, .int .u8 0, .int .u8 0, .int .u8 0, .int .u8 0, .int .u8 0, .int .u8 0, .int .u8 0, .int .u8 0, .int .u8 0, .int .u8 0, .int .u8 0, .int .u8 0, .int .u8 0, .int .u8 0, .int .u8 0, .int .u8 0, .int .u8 0, .int .u8 0, .int .u8 0, .int .u8 0, .int .u8 0, .int .u8 0, .int .u8 0, .int .u8 0, .int .u8 0, .int .u8 0, .int .u8 0, .int .u8 0, .int .u8 0, .int .u8 0, .int .u8 0, .int .u8 0, .int .u8 0, .int .u8 0, .int .u8 0, .int .u8 0, .int .u8 0, .int .u8 0, .int .u8 0, .int .u8 0, .int .u8 0, .int .u8 0, .int .u8 0, .int .u8 0, .int .u8 0, .int .u8 0, .int .u8 0, .int .u8 0, .int .u8 0, .int .u8 0, .int .u8 0, .int .u8 0, .int .u8 0, .int .u8 0, .int .u8 0, .int .u8 0, .int .u8 0, .int .u8 0, .int .u8 0]⟩ := ⟨by kernel_rfl, ⟨rfl, by decide⟩, (fun h => by cases h), (show Tryz.prog.underlying 190 = some (.array 64 5) by kernel_rfl), (fun h => by cases h)⟩
theorem tok192 : TEok Tryz.prog 192 ⟨.int .i64, 1, 8, [.int .i64 0]⟩ := ⟨by kernel_rfl, ⟨rfl, by decide⟩, (fun _ => rfl), (show Tryz.prog.underlying 192 = some (.int .i64) by kernel_rfl), (fun h => by cases h)⟩
theorem tok195 : TEok Tryz.prog 195 ⟨.ptr 203, 1, 8, [.nilp]⟩ := ⟨by kernel_rfl, ⟨rfl, by decide⟩, (fun _ => rfl), (show Tryz.prog.underlying 195 = some (.pointer 203) by kernel_rfl), (fun h => by cases h)⟩
theorem tok202 : TEok Tryz.prog 202 ⟨.struct [(0, 9), (1, 9), (2, 132)], 3, 48, [.str ByteArray.empty, .str ByteArray.empty, .raw .nilIface]⟩ := ⟨by kernel_rfl, ⟨rfl, by decide⟩, (fun h => by cases h), und_struct (by kernel_rfl), (fun h => by cases h)⟩
theorem tok203 : TEok Tryz.prog 203 ⟨.struct [(0, 9), (1, 9), (2, 132)], 3, 48, [.str ByteArray.empty, .str ByteArray.empty, .raw .nilIface]⟩ := ⟨by kernel_rfl, ⟨rfl, by decide⟩, (fun h => by cases h), und_struct (by kernel_rfl), (fun h => by cases h)⟩
theorem tok207 : TEok Tryz.prog 207 ⟨.ptr 209, 1, 8, [.nilp]⟩ := ⟨by kernel_rfl, ⟨rfl, by decide⟩, (fun _ => rfl), (show Tryz.prog.underlying 207 = some (.pointer 209) by kernel_rfl), (fun h => by cases h)⟩
theorem tok208 : TEok Tryz.prog 208 ⟨.struct [(0, 9)], 1, 16, [.str ByteArray.empty]⟩ := ⟨by kernel_rfl, ⟨rfl, by decide⟩, (fun h => by cases h), und_struct (by kernel_rfl), (fun _ => by kernel_rfl)⟩
theorem tok209 : TEok Tryz.prog 209 ⟨.struct [(0, 9)], 1, 16, [.str ByteArray.empty]⟩ := ⟨by kernel_rfl, ⟨rfl, by decide⟩, (fun h => by cases h), und_struct (by kernel_rfl), (fun _ => by kernel_rfl)⟩
theorem tok210 : TEok Tryz.prog 210 ⟨.struct [(0, 17), (1, 17), (2, 17), (3, 9)], 4, 40, [.nilp, .nilp, .nilp, .str ByteArray.empty]⟩ := ⟨by kernel_rfl, ⟨rfl, by decide⟩, (fun h => by cases h), und_struct (by kernel_rfl), (fun h => by cases h)⟩
theorem tok211 : TEok Tryz.prog 211 ⟨.struct [(0, 17), (1, 17), (2, 17), (3, 9)], 4, 40, [.nilp, .nilp, .nilp, .str ByteArray.empty]⟩ := ⟨by kernel_rfl, ⟨rfl, by decide⟩, (fun h => by cases h), und_struct (by kernel_rfl), (fun h => by cases h)⟩
theorem tok212 : TEok Tryz.prog 212 ⟨.arr 0 16, 0, 0, []⟩ := ⟨by kernel_rfl, ⟨rfl, by decide⟩, (fun h => by cases h), (show Tryz.prog.underlying 212 = some (.array 0 16) by kernel_rfl), (fun h => by cases h)⟩
theorem tok215 : TEok Tryz.prog 215 ⟨.int .u8, 1, 1, [.int .u8 0]⟩ := ⟨by kernel_rfl, ⟨rfl, by decide⟩, (fun _ => rfl), (show Tryz.prog.underlying 215 = some (.int .u8) by kernel_rfl), (fun h => by cases h)⟩
theorem tok216 : TEok Tryz.prog 216 ⟨.int .u8, 1, 1, [.int .u8 0]⟩ := ⟨by kernel_rfl, ⟨rfl, by decide⟩, (fun _ => rfl), (show Tryz.prog.underlying 216 = some (.int .u8) by kernel_rfl), (fun h => by cases h)⟩
theorem tok218 : TEok Tryz.prog 218 ⟨.int .i32, 1, 4, [.int .i32 0]⟩ := ⟨by kernel_rfl, ⟨rfl, by decide⟩, (fun _ => rfl), (show Tryz.prog.underlying 218 = some (.int .i32) by kernel_rfl), (fun h => by cases h)⟩
theorem tok219 : TEok Tryz.prog 219 ⟨.int .i32, 1, 4, [.int .i32 0]⟩ := ⟨by kernel_rfl, ⟨rfl, by decide⟩, (fun _ => rfl), (show Tryz.prog.underlying 219 = some (.int .i32) by kernel_rfl), (fun h => by cases h)⟩
theorem tok220 : TEok Tryz.prog 220 ⟨.struct [(0, 12), (1, 12), (2, 159), (3, 215), (4, 5), (5, 5), (6, 216), (7, 217), (8, 164), (9, 218), (10, 219)], 11, 48, [.int .u64 0, .int .u64 0, .int .u32 0, .int .u8 0, .int .u8 0, .int .u8 0, .int .u8 0, .raw .nilFunc, .nilp, .int .i32 0, .int .i32 0]⟩ := ⟨by kernel_rfl, ⟨rfl, by decide⟩, (fun h => by cases h), und_struct (by kernel_rfl), (fun h => by cases h)⟩
theorem tok221 : TEok Tryz.prog 221 ⟨.struct [(0, 12), (1, 12), (2, 159), (3, 215), (4, 5), (5, 5), (6, 216), (7, 217), (8, 164), (9, 218), (10, 219)], 11, 48, [.int .u64 0, .int .u64 0, .int .u32 0, .int .u8 0, .int .u8 0, .int .u8 0, .int .u8 0, .raw .nilFunc, .nilp, .int .i32 0, .int .i32 0]⟩ := ⟨by kernel_rfl, ⟨rfl, by decide⟩, (fun h => by cases h), und_struct (by kernel_rfl), (fun h => by cases h)⟩
theorem tok : Tok Tryz.prog T := fun t e h => by
  unfold T at h
  split at h <;> first
    | contradiction
    | (cases h; first | exact tok2 | exact tok3 | exact tok4 | exact tok5 | exact tok6 | exact tok7 | exact tok8 | exact tok9 | exact tok10 | exact tok11 | exact tok12 | exact tok15 | exact tok16 | exact tok17 | exact tok18 | exact tok19 | exact tok21 | exact tok22 | exact tok23 | exact tok24 | exact tok25 | exact tok26 | exact tok27 | exact tok28 | exact tok29 | exact tok32 | exact tok33 | exact tok34 | exact tok35 | exact tok36 | exact tok59 | exact tok60 | exact tok75 | exact tok76 | exact tok78 | exact tok79 | exact tok81 | exact tok82 | exact tok83 | exact tok84 | exact tok93 | exact tok97 | exact tok101 | exact tok121 | exact tok122 | exact tok127 | exact tok128 | exact tok129 | exact tok132 | exact tok153 | exact tok154 | exact tok159 | exact tok164 | exact tok176 | exact tok177 | exact tok189 | exact tok190 | exact tok192 | exact tok195 | exact tok202 | exact tok203 | exact tok207 | exact tok208 | exact tok209 | exact tok210 | exact tok211 | exact tok212 | exact tok215 | exact tok216 | exact tok218 | exact tok219 | exact tok220 | exact tok221)
theorem mixed : Tryz.prog.follows .mixedOrders = true := by kernel_rfl
theorem GV : gev 0 = .fel glob0 ∧ gev 1 = .raw (.pointer (some ⟨1, 0, none⟩)) ∧ gev 2 = .raw (.pointer (some ⟨2, 0, none⟩)) ∧ gev 3 = .fel glob3 ∧ gev 4 = .fel glob4 ∧ gev 5 = .fel glob5 := ⟨rfl, rfl, rfl, rfl, rfl, rfl⟩
end Go.Pv

/- What functions of the program and of the reference do, in plain values. -/
namespace Go.Pv
open Go.Proofs Go.Mth
set_option linter.unusedSimpArgs false
set_option linter.unusedVariables false
set_option maxHeartbeats 4000000
set_option maxRecDepth 4000

def bkd (κ R : List Nat) (key : Nat) (hp ha : Hp) (K : PV → Hp → Prop) (res : PV) (hr : Hp) : Prop :=
  Ck (resOk res && hpB hr) ∧ KeysOk hp (ln κ) key hr ∧ Mn ha hr (ln κ) ∧ K (rk (sg κ key) res) (rkH (sg κ key) hr ++ gone hr κ 0 ++ R.map fun k => (k, HC.dead))
end Go.Pv

/- Plain mathematics for this seat's laws: rounds, sums of 32 bits, numbers in bytes. No program in it.
   Conditions: none beyond those that each lemma names. -/
namespace Go.Mth
open Go.RowKit
set_option linter.unusedVariables false
set_option linter.unusedSimpArgs false

theorem wr64 (n : Int) (h0 : 0 ≤ n) (h1 : n < 2 ^ 32) : IntKind.i64.wrap n = n := by rw [IntKind.wrap_i64]; omega
theorem and_mask64 (s : Int) (i : Nat) (hi : i ≤ 32) : Go.bits .and .i64 s (2 ^ i - 1) = s % 2 ^ i := by
  have hpos : 0 < 2 ^ i := Nat.two_pow_pos i
  have hc : ((2 : Int) ^ i - 1) = ((2 ^ i - 1 : Nat) : Int) := by rw [Int.natCast_sub hpos]; simp
  have hle : 2 ^ i ≤ 2 ^ 32 := Nat.pow_le_pow_right (by decide) hi
  have hm : (2 ^ i - 1) % 2 ^ 64 = 2 ^ i - 1 := Nat.mod_eq_of_lt (by omega)
  have hd : ((s % ((2 ^ 64 : Nat) : Int)).toNat % 2 ^ i : Nat) = (s % ((2 ^ i : Nat) : Int)) := by
    have h1 : ((s % ((2 ^ 64 : Nat) : Int)).toNat : Int) = s % ((2 ^ 64 : Nat) : Int) := Int.toNat_of_nonneg (Int.emod_nonneg _ (by decide))
    rw [Int.natCast_emod, h1]
    exact Int.emod_emod_of_dvd _ (by exact_mod_cast Nat.pow_dvd_pow 2 (by omega : i ≤ 64))
  have e : ((BitVec.ofInt 64 s &&& BitVec.ofInt 64 (2 ^ i - 1)).toNat : Int) = s % ((2 ^ i : Nat) : Int) := by
    rw [hc, BitVec.ofInt_natCast, BitVec.toNat_and, BitVec.toNat_ofNat, hm, Nat.and_two_pow_sub_one_eq_mod, BitVec.toNat_ofInt]
    exact hd
  have h0 : 0 ≤ s % ((2 ^ i : Nat) : Int) := Int.emod_nonneg _ (by exact_mod_cast (by omega : 2 ^ i ≠ 0))
  have h1 : s % ((2 ^ i : Nat) : Int) < ((2 ^ i : Nat) : Int) := Int.emod_lt_of_pos _ (by exact_mod_cast hpos)
  have h2 : ((2 ^ i : Nat) : Int) ≤ ((2 ^ 32 : Nat) : Int) := by exact_mod_cast hle
  have h3 : IntKind.i64.wrap (s % ((2 ^ i : Nat) : Int)) = s % ((2 ^ i : Nat) : Int) := wr64 _ h0 (by omega)
  have h4 : Go.bits .and .i64 s (2 ^ i - 1) = IntKind.i64.wrap ((BitVec.ofInt 64 s &&& BitVec.ofInt 64 (2 ^ i - 1)).toNat : Int) := rfl
  rw [h4, e, h3]
  simp
/-! ### sums of 32 bits -/
def stp (n : Nat) : Nat := if n % 2 = 1 then (n / 2) ^^^ 2197175160 else n / 2
def stps : Nat → Nat → Nat
  | 0, n => n
  | d + 1, n => stps d (stp n)
/-- A sum behind a byte. -/
def sb (s b : Nat) : Nat := stps 8 (s ^^^ b)
def sm (s : Nat) (l : List Nat) : Nat := l.foldl sb s
/-! ### texts as lists of numbers -/
def bl (t : ByteArray) : List Nat := t.data.toList.map UInt8.toNat
/-- SumMore of any s and a text. -/
def sumMore (s : Int) (t : ByteArray) : Int := ((sm ((s % 4294967296).toNat ^^^ 4294967295) (bl t) ^^^ 4294967295 : Nat) : Int)
def sumOf (t : ByteArray) : Int := sumMore 0 t
/-! ### numbers in so many bytes -/
def fixL : Nat → Int → List Int
  | 0, _ => []
  | d + 1, n => n % 256 :: fixL d (n / 256)
def fixT (n w : Int) : ByteArray := if n < 0 ∨ w < 1 ∨ 8 < w ∨ n / 256 ^ w.toNat > 0 then ⟨#[]⟩ else strOf (fixL w.toNat n)

theorem strOf_size (l : List Int) : (strOf l).size = l.length := by simp [strOf, ByteArray.size]
/-! ### numbers in as few bytes as can be -/
def varL : Nat → Int → List Int
  | 0, n => [n % 256]
  | d + 1, n => if n > 127 then (n % 128 + 128) :: varL d (n / 128) else [n % 256]
def varT (n : Int) : ByteArray := if n < 0 ∨ 1000000000 < n then ⟨#[]⟩ else strOf (varL 4 n)
def sizedT (p n : Int) : ByteArray := fixT n 4 ++ fixT (sumOf (fixT p 8 ++ fixT n 4)) 4
def verOk (v : Int) : Prop := v = 1 ∨ v = 2
instance (v : Int) : Decidable (verOk v) := by unfold verOk; infer_instance
def numOk (n : Int) : Prop := 0 ≤ n ∧ n ≤ 1000000000
instance (v : Int) : Decidable (numOk v) := by unfold numOk; infer_instance
def endMark (v p : Int) : ByteArray := if verOk v ∧ numOk p then (if v = 1 then ⟨#[255, 255, 255, 255, 15]⟩ else sizedT p 4294967295) else ⟨#[]⟩
def frameT (v p : Int) (r : ByteArray) : ByteArray :=
  if verOk v ∧ numOk p ∧ r.size ≤ 60 then (if v = 1 then varT r.size else sizedT p r.size) ++ r ++ fixT (sumOf r) 4 else ⟨#[]⟩
/-- Whether a text stands at a place. -/
def hasAt (b : ByteArray) (a : Int) (t : ByteArray) : Bool := decide (0 ≤ a ∧ a + t.size ≤ b.size ∧ b.extract a.toNat (a.toNat + t.size) = t)
def markAt (v p : Int) (b : ByteArray) (a : Int) : Bool := decide ((endMark v p).size ≠ 0) && hasAt b a (endMark v p)

/-! ### rows that are marked, copied, compared -/
def seqL : Nat → Int → List Int
  | 0, _ => []
  | d + 1, m => m :: seqL d (m + 1)
theorem seqL_length : ∀ (d : Nat) (m : Int), (seqL d m).length = d
  | 0, _ => rfl
  | d + 1, m => by simp [seqL, seqL_length d]
theorem seqL_snoc : ∀ (d : Nat) (m : Int), seqL (d + 1) m = seqL d m ++ [m + d]
  | 0, m => by simp [seqL]
  | d + 1, m => by
    rw [show seqL (d + 1 + 1) m = m :: seqL (d + 1) (m + 1) from rfl, seqL_snoc d (m + 1)]
    rw [show seqL (d + 1) m = m :: seqL d (m + 1) from rfl]
    simp only [List.cons_append, Int.natCast_add]
    congr 3
    omega
theorem seqL_get : ∀ (d : Nat) (m : Int) (i : Nat), i < d → rd (seqL d m) i = m + i
  | d + 1, m, 0, _ => by simp [rd, seqL]
  | d + 1, m, i + 1, h => by
    have := seqL_get d (m + 1) i (by omega)
    unfold rd at this ⊢
    rw [Int.toNat_natCast] at this ⊢
    rw [show seqL (d + 1) m = m :: seqL d (m + 1) from rfl, List.getD_cons_succ, this]
    omega
theorem take_snoc {α : Type} (d : α) (xs : List α) (i : Nat) (h : i < xs.length) : xs.take (i + 1) = xs.take i ++ [rdOf d xs (i : Int)] := by
  unfold rdOf
  rw [List.take_succ_eq_append_getElem h, Int.toNat_natCast, List.getD_eq_getElem?_getD, List.getElem?_eq_getElem h]
  rfl

end Go.Mth

/- Plain mathematics for this seat's laws, second part: numbers read from bytes, heads, frames, scans. No program in it.
   Conditions: none beyond those that each lemma names. -/
namespace Go.Mth
open Go.RowKit
set_option linter.unusedVariables false
set_option linter.unusedSimpArgs false

/-! ### texts and their numbers -/
theorem bytesOf_length (t : ByteArray) : (bytesOf t).length = t.size := by
  unfold bytesOf
  rw [List.length_map, Array.length_toList]
  rfl
theorem bytesOf_append (a b : ByteArray) : bytesOf (a ++ b) = bytesOf a ++ bytesOf b := by
  unfold bytesOf
  rw [ByteArray.data_append, Array.toList_append, List.map_append]
theorem bytesOf_extract (t : ByteArray) (i j : Nat) : bytesOf (t.extract i j) = ((bytesOf t).take j).drop i := by
  unfold bytesOf
  rw [ByteArray.data_extract, Array.toList_extract, List.extract_eq_take_drop, ← List.map_take, ← List.map_drop, List.drop_take]
theorem bytesOf_strOf (l : List Int) (h : ∀ x ∈ l, 0 ≤ x ∧ x ≤ 255) : bytesOf (strOf l) = l := by
  unfold bytesOf strOf
  rw [List.map_map]
  refine (List.map_congr_left (fun x hx => ?_)).trans (List.map_id l)
  have := h x hx
  simp only [Function.comp, id]
  rw [UInt8.toNat_ofNat']
  omega
theorem strOf_bytesOf (t : ByteArray) : strOf (bytesOf t) = t := by
  unfold bytesOf strOf
  rw [List.map_map]
  have e : t.data.toList.map ((fun n : Int => UInt8.ofNat n.toNat) ∘ fun b : UInt8 => (b.toNat : Int)) = t.data.toList := by
    refine (List.map_congr_left (fun x hx => ?_)).trans (List.map_id _)
    simp only [Function.comp, Int.toNat_natCast, id]
    exact UInt8.ofNat_toNat
  rw [e]
theorem bytesOf_inj {a b : ByteArray} (h : bytesOf a = bytesOf b) : a = b := by
  rw [← strOf_bytesOf a, ← strOf_bytesOf b, h]
theorem pow_mono (a : Nat) (ha : 0 < a) {i j : Nat} (h : i ≤ j) : ((a : Int)) ^ i ≤ (a : Int) ^ j := by
  have := Nat.pow_le_pow_right ha h
  exact_mod_cast this
/-! ### numbers read from so many bytes -/
/-- The number of these bytes, the lowest first. -/
def le : List Int → Int
  | [] => 0
  | x :: l => x + 256 * le l
/-- The bytes of a text from a place on, so many. -/
def seg (b : ByteArray) (a n : Nat) : List Int := ((bytesOf b).drop a).take n
def rfix (b : ByteArray) (a w : Int) : Int × Bool :=
  if (1 ≤ w ∧ w ≤ 8) ∧ 0 ≤ a ∧ a ≤ b.size - w then (if le (seg b a.toNat w.toNat) < 2 ^ 63 then (le (seg b a.toNat w.toNat), true) else (0, false)) else (0, false)
end Go.Mth

/- Plain mathematics for this seat's laws, third part: numbers in as few bytes as can be, read; heads; frames; scans. No program in it.
   Conditions: none beyond those that each lemma names. -/
namespace Go.Mth
open Go.RowKit
set_option linter.unusedVariables false
set_option linter.unusedSimpArgs false

/-! ### numbers in as few bytes as can be, read -/
def acc : List Int → Int
  | [] => 0
  | x :: l => x % 128 + 128 * acc l
def rvI (b : ByteArray) (a : Nat) : Nat → Nat → Int × Int × Bool
  | 0, _ => (0, 0, false)
  | d + 1, i => if a + i < b.size then
      (if bt b ((a + i : Nat) : Int) ≥ 128 then rvI b a d (i + 1)
       else if (0 < i ∧ bt b ((a + i : Nat) : Int) = 0) ∨ 1000000000 < acc (seg b a (i + 1)) then (0, 0, false) else (acc (seg b a (i + 1)), ((a + i + 1 : Nat) : Int), true))
      else (0, 0, false)
/-- The number whose VarText stands there. -/
def rv (b : ByteArray) (a : Int) : Int × Int × Bool := if 0 ≤ a then rvI b a.toNat 5 0 else (0, 0, false)
/-! ### heads -/
def headOk (v s b l : Int) : Prop := verOk v ∧ (1 ≤ s ∧ s ≤ 20) ∧ numOk b ∧ (0 ≤ l ∧ l ≤ 4294967295)
instance (v s b l : Int) : Decidable (headOk v s b l) := by unfold headOk; infer_instance
def hdBody (v s b l : Int) : ByteArray := ⟨#[83, 69, 71, 77]⟩ ++ fixT v 1 ++ fixT s 1 ++ ⟨#[0, 0]⟩ ++ fixT b 8 ++ fixT l 4
def headT (v s b l : Int) : ByteArray := if headOk v s b l then hdBody v s b l ++ fixT (sumOf (hdBody v s b l)) 4 else ⟨#[]⟩
/-- The head whose HeadText the first bytes are. -/
def rHead (b : ByteArray) : Int × Int × Int × Int × Bool :=
  if b.size < 24 then (0, 0, 0, 0, false)
  else if (rfix b 8 8).2 = true ∧ headT (bt b 4) (bt b 5) (rfix b 8 8).1 (rfix b 16 4).1 = b.extract 0 24 then (bt b 4, bt b 5, (rfix b 8 8).1, (rfix b 16 4).1, true) else (0, 0, 0, 0, false)
/-- How long the record is, and where it begins. -/
def fq (v : Int) (b : ByteArray) (a : Int) : Int × Int × Bool := if v = 2 then ((rfix b a 4).1, a + 8, (rfix b a 4).2) else rv b a
def rFrameQ (v p : Int) (b : ByteArray) (a : Int) (q : Int × Int × Bool) : ByteArray × Int × Bool :=
  if (verOk v ∧ numOk p ∧ 0 ≤ a ∧ a ≤ b.size) ∧ q.2.2 = true ∧ q.1 ≤ 60 ∧ q.2.1 + q.1 ≤ b.size ∧ hasAt b a (frameT v p (b.extract q.2.1.toNat (q.2.1 + q.1).toNat)) = true
  then (b.extract q.2.1.toNat (q.2.1 + q.1).toNat, a + ((frameT v p (b.extract q.2.1.toNat (q.2.1 + q.1).toNat)).size : Int), true) else (⟨#[]⟩, 0, false)
/-- The record whose FrameText stands there. -/
def rFrame (v p : Int) (b : ByteArray) (a : Int) : ByteArray × Int × Bool := rFrameQ v p b a (fq v b a)
/-! ### scans -/
def scanGo (v base : Int) (b : ByteArray) : Nat → List ByteArray → List Int → Int → List ByteArray × List Int × Int × Bool
  | 0, rs, os, e => (rs, os, e, false)
  | d + 1, rs, os, e =>
    if markAt v (base + rs.length) b e = true then (rs, os, e, true)
    else if (rFrame v (base + rs.length) b e).2.2 = true then scanGo v base b d (rs ++ [(rFrame v (base + rs.length) b e).1]) (os ++ [e]) (rFrame v (base + rs.length) b e).2.1
    else (rs, os, e, false)
/-- What is told of a file: its head's numbers, its records, where they begin, where the last one ends, whether it is marked. -/
def scan (b : ByteArray) : Bool × Int × Int × Int × Int × List ByteArray × List Int × Int × Bool :=
  if (rHead b).2.2.2.2 = true then (true, (rHead b).1, (rHead b).2.1, (rHead b).2.2.1, (rHead b).2.2.2.1, scanGo (rHead b).1 (rHead b).2.2.1 b (b.size + 1) [] [] 24)
  else (false, 0, 0, 0, 0, [], [], 0, false)
end Go.Mth

/- Plain mathematics for this seat's laws, fourth part: lists of places, what stands behind the frames, sealed files. No program in it.
   Conditions: none beyond those that each lemma names. -/
namespace Go.Mth
open Go.RowKit
set_option linter.unusedVariables false
set_option linter.unusedSimpArgs false

def sealOk (v s b l : Int) (rs : List ByteArray) : Prop := headOk v s b l ∧ rs.length ≤ 1000 ∧ b + rs.length ≤ 1000000000 ∧ ∀ r ∈ rs, r.size ≤ 60
instance (v s b l : Int) (rs : List ByteArray) : Decidable (sealOk v s b l rs) := by unfold sealOk; infer_instance
end Go.Mth

/- What functions of the program and of the reference do, in plain values. -/
namespace Go.Pv
open Go.Proofs Go.Mth
set_option linter.unusedSimpArgs false
set_option linter.unusedVariables false
set_option maxHeartbeats 4000000
set_option maxRecDepth 4000

/-! ### bounds, sums, numbers in bytes -/
theorem spec_l01In (n lo hi : Int) : Fn Tryz.prog 59 [.int .i64 n, .int .i64 lo, .int .i64 hi] [] (.bool (decide (lo ≤ n ∧ n ≤ hi))) [] := by
  refine fn_x tok (n := 15) (rs := [.tmp 6]) Tryz.func59 (by decide) rfl rfl rfl rfl ?_
  refine Wr.go ?_
  repeat' ((first | (have ee := True.intro; refine Wr.mk ?_) | ((first | refine br_go ?_ ?_ | refine pick_go ?_ ?_) <;> intro ee f <;> (try simp only [BB] at f) <;> (try simp only [numOk, verOk] at f))) <;> (try simp (maxSteps := 1000000) (disch := first | omega | (simp only [LN, numOk, verOk] <;> omega) | exact Ck.mk rfl) only [ee, VC, T, Nat.reduceMul, Nat.reduceAdd, Nat.reduceSub, Nat.reduceLT, Nat.reduceEqDiff, Nat.reduceLeDiff, Nat.reduceBEq, reduceCtorEq, Int.reduceToNat, ↓reduceIte]) <;> (try clear ee))
  all_goals (simp [EQ, *] <;> omega)
theorem impl_within (n lo hi : Int) : Fn Tryz.prog 109 [.int .i64 n, .int .i64 lo, .int .i64 hi] [] (.bool (decide (lo ≤ n ∧ n ≤ hi))) [] := by
  refine fn_x tok (n := 15) (rs := [.tmp 6]) Tryz.func109 (by decide) rfl rfl rfl rfl ?_
  refine Wr.go ?_
  repeat' ((first | (have ee := True.intro; refine Wr.mk ?_) | ((first | refine br_go ?_ ?_ | refine pick_go ?_ ?_) <;> intro ee f <;> (try simp only [BB] at f) <;> (try simp only [numOk, verOk] at f))) <;> (try simp (maxSteps := 1000000) (disch := first | omega | (simp only [LN, numOk, verOk] <;> omega) | exact Ck.mk rfl) only [ee, VC, T, Nat.reduceMul, Nat.reduceAdd, Nat.reduceSub, Nat.reduceLT, Nat.reduceEqDiff, Nat.reduceLeDiff, Nat.reduceBEq, reduceCtorEq, Int.reduceToNat, ↓reduceIte]) <;> (try clear ee))
  all_goals (simp [EQ, *] <;> omega)
theorem impl_isNumber (n : Int) : Fn Tryz.prog 80 [.int .i64 n] [] (.bool (decide (numOk n))) [] := by
  refine fn_x tok (n := 5) (rs := [.tmp 2]) Tryz.func80 (by decide) rfl rfl rfl rfl ?_
  refine Wr.go ?_
  repeat' ((first | (have ee := True.intro; refine Wr.mk ?_) | ((first | refine br_go ?_ ?_ | refine pick_go ?_ ?_) <;> intro ee f <;> (try simp only [BB] at f) <;> (try simp only [numOk, verOk] at f)) | (have ee := True.intro; first | refine call_x (impl_within _ _ _) rfl ⟨rfl⟩ ?_)) <;> (try simp (maxSteps := 1000000) (disch := first | omega | (simp only [LN, numOk, verOk] <;> omega) | exact Ck.mk rfl) only [ee, VC, T, Nat.reduceMul, Nat.reduceAdd, Nat.reduceSub, Nat.reduceLT, Nat.reduceEqDiff, Nat.reduceLeDiff, Nat.reduceBEq, reduceCtorEq, Int.reduceToNat, ↓reduceIte]) <;> (try clear ee))
  all_goals rfl
end Go.Pv

/- What functions of the program and of the reference do, in plain values. -/
namespace Go.Pv
open Go.Proofs Go.Mth
set_option linter.unusedSimpArgs false
set_option linter.unusedVariables false
set_option maxHeartbeats 4000000
set_option maxRecDepth 4000

end Go.Pv

/- What functions of the program and of the reference do, in plain values. -/
namespace Go.Pv
open Go.Proofs Go.Mth
set_option linter.unusedSimpArgs false
set_option linter.unusedVariables false
set_option maxHeartbeats 4000000
set_option maxRecDepth 4000

def rvP (x : Int × Int × Bool) : PV := .tup [.int .i64 x.1, .int .i64 x.2.1, .bool x.2.2]
end Go.Pv

/- What functions of the program and of the reference do, in plain values. -/
namespace Go.Pv
open Go.Proofs Go.Mth
set_option linter.unusedSimpArgs false
set_option linter.unusedVariables false
set_option maxHeartbeats 4000000
set_option maxRecDepth 4000

/-! ### numbers of so many bytes, read -/
def rfP (x : Int × Bool) : PV := .tup [.int .i64 x.1, .bool x.2]
end Go.Pv

/- What functions of the program and of the reference do, in plain values. -/
namespace Go.Pv
open Go.Proofs Go.Mth
set_option linter.unusedSimpArgs false
set_option linter.unusedVariables false
set_option maxHeartbeats 4000000
set_option maxRecDepth 4000

/-! ### heads and links -/
def rhP (x : Int × Int × Int × Int × Bool) : PV := .tup [.agg [.int .i64 x.1, .int .i64 x.2.1, .int .i64 x.2.2.1, .int .i64 x.2.2.2.1], .bool x.2.2.2.2]
theorem getD_mem {α : Type} [Inhabited α] (l : List α) (i : Nat) (h : i < l.length) : l.getD i default ∈ l := by
  rw [List.getD_eq_getElem?_getD, List.getElem?_eq_getElem h]; exact List.getElem_mem h
end Go.Pv

/- What functions of the program and of the reference do, in plain values. -/
namespace Go.Pv
open Go.Proofs Go.Mth
set_option linter.unusedSimpArgs false
set_option linter.unusedVariables false
set_option maxHeartbeats 4000000
set_option maxRecDepth 4000

def frP (x : ByteArray × Int × Bool) : PV := .tup [.str x.1, .int .i64 x.2.1, .bool x.2.2]
end Go.Pv

/- What functions of the program and of the reference do, in plain values. -/
namespace Go.Pv
open Go.Proofs Go.Mth
set_option linter.unusedSimpArgs false
set_option linter.unusedVariables false
set_option maxHeartbeats 4000000
set_option maxRecDepth 4000

end Go.Pv

/- What functions of the program and of the reference do, in plain values. -/
namespace Go.Pv
open Go.Proofs Go.Mth
set_option linter.unusedSimpArgs false
set_option linter.unusedVariables false
set_option maxHeartbeats 4000000
set_option maxRecDepth 4000

def i64 (x : Int) : Prop := -9223372036854775808 ≤ x ∧ x ≤ 9223372036854775807
end Go.Pv

/- Plain mathematics, fifth part: texts back from scans, scans of frames, sealed files. No program in it. -/
namespace Go.Mth
open Go.RowKit
set_option linter.unusedVariables false
set_option linter.unusedSimpArgs false

end Go.Mth

/- Names of files, in plain numbers. -/
namespace Go.Mth
open Go.RowKit

/-! ### sixteen digits -/
def hexD (d : Int) : Int := if d < 10 then 48 + d else 87 + d
/-- So many digits, the highest first. -/
def hexL : Nat → Int → List Int
  | 0, _ => []
  | k + 1, n => hexL k (n / 16) ++ [hexD (n % 16)]
theorem hexL_length : ∀ (k : Nat) (n : Int), (hexL k n).length = k
  | 0, _ => rfl
  | k + 1, n => by rw [hexL, List.length_append, hexL_length k]; rfl
theorem hexD_range (d : Int) (h0 : 0 ≤ d) (h1 : d < 16) : 0 ≤ hexD d ∧ hexD d ≤ 255 := by unfold hexD; split <;> omega
theorem hexL_range : ∀ (k : Nat) (n : Int), ∀ x ∈ hexL k n, 0 ≤ x ∧ x ≤ 255
  | 0, _, x, h => by simp [hexL] at h
  | k + 1, n, x, h => by
    rcases List.mem_append.1 h with h | h
    · exact hexL_range k _ x h
    · rw [List.mem_singleton.1 h]; exact hexD_range _ (by omega) (by omega)
/-- The name of a file of a base. -/
def segL (n : Int) : List Int := [115] ++ hexL 8 n ++ [46, 115, 101, 103]
def segT (n : Int) : ByteArray := if numOk n then strOf (segL n) else ⟨#[]⟩
end Go.Mth

/- Disks, in plain numbers: nodes, entries, the texts of a row's files. -/
namespace Go.Mth
open Go.RowKit

abbrev Nd := Int × ByteArray × Int
abbrev Et := ByteArray × Int
abbrev Dk := List Nd × List Et × List Et × List ByteArray × Int × Int

/-- The place of the first that is so, from i on; -1 if none is. -/
def findI {α : Type} (p : α → Bool) : List α → Nat → Int
  | [], _ => -1
  | x :: r, i => if p x = true then i else findI p r (i + 1)
theorem findI_step {α : Type} [Inhabited α] (p : α → Bool) (xs : List α) (i : Nat) (h : i < xs.length) : findI p (xs.drop i) i = if p (xs.getD i default) = true then (i : Int) else findI p (xs.drop (i + 1)) (i + 1) := by
  rw [List.drop_eq_getElem_cons h, List.getD_eq_getElem?_getD, List.getElem?_eq_getElem h]; rfl
theorem findI_end {α : Type} (p : α → Bool) (xs : List α) (i : Nat) (h : xs.length ≤ i) : findI p (xs.drop i) i = -1 := by
  rw [List.drop_eq_nil_of_le h]; rfl
theorem findI_cases {α : Type} [Inhabited α] (p : α → Bool) : ∀ (xs : List α) (i : Nat), findI p xs i = -1 ∧ (∀ x ∈ xs, p x = false) ∨ ∃ k : Nat, findI p xs i = ((i + k : Nat) : Int) ∧ k < xs.length ∧ p (xs.getD k default) = true ∧ ∀ j, j < k → p (xs.getD j default) = false
  | [], i => .inl ⟨rfl, fun x h => by simp at h⟩
  | x :: r, i => by
    unfold findI
    cases hp : p x with
    | true =>
      rw [if_pos rfl]
      exact .inr ⟨0, rfl, by simp, by simpa using hp, fun j h => by omega⟩
    | false =>
      rw [if_neg (by simp)]
      rcases findI_cases p r (i + 1) with ⟨h1, h2⟩ | ⟨k, h1, h2, h3, h4⟩
      · exact .inl ⟨h1, fun y hy => by rcases List.mem_cons.1 hy with rfl | hy; exact hp; exact h2 y hy⟩
      · refine .inr ⟨k + 1, by rw [h1]; congr 1; omega, by simp; omega, by simpa using h3, fun j hj => ?_⟩
        cases j with
        | zero => simpa using hp
        | succ j => simpa using h4 j (by omega)
theorem findI_range {α : Type} [Inhabited α] (p : α → Bool) (xs : List α) : findI p xs 0 = -1 ∨ (0 ≤ findI p xs 0 ∧ findI p xs 0 < xs.length ∧ p (xs.getD (findI p xs 0).toNat default) = true) := by
  rcases findI_cases p xs 0 with ⟨h1, _⟩ | ⟨k, h1, h2, h3, _⟩
  · exact .inl h1
  · rw [h1]; exact .inr ⟨by omega, by omega, by simpa using h3⟩

def placeI (es : List Et) (n : ByteArray) : Int := findI (fun e => decide (e.1 = n)) es 0
def nodeI (ns : List Nd) (k : Int) : Int := findI (fun x => decide (x.1 = k)) ns 0
theorem placeI_r (es : List Et) (n : ByteArray) : placeI es n = -1 ∨ (0 ≤ placeI es n ∧ placeI es n < es.length) := by
  rcases findI_range (fun e : Et => decide (e.1 = n)) es with h | ⟨h1, h2, _⟩
  · exact .inl h
  · exact .inr ⟨h1, h2⟩
theorem nodeI_r (ns : List Nd) (k : Int) : nodeI ns k = -1 ∨ (0 ≤ nodeI ns k ∧ nodeI ns k < ns.length) := by
  rcases findI_range (fun x : Nd => decide (x.1 = k)) ns with h | ⟨h1, h2, _⟩
  · exact .inl h
  · exact .inr ⟨h1, h2⟩
/-- The number of a name; 0 without one. -/
def entT (es : List Et) (n : ByteArray) : Int := if placeI es n < 0 then 0 else (es.getD (placeI es n).toNat default).2
/-- The place of the node of a name. -/
def nodeP (d : Dk) (n : ByteArray) : Int := if placeI d.2.1 n < 0 then -1 else nodeI d.1 (d.2.1.getD (placeI d.2.1 n).toNat default).2
/-- How large a disk is. -/
structure DkOk (d : Dk) : Prop where
  ns : d.1.length ≤ 1048576
  es : d.2.1.length ≤ 1048576
  os : d.2.2.1.length ≤ 1048576
  ss : d.2.2.2.1.length ≤ 1048576
  nt : ∀ n ∈ d.1, n.2.1.size ≤ 1048576
  et : ∀ e ∈ d.2.1, e.1.size ≤ 1048576
  ot : ∀ e ∈ d.2.2.1, e.1.size ≤ 1048576
  st : ∀ s ∈ d.2.2.2.1, s.size ≤ 1048576
/-- The same, with nodes that may have grown. -/
structure DkW (d : Dk) : Prop where
  ns : d.1.length ≤ 1048576
  es : d.2.1.length ≤ 1048576
  os : d.2.2.1.length ≤ 1048576
  ss : d.2.2.2.1.length ≤ 1048576
  nt : ∀ n ∈ d.1, n.2.1.size ≤ 1073741824
  et : ∀ e ∈ d.2.1, e.1.size ≤ 1048576
  ot : ∀ e ∈ d.2.2.1, e.1.size ≤ 1048576
  st : ∀ s ∈ d.2.2.2.1, s.size ≤ 1048576
theorem DkOk.w {d : Dk} (h : DkOk d) : DkW d := ⟨h.ns, h.es, h.os, h.ss, fun x hx => Nat.le_trans (h.nt x hx) (by decide), h.et, h.ot, h.st⟩
/-! ### the files that go on from one another -/
def recs (b : ByteArray) : List ByteArray := (scan b).2.2.2.2.2.1
def goOk (t : ByteArray) (b l : Int) : Prop := ((rHead t).2.2.2.2 = true ∧ (rHead t).2.2.1 = b ∧ (rHead t).2.2.2.1 = l) ∧ 0 < (recs t).length
instance (t : ByteArray) (b l : Int) : Decidable (goOk t b l) := inferInstanceAs (Decidable (_ ∧ _))
/-! ### digits, as they are laid -/
theorem hexL_zero : ∀ k : Nat, hexL k 0 = List.replicate k 48
  | 0 => rfl
  | k + 1 => by
    rw [hexL, show (0 : Int) / 16 = 0 by rfl, hexL_zero k, show hexD ((0 : Int) % 16) = 48 by rfl, List.replicate_succ']
theorem hexL_pad : ∀ (k m : Nat) (n : Int), 0 ≤ n → n < 16 ^ k → hexL (k + m) n = List.replicate m 48 ++ hexL k n
  | 0, m, n, h0, h1 => by
    have : n = 0 := by simp at h1; omega
    subst this
    rw [Nat.zero_add, hexL_zero]
    simp [hexL]
  | k + 1, m, n, h0, h1 => by
    have hp : n / 16 < 16 ^ k := by rw [Int.pow_succ] at h1; omega
    rw [show k + 1 + m = (k + m) + 1 by omega, hexL, hexL, hexL_pad k m (n / 16) (by omega) hp, List.append_assoc]
/-- Digits that are laid from the lowest on: u is what is left of n behind the digits of L. -/
structure Hx (n u : Int) (L : List Int) : Prop where
  cut : ∀ k, hexL (k + L.length) n = hexL k u ++ L
  val : n < 16 ^ L.length * (u + 1)
  low : 0 ≤ u
  top : 16 ^ L.length * u ≤ n
  one : L = [] ∨ 1 ≤ u
theorem Hx.start {n : Int} (h : 0 ≤ n) : Hx n n [] := ⟨fun k => by simp, by simp; omega, h, by simp, .inl rfl⟩
theorem Hx.step {n u : Int} {L : List Int} (h : Hx n u L) (hu : 16 ≤ u) : Hx n (u / 16) (hexD (u % 16) :: L) := by
  have hp : (0 : Int) < 16 ^ L.length := Int.pow_pos (by decide)
  refine ⟨fun k => ?_, ?_, by omega, ?_, .inr (by omega)⟩
  · rw [List.length_cons, show k + (L.length + 1) = (k + 1) + L.length by omega, h.cut, hexL, List.append_assoc]; rfl
  · rw [List.length_cons, Int.pow_succ, Int.mul_assoc]
    exact Int.lt_of_lt_of_le h.val (Int.mul_le_mul_of_nonneg_left (by omega) (by omega))
  · rw [List.length_cons, Int.pow_succ, Int.mul_assoc]
    exact Int.le_trans (Int.mul_le_mul_of_nonneg_left (by omega) (by omega)) h.top
theorem Hx.len {n u : Int} {L : List Int} (h : Hx n u L) (hn : n < 4294967296) : L.length ≤ 7 := by
  rcases h.one with h1 | h2
  · subst h1; simp
  · refine Decidable.byContradiction fun hc => ?_
    have h1 := h.top
    have e : ((16 ^ 8 : Nat) : Int) ≤ ((16 ^ L.length : Nat) : Int) := Int.ofNat_le.2 (Nat.pow_le_pow_right (by decide) (by omega))
    rw [Int.natCast_pow] at e
    have h3 : (16 : Int) ^ L.length * 1 ≤ 16 ^ L.length * u := Int.mul_le_mul_of_nonneg_left h2 (by have : (0 : Int) < 16 ^ L.length := Int.pow_pos (by decide); omega)
    have h4 : ((16 ^ 8 : Nat) : Int) = 4294967296 := by rfl
    have h5 : ((16 ^ L.length : Nat) : Int) = (16 : Int) ^ L.length := Int.natCast_pow 16 L.length
    omega
theorem Hx.le {n u : Int} {L : List Int} (h : Hx n u L) : u ≤ n := by
  have hp : (0 : Int) < 16 ^ L.length := Int.pow_pos (by decide)
  have h1 : 1 * u ≤ 16 ^ L.length * u := Int.mul_le_mul_of_nonneg_right (by omega) h.low
  have := h.top
  omega
/-- All digits laid. -/
theorem Hx.fin {n u : Int} {L : List Int} (h : Hx n u L) (hu : u < 16) : hexD u :: L = hexL (L.length + 1) n ∧ n < 16 ^ (L.length + 1) := by
  have e := h.cut 1
  have h0 := h.low
  rw [show 1 + L.length = L.length + 1 by omega, show hexL 1 u = [hexD (u % 16)] from rfl, show u % 16 = u by omega] at e
  refine ⟨e.symm, ?_⟩
  have hp : (0 : Int) < 16 ^ L.length := Int.pow_pos (by decide)
  rw [Int.pow_succ]
  exact Int.lt_of_lt_of_le h.val (Int.mul_le_mul_of_nonneg_left (by omega) (by omega))
end Go.Mth

/- What functions of the program and of the reference do, in plain values. -/
namespace Go.Pv
open Go.Proofs Go.Mth
set_option linter.unusedSimpArgs false
set_option linter.unusedVariables false
set_option maxHeartbeats 4000000
set_option maxRecDepth 4000

/-! ### names of files -/
theorem isPow16 : Fn Tryz.prog 173 [.int .i64 16] [] (.bool true) [] := by
  have h : Go.bits .and .i64 16 (16 - 1) = 0 := by decide
  refine fn_x tok (n := 8) (rs := [.tmp 2]) Tryz.func173 (by decide) rfl rfl rfl rfl ?_
  refine Wr.go ?_
  repeat' ((first | (have ee := True.intro; refine Wr.mk ?_) | ((first | refine br_go ?_ ?_ | refine pick_go ?_ ?_) <;> intro ee f <;> (try simp only [BB] at f) <;> (try simp only [numOk, verOk] at f))) <;> (try simp (maxSteps := 1000000) (disch := first | omega | (simp only [LN, numOk, verOk, h, decide_true] <;> omega) | exact Ck.mk rfl) only [ee, VC, T, Nat.reduceMul, Nat.reduceAdd, Nat.reduceSub, Nat.reduceLT, Nat.reduceEqDiff, Nat.reduceLeDiff, Nat.reduceBEq, reduceCtorEq, Int.reduceToNat, ↓reduceIte, h, decide_true]) <;> (try clear ee))
theorem tz16 : Fn Tryz.prog 185 [.int .u64 16] [] (.int .i64 4) [] := by
  have h1 : IntKind.u64.wrap (0 - 16) = 18446744073709551600 := by decide
  have h2 : Go.bits .and .u64 16 18446744073709551600 = 16 := by decide
  have h3 : IntKind.u64.wrap (16 * 285870213051353865) = 4573923408821661840 := by decide
  have h4 : shr .u64 4573923408821661840 58 = 15 := by decide
  have h5 : (glob3.drop 15) = .int .u8 4 :: glob3.drop 16 := by rfl
  refine fn_x tok (n := 14) (rs := [.tmp 2]) Tryz.func185 (by decide) rfl rfl rfl rfl ?_
  refine Wr.go ?_
  repeat' ((first | (have ee := True.intro; refine Wr.mk ?_) | ((first | refine br_go ?_ ?_ | refine pick_go ?_ ?_) <;> intro ee f <;> (try simp only [BB] at f) <;> (try simp only [numOk, verOk] at f))) <;> (try simp (maxSteps := 1000000) (disch := first | omega | (simp only [LN, numOk, verOk, h1, h2, h3, h4, h5, GV, List.length_cons, List.getD_cons_zero] <;> omega) | exact Ck.mk rfl) only [ee, VC, T, Nat.reduceMul, Nat.reduceAdd, Nat.reduceSub, Nat.reduceLT, Nat.reduceEqDiff, Nat.reduceLeDiff, Nat.reduceBEq, reduceCtorEq, Int.reduceToNat, ↓reduceIte, h1, h2, h3, h4, h5, GV, List.length_cons, List.getD_cons_zero]) <;> (try clear ee))
theorem tzu16 : Fn Tryz.prog 174 [.int .u64 16] [] (.int .i64 4) [] := by
  refine fn_x tok (n := 8) (rs := [.tmp 2]) Tryz.func174 (by decide) rfl rfl rfl rfl ?_
  refine Wr.go ?_
  repeat' ((first | (have ee := True.intro; refine Wr.mk ?_) | ((first | refine br_go ?_ ?_ | refine pick_go ?_ ?_) <;> intro ee f <;> (try simp only [BB] at f) <;> (try simp only [numOk, verOk] at f)) | (have ee := True.intro; first | refine call_x (tz16) rfl ⟨rfl⟩ ?_)) <;> (try simp (maxSteps := 1000000) (disch := first | omega | (simp only [LN, numOk, verOk] <;> omega) | exact Ck.mk rfl) only [ee, VC, T, Nat.reduceMul, Nat.reduceAdd, Nat.reduceSub, Nat.reduceLT, Nat.reduceEqDiff, Nat.reduceLeDiff, Nat.reduceBEq, reduceCtorEq, Int.reduceToNat, ↓reduceIte]) <;> (try clear ee))
theorem data_bytes (l : List Int) : (l.map (PV.int .u8)).all data1 = true := by
  rw [List.all_eq_true]
  intro x hx
  obtain ⟨y, _, rfl⟩ := List.mem_map.1 hx
  rfl
theorem digT_at (d : Int) (h0 : 0 ≤ d) (h1 : d < 16) : ((b8 ⟨#[48, 49, 50, 51, 52, 53, 54, 55, 56, 57, 97, 98, 99, 100, 101, 102, 103, 104, 105, 106, 107, 108, 109, 110, 111, 112, 113, 114, 115, 116, 117, 118, 119, 120, 121, 122]⟩ d.toNat).toNat : Int) = hexD d := by
  obtain ⟨n, rfl⟩ := Int.eq_ofNat_of_zero_le h0
  have h : n < 16 := by omega
  revert h
  exact (by decide : ∀ n < 16, ((b8 ⟨#[48, 49, 50, 51, 52, 53, 54, 55, 56, 57, 97, 98, 99, 100, 101, 102, 103, 104, 105, 106, 107, 108, 109, 110, 111, 112, 113, 114, 115, 116, 117, 118, 119, 120, 121, 122]⟩ ((n : Nat) : Int).toNat).toNat : Int) = hexD ((n : Nat) : Int)) n
theorem hexT_at (d : Int) (h0 : 0 ≤ d) (h1 : d < 16) : ((b8 ⟨#[48, 49, 50, 51, 52, 53, 54, 55, 56, 57, 97, 98, 99, 100, 101, 102]⟩ d.toNat).toNat : Int) = hexD d := by
  obtain ⟨n, rfl⟩ := Int.eq_ofNat_of_zero_le h0
  have h : n < 16 := by omega
  revert h
  exact (by decide : ∀ n < 16, ((b8 ⟨#[48, 49, 50, 51, 52, 53, 54, 55, 56, 57, 97, 98, 99, 100, 101, 102]⟩ ((n : Nat) : Int).toNat).toNat : Int) = hexD ((n : Nat) : Int)) n
theorem clo_bytes (hp : Hp) (k : IntKind) (l : List Int) : clol (clo2 hp) (l.map (PV.int k)) = True := by
  induction l with
  | nil => rfl
  | cons x l ih => exact eq_true ⟨trivial, of_eq_true ih⟩
theorem and_u15 (u : Int) (h0 : 0 ≤ u) (h1 : u < 4294967296) : Go.bits .and .u64 u 15 = u % 16 := by
  obtain ⟨n, rfl⟩ := Int.eq_ofNat_of_zero_le h0
  have h4 : Go.bits .and .u64 (n : Int) 15 = IntKind.u64.wrap ((BitVec.ofInt 64 (n : Int) &&& BitVec.ofInt 64 15).toNat : Int) := rfl
  have h5 : n % 2 ^ 4 < 2 ^ 4 := Nat.mod_lt _ (by decide)
  rw [h4, BitVec.ofInt_natCast, BitVec.toNat_and, BitVec.toNat_ofNat, show (BitVec.ofInt 64 15).toNat = 2 ^ 4 - 1 from rfl, Nat.mod_eq_of_lt (by omega), Nat.and_two_pow_sub_one_eq_mod]
  show (((n % 2 ^ 4 : Nat) : Int)) % 18446744073709551616 = _
  omega
theorem shr4 (u : Int) (h0 : 0 ≤ u) : shr .u64 u 4 = u / 16 := by
  show u.fdiv 16 = _
  exact Int.fdiv_eq_ediv_of_nonneg u (by decide)
theorem laid_take (L : List Int) (h : L.length ≤ 7) : List.take (0 + (65 - (L.length : Int) - 1).toNat * 1) (List.replicate (65 - L.length) (0 : Int) ++ L) = List.replicate (64 - L.length) 0 := by
  rw [show 0 + (65 - (L.length : Int) - 1).toNat * 1 = 64 - L.length by omega, List.take_append_of_le_length (by rw [List.length_replicate]; omega), List.take_replicate]
  congr 1; omega
theorem laid_drop (L : List Int) (h : L.length ≤ 7) : List.drop (0 + (65 - (L.length : Int) - 1).toNat * 1 + 1) (List.replicate (65 - L.length) (0 : Int) ++ L) = L := by
  exact List.drop_left' (by rw [List.length_replicate]; omega)
theorem laid_all (L : List Int) (d : Int) (h : L.length ≤ 7) : List.drop (65 - (L.length : Int) - 1).toNat (List.take 65 (List.map (PV.int .u8) (List.replicate (64 - L.length) 0 ++ [d]) ++ List.map (PV.int .u8) L)) = List.map (PV.int .u8) (d :: L) := by
  rw [← List.map_append, List.append_assoc, List.take_of_length_le (by simp; omega), List.map_append]
  exact List.drop_left' (by simp; omega)
theorem fmtBits (n : Int) (h0 : 0 ≤ n) (h1 : n < 4294967296) : FnV Tryz.prog 147 [.far [], .int .u64 n, .int .i64 16, .bool false, .bool false] (fun r => ∃ k : Nat, k < 8 ∧ n < 16 ^ (k + 1) ∧ r = .tup [.far [], .str (strOf (hexL (k + 1) n))]) := by
  refine fn_v tok (n := 102) (rs := [.tmp 10, .tmp 11]) Tryz.func147 (by decide) rfl rfl rfl rfl ?_
  refine Wr.go ?_
  repeat' ((first | (have ee := True.intro; refine Wr.mk ?_) | ((first | refine br_go ?_ ?_ | refine pick_go ?_ ?_) <;> intro ee f <;> (try simp only [BB] at f) <;> (try simp only [numOk, verOk] at f)) | (have ee := True.intro; first | refine call_x (isPow16) rfl ⟨rfl⟩ ?_ | refine call_x (tzu16) rfl ⟨rfl⟩ ?_)) <;> (try simp (maxSteps := 1000000) (disch := first | omega | (simp only [LN, numOk, verOk] <;> omega) | exact Ck.mk rfl) only [ee, VC, T, Nat.reduceMul, Nat.reduceAdd, Nat.reduceSub, Nat.reduceLT, Nat.reduceEqDiff, Nat.reduceLeDiff, Nat.reduceBEq, reduceCtorEq, Int.reduceToNat, ↓reduceIte]) <;> (try clear ee))
  refine lp_go (fun x : Int × List Int => ⟨102, [(1, .int .u64 x.1), (12, .ref 832 0), (13, .int .i64 (65 - x.2.length)), (14, .int .u64 4), (15, .int .u64 16), (16, .int .u64 15), (3, .bool false), (4, .bool false), (10, .nils)], [(832, .box 177 ((List.replicate (65 - x.2.length) (0 : Int) ++ x.2).map (.int .u8)))]⟩) (fun x => Hx n x.1 x.2) (fun x => x.1.toNat) (n, []) ?_ (Hx.start h0) ?_
  · (simp (disch := first | omega | (simp only [LN, numOk, verOk] <;> omega) | exact Ck.mk rfl) only [SB, EQ, Nat.reduceMul, Nat.reduceAdd, Nat.reduceSub, Nat.reduceLT, Nat.reduceEqDiff, Nat.reduceLeDiff, Nat.reduceBEq, reduceCtorEq, Int.reduceToNat, ↓reduceIte]; try omega)
    exact ⟨by omega, rfl, of_eq_true (clo_bytes _ _ _)⟩
  · rintro ⟨u, L⟩ hx N hN
    simp only at hx ⊢
    have hl := hx.len h1
    have hu0 := hx.low
    have hun := hx.le
    have a1 := and_u15 u hu0 (by omega)
    have a2 := shr4 u hu0
    have t1 := laid_take L hl
    have t2 := laid_drop L hl
    have t3 := fun d => laid_all L d hl
    have d1 : bt ⟨#[48, 49, 50, 51, 52, 53, 54, 55, 56, 57, 97, 98, 99, 100, 101, 102, 103, 104, 105, 106, 107, 108, 109, 110, 111, 112, 113, 114, 115, 116, 117, 118, 119, 120, 121, 122]⟩ (u % 16) = hexD (u % 16) := digT_at _ (by omega) (by omega)
    have d2 : u < 16 → bt ⟨#[48, 49, 50, 51, 52, 53, 54, 55, 56, 57, 97, 98, 99, 100, 101, 102, 103, 104, 105, 106, 107, 108, 109, 110, 111, 112, 113, 114, 115, 116, 117, 118, 119, 120, 121, 122]⟩ u = hexD u := fun h => digT_at _ hu0 h
    refine Wr.go ?_
    repeat' ((first | (have ee := True.intro; refine Wr.mk ?_) | ((first | refine br_go ?_ ?_ | refine pick_go ?_ ?_) <;> intro ee f <;> (try simp only [BB] at f) <;> (try simp only [numOk, verOk] at f))) <;> (try simp (maxSteps := 1000000) (disch := first | omega | (simp only [LN, numOk, verOk, a1, a2, t1, t2, t3, d1, d2, List.all_append, data_bytes, Bool.and_self] <;> omega) | exact Ck.mk rfl) only [ee, VC, T, Nat.reduceMul, Nat.reduceAdd, Nat.reduceSub, Nat.reduceLT, Nat.reduceEqDiff, Nat.reduceLeDiff, Nat.reduceBEq, reduceCtorEq, Int.reduceToNat, ↓reduceIte, a1, a2, t1, t2, t3, d1, d2, List.all_append, data_bytes, Bool.and_self]) <;> (try clear ee))
    · refine hN (u / 16, hexD (u % 16) :: L) _ (hx.step f) (by simp only; omega) ?_
      (simp (disch := first | omega | (simp only [LN, numOk, verOk] <;> omega) | exact Ck.mk rfl) only [SB, EQ, Nat.reduceMul, Nat.reduceAdd, Nat.reduceSub, Nat.reduceLT, Nat.reduceEqDiff, Nat.reduceLeDiff, Nat.reduceBEq, reduceCtorEq, Int.reduceToNat, ↓reduceIte]; try omega)
      exact ⟨by omega, by rw [← List.map_append, List.append_assoc, show 65 - (L.length + 1) = 64 - L.length by omega]; rfl, of_eq_true (clo_bytes _ _ _)⟩
    · obtain ⟨q1, q2⟩ := hx.fin f
      rw [show PV.int .u8 (hexD u) :: List.map (PV.int .u8) L = (hexL (L.length + 1) n).map (PV.int .u8) by rw [← q1]; rfl]
      refine ⟨fun z hz => ?_, L.length, by omega, q2, by rw [strP_map .u8 _ rfl]⟩
      obtain ⟨x, hx', rfl⟩ := List.mem_map.1 hz
      have := hexL_range _ _ x hx'
      exact ⟨by omega, by omega⟩
theorem intFormat16 (n : Int) (h0 : 0 ≤ n) (h1 : n < 4294967296) : FnV Tryz.prog 110 [.int .i64 n, .int .i64 16] (fun r => ∃ k : Nat, k < 8 ∧ n < 16 ^ (k + 1) ∧ r = .str (strOf (hexL (k + 1) n))) := by
  have e1 : n % 18446744073709551616 = n := by omega
  have e2 : decide (n < 0) = false := decide_eq_false (by omega)
  refine fn_v tok (n := 54) (rs := [.tmp 4]) Tryz.func110 (by decide) rfl rfl rfl rfl ?_
  refine Wr.go ?_
  repeat' ((first | (have ee := True.intro; refine Wr.mk ?_) | ((first | refine br_go ?_ ?_ | refine pick_go ?_ ?_) <;> intro ee f <;> (try simp only [BB] at f) <;> (try simp only [numOk, verOk] at f))) <;> (try simp (maxSteps := 1000000) (disch := first | omega | (simp only [LN, numOk, verOk, e1, e2] <;> omega) | exact Ck.mk rfl) only [ee, VC, T, Nat.reduceMul, Nat.reduceAdd, Nat.reduceSub, Nat.reduceLT, Nat.reduceEqDiff, Nat.reduceLeDiff, Nat.reduceBEq, reduceCtorEq, Int.reduceToNat, ↓reduceIte, e1, e2]) <;> (try clear ee))
  refine call_v (fmtBits n h0 h1) rfl ?_
  rintro _ ⟨k, hk, hn, rfl⟩
  refine ⟨⟨rfl⟩, ?_⟩
  refine Wr.go ?_
  repeat' ((first | (have ee := True.intro; refine Wr.mk ?_) | ((first | refine br_go ?_ ?_ | refine pick_go ?_ ?_) <;> intro ee f <;> (try simp only [BB] at f) <;> (try simp only [numOk, verOk] at f))) <;> (try simp (maxSteps := 1000000) (disch := first | omega | (simp only [LN, numOk, verOk] <;> omega) | exact Ck.mk rfl) only [ee, VC, T, Nat.reduceMul, Nat.reduceAdd, Nat.reduceSub, Nat.reduceLT, Nat.reduceEqDiff, Nat.reduceLeDiff, Nat.reduceBEq, reduceCtorEq, Int.reduceToNat, ↓reduceIte]) <;> (try clear ee))
  exact ⟨k, hk, hn, rfl⟩
theorem format16 (n : Int) (h0 : 0 ≤ n) (h1 : n < 4294967296) : FnV Tryz.prog 81 [.int .i64 n, .int .i64 16] (fun r => ∃ k : Nat, k < 8 ∧ n < 16 ^ (k + 1) ∧ r = .str (strOf (hexL (k + 1) n))) := by
  refine fn_v tok (n := 8) (rs := [.tmp 4]) Tryz.func81 (by decide) rfl rfl rfl rfl ?_
  refine Wr.go ?_
  repeat' ((first | (have ee := True.intro; refine Wr.mk ?_) | ((first | refine br_go ?_ ?_ | refine pick_go ?_ ?_) <;> intro ee f <;> (try simp only [BB] at f) <;> (try simp only [numOk, verOk] at f))) <;> (try simp (maxSteps := 1000000) (disch := first | omega | (simp only [LN, numOk, verOk] <;> omega) | exact Ck.mk rfl) only [ee, VC, T, Nat.reduceMul, Nat.reduceAdd, Nat.reduceSub, Nat.reduceLT, Nat.reduceEqDiff, Nat.reduceLeDiff, Nat.reduceBEq, reduceCtorEq, Int.reduceToNat, ↓reduceIte]) <;> (try clear ee))
  refine call_v (intFormat16 n h0 h1) rfl ?_
  rintro _ ⟨k, hk, hn, rfl⟩
  refine ⟨⟨rfl⟩, ?_⟩
  refine Wr.go ?_
  repeat' ((first | (have ee := True.intro; refine Wr.mk ?_) | ((first | refine br_go ?_ ?_ | refine pick_go ?_ ?_) <;> intro ee f <;> (try simp only [BB] at f) <;> (try simp only [numOk, verOk] at f))) <;> (try simp (maxSteps := 1000000) (disch := first | omega | (simp only [LN, numOk, verOk] <;> omega) | exact Ck.mk rfl) only [ee, VC, T, Nat.reduceMul, Nat.reduceAdd, Nat.reduceSub, Nat.reduceLT, Nat.reduceEqDiff, Nat.reduceLeDiff, Nat.reduceBEq, reduceCtorEq, Int.reduceToNat, ↓reduceIte]) <;> (try clear ee))
  exact ⟨k, hk, hn, rfl⟩
theorem mul64_1 (c : Int) (h : c = 2 ∨ c = 3 ∨ c = 4 ∨ c = 5 ∨ c = 6 ∨ c = 7) : Fn Tryz.prog 149 [.int .u64 1, .int .u64 c] [] (.tup [.int .u64 0, .int .u64 c]) [] := by
  have h1 : Go.bits .and .u64 1 4294967295 = 1 := by decide
  have h2 : Go.bits .and .u64 0 4294967295 = 0 := by decide
  have h3 : Go.bits .and .u64 c 4294967295 = c := by rcases h with rfl | rfl | rfl | rfl | rfl | rfl <;> decide
  have h4 : shr .u64 1 32 = 0 := by decide
  have h5 : shr .u64 0 32 = 0 := by decide
  have h6 : shr .u64 c 32 = 0 := by rcases h with rfl | rfl | rfl | rfl | rfl | rfl <;> decide
  have h7 : c % 18446744073709551616 = c := by omega
  refine fn_x tok (n := 51) (rs := [.tmp 4, .tmp 5]) Tryz.func149 (by decide) rfl rfl rfl rfl ?_
  refine Wr.go ?_
  repeat' ((first | (have ee := True.intro; refine Wr.mk ?_) | ((first | refine br_go ?_ ?_ | refine pick_go ?_ ?_) <;> intro ee f <;> (try simp only [BB] at f) <;> (try simp only [numOk, verOk] at f))) <;> (try simp (maxSteps := 1000000) (disch := first | omega | (simp only [LN, numOk, verOk, h1, h2, h3, h4, h5, h6, h7, Int.one_mul, Int.zero_mul, Int.mul_zero, Int.add_zero, Int.zero_add, Int.zero_emod] <;> omega) | exact Ck.mk rfl) only [ee, VC, T, Nat.reduceMul, Nat.reduceAdd, Nat.reduceSub, Nat.reduceLT, Nat.reduceEqDiff, Nat.reduceLeDiff, Nat.reduceBEq, reduceCtorEq, Int.reduceToNat, ↓reduceIte, h1, h2, h3, h4, h5, h6, h7, Int.one_mul, Int.zero_mul, Int.mul_zero, Int.add_zero, Int.zero_add, Int.zero_emod]) <;> (try clear ee))
theorem mul_1 (c : Int) (h : c = 2 ∨ c = 3 ∨ c = 4 ∨ c = 5 ∨ c = 6 ∨ c = 7) : Fn Tryz.prog 111 [.int .u64 1, .int .u64 c] [] (.tup [.int .u64 0, .int .u64 c]) [] := by
  refine fn_x tok (n := 30) (rs := [.tmp 4, .tmp 5]) Tryz.func111 (by decide) rfl rfl rfl rfl ?_
  refine Wr.go ?_
  repeat' ((first | (have ee := True.intro; refine Wr.mk ?_) | ((first | refine br_go ?_ ?_ | refine pick_go ?_ ?_) <;> intro ee f <;> (try simp only [BB] at f) <;> (try simp only [numOk, verOk] at f)) | (have ee := True.intro; first | refine call_x (mul64_1 c h) rfl ⟨rfl⟩ ?_)) <;> (try simp (maxSteps := 1000000) (disch := first | omega | (simp only [LN, numOk, verOk] <;> omega) | exact Ck.mk rfl) only [ee, VC, T, Nat.reduceMul, Nat.reduceAdd, Nat.reduceSub, Nat.reduceLT, Nat.reduceEqDiff, Nat.reduceLeDiff, Nat.reduceBEq, reduceCtorEq, Int.reduceToNat, ↓reduceIte]) <;> (try clear ee))
theorem prefixOf0 (s : ByteArray) (h : 1 ≤ s.size) : Fn Tryz.prog 150 [.str s, .str ⟨#[48]⟩] [] (.bool (decide (bt s 0 = 48))) [] := by
  have e : (s.extract 0 1 = ⟨#[48]⟩) = (bt s 0 = 48) := by
    obtain ⟨⟨l⟩⟩ := s
    cases l with
    | nil => exact absurd h (by decide)
    | cons x l =>
      have e1 : ByteArray.extract ⟨⟨x :: l⟩⟩ 0 1 = ⟨#[x]⟩ := ByteArray.ext (by simp [ByteArray.data_extract])
      rw [e1]
      show _ = ((x.toNat : Int) = 48)
      refine propext ⟨fun h => ?_, fun h => ?_⟩
      · have : x = 48 := by simpa using h
        subst this; rfl
      · have : x = 48 := UInt8.toNat.inj (by show x.toNat = 48; omega)
        rw [this]
  refine fn_x tok (n := 18) (rs := [.tmp 4]) Tryz.func150 (by decide) rfl rfl rfl rfl ?_
  refine Wr.go ?_
  repeat' ((first | (have ee := True.intro; refine Wr.mk ?_) | ((first | refine br_go ?_ ?_ | refine pick_go ?_ ?_) <;> intro ee f <;> (try simp only [BB] at f) <;> (try simp only [numOk, verOk] at f))) <;> (try simp (maxSteps := 1000000) (disch := first | omega | (simp only [LN, numOk, verOk, e] <;> omega) | exact Ck.mk rfl) only [ee, VC, T, Nat.reduceMul, Nat.reduceAdd, Nat.reduceSub, Nat.reduceLT, Nat.reduceEqDiff, Nat.reduceLeDiff, Nat.reduceBEq, reduceCtorEq, Int.reduceToNat, ↓reduceIte, e]) <;> (try clear ee))
theorem hasPrefix0 (s : ByteArray) (h : 1 ≤ s.size) : Fn Tryz.prog 112 [.str s, .str ⟨#[48]⟩] [] (.bool (decide (bt s 0 = 48))) [] := by
  refine fn_x tok (n := 8) (rs := [.tmp 4]) Tryz.func112 (by decide) rfl rfl rfl rfl ?_
  refine Wr.go ?_
  repeat' ((first | (have ee := True.intro; refine Wr.mk ?_) | ((first | refine br_go ?_ ?_ | refine pick_go ?_ ?_) <;> intro ee f <;> (try simp only [BB] at f) <;> (try simp only [numOk, verOk] at f)) | (have ee := True.intro; first | refine call_x (prefixOf0 s h) rfl ⟨rfl⟩ ?_)) <;> (try simp (maxSteps := 1000000) (disch := first | omega | (simp only [LN, numOk, verOk] <;> omega) | exact Ck.mk rfl) only [ee, VC, T, Nat.reduceMul, Nat.reduceAdd, Nat.reduceSub, Nat.reduceLT, Nat.reduceEqDiff, Nat.reduceLeDiff, Nat.reduceBEq, reduceCtorEq, Int.reduceToNat, ↓reduceIte]) <;> (try clear ee))
theorem repeat0 (c : Int) (h : 0 ≤ c ∧ c ≤ 7) : Fn Tryz.prog 82 [.str ⟨#[48]⟩, .int .i64 c] [] (.str (strOf (List.replicate c.toNat 48))) [] := by
  obtain rfl | rfl | h : c = 0 ∨ c = 1 ∨ (c = 2 ∨ c = 3 ∨ c = 4 ∨ c = 5 ∨ c = 6 ∨ c = 7) := by omega
  · refine fn_x tok (n := 125) (rs := [.tmp 4]) Tryz.func82 (by decide) rfl rfl rfl rfl ?_
    refine Wr.go ?_
    repeat' ((first | (have ee := True.intro; refine Wr.mk ?_) | ((first | refine br_go ?_ ?_ | refine pick_go ?_ ?_) <;> intro ee f <;> (try simp only [BB] at f) <;> (try simp only [numOk, verOk] at f))) <;> (try simp (maxSteps := 1000000) (disch := first | omega | (simp only [LN, numOk, verOk] <;> omega) | exact Ck.mk rfl) only [ee, VC, T, Nat.reduceMul, Nat.reduceAdd, Nat.reduceSub, Nat.reduceLT, Nat.reduceEqDiff, Nat.reduceLeDiff, Nat.reduceBEq, reduceCtorEq, Int.reduceToNat, ↓reduceIte]) <;> (try clear ee))
    rfl
  · refine fn_x tok (n := 125) (rs := [.tmp 4]) Tryz.func82 (by decide) rfl rfl rfl rfl ?_
    refine Wr.go ?_
    repeat' ((first | (have ee := True.intro; refine Wr.mk ?_) | ((first | refine br_go ?_ ?_ | refine pick_go ?_ ?_) <;> intro ee f <;> (try simp only [BB] at f) <;> (try simp only [numOk, verOk] at f))) <;> (try simp (maxSteps := 1000000) (disch := first | omega | (simp only [LN, numOk, verOk] <;> omega) | exact Ck.mk rfl) only [ee, VC, T, Nat.reduceMul, Nat.reduceAdd, Nat.reduceSub, Nat.reduceLT, Nat.reduceEqDiff, Nat.reduceLeDiff, Nat.reduceBEq, reduceCtorEq, Int.reduceToNat, ↓reduceIte]) <;> (try clear ee))
    rfl
  · have h7 : c % 18446744073709551616 = c := by omega
    have h8 : (1 : Int) % 18446744073709551616 = 1 := by decide
    refine fn_x tok (n := 125) (rs := [.tmp 4]) Tryz.func82 (by decide) rfl rfl rfl rfl ?_
    have b0 : bt ⟨#[48]⟩ 0 = 48 := by decide
    have w1 : ∀ l m : List UInt8, bt ⟨((32 :: l).append m).toArray⟩ 0 = 32 := fun _ _ => rfl
    have w2 : ∀ l m : List UInt8, bt ⟨((45 :: l).append m).toArray⟩ 0 = 45 := fun _ _ => rfl
    have w3 : ∀ l : List UInt8, bt ⟨(48 :: l).toArray⟩ 0 = 48 := fun _ => rfl
    have z1 : ∀ l m : List UInt8, 1 ≤ ByteArray.size ⟨((32 :: l).append m).toArray⟩ := fun l m => Nat.succ_le_succ (Nat.zero_le _)
    have z2 : ∀ l m : List UInt8, 1 ≤ ByteArray.size ⟨((45 :: l).append m).toArray⟩ := fun l m => Nat.succ_le_succ (Nat.zero_le _)
    have z3 : ∀ l : List UInt8, 1 ≤ ByteArray.size ⟨(48 :: l).toArray⟩ := fun l => Nat.succ_le_succ (Nat.zero_le _)
    refine Wr.go ?_
    repeat' ((first | (have ee := True.intro; refine Wr.mk ?_) | ((first | refine br_go ?_ ?_ | refine pick_go ?_ ?_) <;> intro ee f <;> (try simp only [BB] at f) <;> (try simp only [numOk, verOk] at f)) | (have ee := True.intro; first | refine call_x (mul_1 c h) rfl ⟨rfl⟩ ?_ | refine call_x (hasPrefix0 _ (z1 _ _)) rfl ⟨rfl⟩ ?_ | refine call_x (hasPrefix0 _ (z2 _ _)) rfl ⟨rfl⟩ ?_ | refine call_x (hasPrefix0 _ (z3 _)) rfl ⟨rfl⟩ ?_)) <;> (try simp (maxSteps := 1000000) (disch := first | omega | (simp only [LN, numOk, verOk, h7, h8, b0, w1, w2, w3, decide_true] <;> omega) | exact Ck.mk rfl) only [ee, VC, T, Nat.reduceMul, Nat.reduceAdd, Nat.reduceSub, Nat.reduceLT, Nat.reduceEqDiff, Nat.reduceLeDiff, Nat.reduceBEq, reduceCtorEq, Int.reduceToNat, ↓reduceIte, h7, h8, b0, w1, w2, w3, decide_true]) <;> (try clear ee))
    rcases h with rfl | rfl | rfl | rfl | rfl | rfl <;> rfl
theorem strOf_app (l m : List Int) : strOf (l ++ m) = strOf l ++ strOf m := by
  unfold strOf
  refine ByteArray.ext ?_
  rw [ByteArray.data_append, List.map_append, List.append_toArray]
theorem shr16 (n : Int) (j : Nat) (h0 : 0 ≤ n) (h : j ≤ 7) : shr .i64 n (4 * (7 - (j : Int)) % 18446744073709551616) = n / 16 ^ (7 - j) := by
  unfold shr
  have e : min (4 * (7 - (j : Int)) % 18446744073709551616).toNat IntKind.i64.bits = 4 * (7 - j) := by
    show min _ 64 = _
    omega
  rw [e, Int.pow_mul]
  exact Int.fdiv_eq_ediv_of_nonneg _ (Int.le_of_lt (Int.pow_pos (by decide)))
theorem hex_next (n : Int) (j : Nat) (h : j ≤ 7) : hexL (j + 1) (n / 16 ^ (8 - (j + 1))) = hexL j (n / 16 ^ (8 - j)) ++ [hexD (n / 16 ^ (7 - j) % 16)] := by
  rw [hexL, show 8 - (j + 1) = 7 - j by omega, Int.ediv_ediv_of_nonneg (Int.le_of_lt (Int.pow_pos (by decide))), ← Int.pow_succ, show (7 - j).succ = 8 - j by omega]
theorem segT_form (n : Int) (h : numOk n) (k : Nat) (hk : k < 8) (hn : n < 16 ^ (k + 1)) : ⟨#[115]⟩ ++ strOf (List.replicate (8 - ((k : Int) + 1)).toNat 48) ++ strOf (hexL (k + 1) n) ++ ⟨#[46, 115, 101, 103]⟩ = segT n := by
  have e := hexL_pad (k + 1) (8 - (k + 1)) n h.1 hn
  rw [show k + 1 + (8 - (k + 1)) = 8 by omega] at e
  unfold segT segL
  rw [if_pos h, e, show (8 - ((k : Int) + 1)).toNat = 8 - (k + 1) by omega]
  rw [strOf_app ([115] ++ (List.replicate (8 - (k + 1)) 48 ++ hexL (k + 1) n)), strOf_app [115], strOf_app (List.replicate (8 - (k + 1)) 48), ByteArray.append_assoc, ByteArray.append_assoc, ByteArray.append_assoc, ByteArray.append_assoc]
  rfl
theorem impl_SegmentName (n : Int) (hn : i64 n) : Fn Tryz.prog 38 [.int .i64 n] [] (.str (segT n)) [] := by
  by_cases h : numOk n
  · have hs := segT_form n h
    generalize segT n = q at *
    obtain ⟨h0, h1⟩ := h
    refine fn_x tok (n := 17) (rs := [.tmp 2]) Tryz.func38 (by decide) rfl rfl rfl rfl ?_
    refine Wr.go ?_
    repeat' ((first | (have ee := True.intro; refine Wr.mk ?_) | ((first | refine br_go ?_ ?_ | refine pick_go ?_ ?_) <;> intro ee f <;> (try simp only [BB] at f) <;> (try simp only [numOk, verOk] at f)) | (have ee := True.intro; first | refine call_x (impl_isNumber n) rfl ⟨rfl⟩ ?_)) <;> (try simp (maxSteps := 1000000) (disch := first | omega | (simp only [LN, numOk, verOk] <;> omega) | exact Ck.mk rfl) only [ee, VC, T, Nat.reduceMul, Nat.reduceAdd, Nat.reduceSub, Nat.reduceLT, Nat.reduceEqDiff, Nat.reduceLeDiff, Nat.reduceBEq, reduceCtorEq, Int.reduceToNat, ↓reduceIte]) <;> (try clear ee))
    refine call_v (format16 n h0 (by omega)) rfl ?_
    rintro _ ⟨k, hk, hx, rfl⟩
    refine ⟨⟨rfl⟩, ?_⟩
    have hz := strOf_size (hexL (k + 1) n)
    rw [hexL_length] at hz
    have hr := repeat0 (8 - ((k : Int) + 1)) (by omega)
    have hz2 := strOf_size (List.replicate (8 - ((k : Int) + 1)).toNat 48)
    rw [List.length_replicate] at hz2
    have hs := hs k hk hx
    refine Wr.go ?_
    repeat' ((first | (have ee := True.intro; refine Wr.mk ?_) | ((first | refine br_go ?_ ?_ | refine pick_go ?_ ?_) <;> intro ee f <;> (try simp only [BB] at f) <;> (try simp only [numOk, verOk] at f)) | (have ee := True.intro; first | refine call_x (hr) rfl ⟨rfl⟩ ?_)) <;> (try simp (maxSteps := 1000000) (disch := first | omega | (simp only [LN, numOk, verOk, hz] <;> omega) | exact Ck.mk rfl) only [ee, VC, T, Nat.reduceMul, Nat.reduceAdd, Nat.reduceSub, Nat.reduceLT, Nat.reduceEqDiff, Nat.reduceLeDiff, Nat.reduceBEq, reduceCtorEq, Int.reduceToNat, ↓reduceIte, hz]) <;> (try clear ee))
    rw [← hs]
  · have e : segT n = ⟨#[]⟩ := if_neg h
    rw [e]
    refine fn_x tok (n := 17) (rs := [.tmp 2]) Tryz.func38 (by decide) rfl rfl rfl rfl ?_
    refine Wr.go ?_
    repeat' ((first | (have ee := True.intro; refine Wr.mk ?_) | ((first | refine br_go ?_ ?_ | refine pick_go ?_ ?_) <;> intro ee f <;> (try simp only [BB] at f) <;> (try simp only [numOk, verOk] at f)) | (have ee := True.intro; first | refine call_x (impl_isNumber n) rfl ⟨rfl⟩ ?_)) <;> (try simp (maxSteps := 1000000) (disch := first | omega | (simp only [LN, numOk, verOk] <;> omega) | exact Ck.mk rfl) only [ee, VC, T, Nat.reduceMul, Nat.reduceAdd, Nat.reduceSub, Nat.reduceLT, Nat.reduceEqDiff, Nat.reduceLeDiff, Nat.reduceBEq, reduceCtorEq, Int.reduceToNat, ↓reduceIte]) <;> (try clear ee))
theorem spec_SegmentName (n : Int) (hn : i64 n) : Fn Tryz.prog 25 [.int .i64 n] [] (.str (segT n)) [] := by
  by_cases h : numOk n
  · have e : segT n = strOf (segL n) := if_pos h
    rw [e]
    obtain ⟨h0, h1⟩ := h
    refine fn_x tok (n := 27) (rs := [.tmp 2]) Tryz.func25 (by decide) rfl rfl rfl rfl ?_
    refine Wr.go ?_
    repeat' ((first | (have ee := True.intro; refine Wr.mk ?_) | ((first | refine br_go ?_ ?_ | refine pick_go ?_ ?_) <;> intro ee f <;> (try simp only [BB] at f) <;> (try simp only [numOk, verOk] at f)) | (have ee := True.intro; first | refine call_x (spec_l01In _ _ _) rfl ⟨rfl⟩ ?_)) <;> (try simp (maxSteps := 1000000) (disch := first | omega | (simp only [LN, numOk, verOk] <;> omega) | exact Ck.mk rfl) only [ee, VC, T, Nat.reduceMul, Nat.reduceAdd, Nat.reduceSub, Nat.reduceLT, Nat.reduceEqDiff, Nat.reduceLeDiff, Nat.reduceBEq, reduceCtorEq, Int.reduceToNat, ↓reduceIte]) <;> (try clear ee))
    refine lp_go (fun j : Nat => ⟨27, [(0, .int .i64 n), (3, .row 576 j), (4, .int .i64 (7 - j))], [(576, .row ⟨1, 0⟩ ((hexL j (n / 16 ^ (8 - j))).map (.int .u8)))]⟩) (fun j => j ≤ 8) (fun j => 8 - j) 0 ?_ (by decide) ?_
    · (simp (disch := first | omega | (simp only [LN, numOk, verOk] <;> omega) | exact Ck.mk rfl) only [SB, EQ, Nat.reduceMul, Nat.reduceAdd, Nat.reduceSub, Nat.reduceLT, Nat.reduceEqDiff, Nat.reduceLeDiff, Nat.reduceBEq, reduceCtorEq, Int.reduceToNat, ↓reduceIte]; try omega)
      exact ⟨rfl, rfl⟩
    · intro j hj N hN
      have a1 : ∀ s, Go.bits .and .i64 s 15 = s % 16 := fun s => and_mask64 s 4 (by decide)
      have a2 := shr16 n j h0
      have a3 := hexL_length j (n / 16 ^ (8 - j))
      have a4 : bt ⟨#[48, 49, 50, 51, 52, 53, 54, 55, 56, 57, 97, 98, 99, 100, 101, 102]⟩ (n / 16 ^ (7 - j) % 16) = hexD (n / 16 ^ (7 - j) % 16) := hexT_at _ (by omega) (by omega)
      have a5 := hex_next n j
      refine Wr.go ?_
      repeat' ((first | (have ee := True.intro; refine Wr.mk ?_) | ((first | refine br_go ?_ ?_ | refine pick_go ?_ ?_) <;> intro ee f <;> (try simp only [BB] at f) <;> (try simp only [numOk, verOk] at f))) <;> (try simp (maxSteps := 1000000) (disch := first | omega | (simp only [LN, numOk, verOk, a1, a2, a3, a4] <;> omega) | exact Ck.mk rfl) only [ee, VC, T, Nat.reduceMul, Nat.reduceAdd, Nat.reduceSub, Nat.reduceLT, Nat.reduceEqDiff, Nat.reduceLeDiff, Nat.reduceBEq, reduceCtorEq, Int.reduceToNat, ↓reduceIte, a1, a2, a3, a4]) <;> (try clear ee))
      · refine hN (j + 1) _ (by omega) (by omega) ?_
        rw [a5 (by omega)]
        (simp (disch := first | omega | (simp only [LN, numOk, verOk] <;> omega) | exact Ck.mk rfl) only [SB, EQ, Nat.reduceMul, Nat.reduceAdd, Nat.reduceSub, Nat.reduceLT, Nat.reduceEqDiff, Nat.reduceLeDiff, Nat.reduceBEq, reduceCtorEq, Int.reduceToNat, ↓reduceIte]; try omega)
      · obtain rfl : j = 8 := by omega
        have hz := strOf_size (hexL 8 (n / 16 ^ (8 - 8)))
        rw [hexL_length] at hz
        refine ⟨fun x hx => ?_, by omega, by omega, ?_⟩
        · have := hexL_range _ _ x hx
          omega
        · rw [show n / 16 ^ (8 - 8) = n by simp]
          unfold segL
          rw [strOf_app, strOf_app]
          rfl
  · have e : segT n = ⟨#[]⟩ := if_neg h
    rw [e]
    refine fn_x tok (n := 27) (rs := [.tmp 2]) Tryz.func25 (by decide) rfl rfl rfl rfl ?_
    refine Wr.go ?_
    repeat' ((first | (have ee := True.intro; refine Wr.mk ?_) | ((first | refine br_go ?_ ?_ | refine pick_go ?_ ?_) <;> intro ee f <;> (try simp only [BB] at f) <;> (try simp only [numOk, verOk] at f)) | (have ee := True.intro; first | refine call_x (spec_l01In _ _ _) rfl ⟨rfl⟩ ?_)) <;> (try simp (maxSteps := 1000000) (disch := first | omega | (simp only [LN, numOk, verOk] <;> omega) | exact Ck.mk rfl) only [ee, VC, T, Nat.reduceMul, Nat.reduceAdd, Nat.reduceSub, Nat.reduceLT, Nat.reduceEqDiff, Nat.reduceLeDiff, Nat.reduceBEq, reduceCtorEq, Int.reduceToNat, ↓reduceIte]) <;> (try clear ee))
    · exact absurd f h
end Go.Pv

/- What functions of the program and of the reference do, in plain values. -/
namespace Go.Pv
open Go.Proofs Go.Mth
set_option linter.unusedSimpArgs false
set_option linter.unusedVariables false
set_option maxHeartbeats 4000000
set_option maxRecDepth 4000

/-! ### disks: nodes and entries, files -/
def ndP (x : Nd) : PV := .agg [.int .i64 x.1, .str x.2.1, .int .i64 x.2.2]
def enP (x : Et) : PV := .agg [.str x.1, .int .i64 x.2]
def dkP (d : Dk) : PV := .agg [.far (d.1.map ndP), .far (d.2.1.map enP), .far (d.2.2.1.map enP), .far (d.2.2.2.1.map .str), .int .i64 d.2.2.2.2.1, .int .i64 d.2.2.2.2.2]
theorem impl_placeOf_lit (x : Et) (n : ByteArray) : Fn Tryz.prog 159 [enP x, .fel [.str n]] [] (.bool (decide (x.1 = n))) [] := by
  obtain ⟨a, b⟩ := x
  unfold enP
  refine fn_x tok (n := 8) (rs := [.tmp 3]) Tryz.func159 (by decide) rfl rfl rfl rfl ?_
  refine Wr.go ?_
  repeat' ((first | (have ee := True.intro; refine Wr.mk ?_) | ((first | refine br_go ?_ ?_ | refine pick_go ?_ ?_) <;> intro ee f <;> (try simp only [BB] at f) <;> (try simp only [numOk, verOk] at f))) <;> (try simp (maxSteps := 1000000) (disch := first | omega | (simp only [LN, numOk, verOk, rfP, rvP, rhP, frP] <;> omega) | exact Ck.mk rfl) only [ee, VC, T, Nat.reduceMul, Nat.reduceAdd, Nat.reduceSub, Nat.reduceLT, Nat.reduceEqDiff, Nat.reduceLeDiff, Nat.reduceBEq, reduceCtorEq, Int.reduceToNat, ↓reduceIte, rfP, rvP, rhP, frP]) <;> (try clear ee))
theorem impl_nodeOf_lit (x : Nd) (n : Int) : Fn Tryz.prog 161 [ndP x, .fel [.int .i64 n]] [] (.bool (decide (x.1 = n))) [] := by
  obtain ⟨a, b, c⟩ := x
  unfold ndP
  refine fn_x tok (n := 8) (rs := [.tmp 3]) Tryz.func161 (by decide) rfl rfl rfl rfl ?_
  refine Wr.go ?_
  repeat' ((first | (have ee := True.intro; refine Wr.mk ?_) | ((first | refine br_go ?_ ?_ | refine pick_go ?_ ?_) <;> intro ee f <;> (try simp only [BB] at f) <;> (try simp only [numOk, verOk] at f))) <;> (try simp (maxSteps := 1000000) (disch := first | omega | (simp only [LN, numOk, verOk, rfP, rvP, rhP, frP] <;> omega) | exact Ck.mk rfl) only [ee, VC, T, Nat.reduceMul, Nat.reduceAdd, Nat.reduceSub, Nat.reduceLT, Nat.reduceEqDiff, Nat.reduceLeDiff, Nat.reduceBEq, reduceCtorEq, Int.reduceToNat, ↓reduceIte, rfP, rvP, rhP, frP]) <;> (try clear ee))
theorem indexE (es : List Et) (n : ByteArray) (hl : es.length ≤ 1048576) : Fn Tryz.prog 158 [.far (es.map enP), .fn (.func 159) [.fel [.str n]]] [] (.int .i64 (placeI es n)) [] := by
  have hst := findI_step (fun e : Et => decide (e.1 = n)) es
  have hen := findI_end (fun e : Et => decide (e.1 = n)) es
  refine fn_x tok (n := 19) (rs := [.tmp 4]) Tryz.func158 (by decide) rfl rfl rfl rfl ?_
  refine Wr.go ?_
  repeat' ((first | (have ee := True.intro; refine Wr.mk ?_) | ((first | refine br_go ?_ ?_ | refine pick_go ?_ ?_) <;> intro ee f <;> (try simp only [BB] at f) <;> (try simp only [numOk, verOk] at f))) <;> (try simp (maxSteps := 1000000) (disch := first | omega | (simp only [LN, numOk, verOk, rfP, rvP, rhP, frP] <;> omega) | exact Ck.mk rfl) only [ee, VC, T, Nat.reduceMul, Nat.reduceAdd, Nat.reduceSub, Nat.reduceLT, Nat.reduceEqDiff, Nat.reduceLeDiff, Nat.reduceBEq, reduceCtorEq, Int.reduceToNat, ↓reduceIte, rfP, rvP, rhP, frP]) <;> (try clear ee))
  refine lp_go (fun i : Nat => ⟨19, [(0, .far (es.map enP)), (1, .fn (.func 159) [.fel [.str n]]), (7, .int .i64 es.length), (8, .int .i64 i)], []⟩) (fun i => i ≤ es.length ∧ placeI es n = findI (fun e => decide (e.1 = n)) (es.drop i) i) (fun i => es.length - i) 0 ?_ ⟨Nat.zero_le _, rfl⟩ ?_
  · (simp (disch := first | omega | (simp only [LN, numOk, verOk] <;> omega) | exact Ck.mk rfl) only [SB, EQ, Nat.reduceMul, Nat.reduceAdd, Nat.reduceSub, Nat.reduceLT, Nat.reduceEqDiff, Nat.reduceLeDiff, Nat.reduceBEq, reduceCtorEq, Int.reduceToNat, ↓reduceIte]; try omega)
  · rintro i ⟨h1, h2⟩ N hN
    have hg : i < es.length → (es.map enP).getD i .junk = .agg [.str (es.getD i default).1, .int .i64 (es.getD i default).2] := fun h => by
      rw [List.getD_eq_getElem?_getD, List.getElem?_map, List.getElem?_eq_getElem h, List.getD_eq_getElem?_getD, List.getElem?_eq_getElem h]; rfl
    have hst := hst i
    have hen := hen i
    refine Wr.go ?_
    repeat' ((first | (have ee := True.intro; refine Wr.mk ?_) | ((first | refine br_go ?_ ?_ | refine pick_go ?_ ?_) <;> intro ee f <;> (try simp only [BB] at f) <;> (try simp only [numOk, verOk] at f)) | (have ee := True.intro; first | refine call_x (impl_placeOf_lit (es.getD i default) n) rfl ⟨rfl⟩ ?_)) <;> (try simp (maxSteps := 1000000) (disch := first | omega | (simp only [LN, numOk, verOk, rfP, rvP, rhP, frP, hg] <;> omega) | exact Ck.mk rfl) only [ee, VC, T, Nat.reduceMul, Nat.reduceAdd, Nat.reduceSub, Nat.reduceLT, Nat.reduceEqDiff, Nat.reduceLeDiff, Nat.reduceBEq, reduceCtorEq, Int.reduceToNat, ↓reduceIte, rfP, rvP, rhP, frP, hg]) <;> (try clear ee))
    · rw [h2, hst (by omega), if_pos (decide_eq_true f)]
    · refine hN (i + 1) _ ⟨by omega, ?_⟩ (by omega) ?_
      · rw [h2, hst (by omega), if_neg (by rw [decide_eq_false f]; decide)]
      · (simp (disch := first | omega | (simp only [LN, numOk, verOk] <;> omega) | exact Ck.mk rfl) only [SB, EQ, Nat.reduceMul, Nat.reduceAdd, Nat.reduceSub, Nat.reduceLT, Nat.reduceEqDiff, Nat.reduceLeDiff, Nat.reduceBEq, reduceCtorEq, Int.reduceToNat, ↓reduceIte]; try omega)
    · rw [h2, hen (by omega)]
theorem indexN (es : List Nd) (n : Int) (hl : es.length ≤ 1048576) : Fn Tryz.prog 160 [.far (es.map ndP), .fn (.func 161) [.fel [.int .i64 n]]] [] (.int .i64 (nodeI es n)) [] := by
  have hst := findI_step (fun e : Nd => decide (e.1 = n)) es
  have hen := findI_end (fun e : Nd => decide (e.1 = n)) es
  refine fn_x tok (n := 19) (rs := [.tmp 4]) Tryz.func160 (by decide) rfl rfl rfl rfl ?_
  refine Wr.go ?_
  repeat' ((first | (have ee := True.intro; refine Wr.mk ?_) | ((first | refine br_go ?_ ?_ | refine pick_go ?_ ?_) <;> intro ee f <;> (try simp only [BB] at f) <;> (try simp only [numOk, verOk] at f))) <;> (try simp (maxSteps := 1000000) (disch := first | omega | (simp only [LN, numOk, verOk, rfP, rvP, rhP, frP] <;> omega) | exact Ck.mk rfl) only [ee, VC, T, Nat.reduceMul, Nat.reduceAdd, Nat.reduceSub, Nat.reduceLT, Nat.reduceEqDiff, Nat.reduceLeDiff, Nat.reduceBEq, reduceCtorEq, Int.reduceToNat, ↓reduceIte, rfP, rvP, rhP, frP]) <;> (try clear ee))
  refine lp_go (fun i : Nat => ⟨19, [(0, .far (es.map ndP)), (1, .fn (.func 161) [.fel [.int .i64 n]]), (7, .int .i64 es.length), (8, .int .i64 i)], []⟩) (fun i => i ≤ es.length ∧ nodeI es n = findI (fun e => decide (e.1 = n)) (es.drop i) i) (fun i => es.length - i) 0 ?_ ⟨Nat.zero_le _, rfl⟩ ?_
  · (simp (disch := first | omega | (simp only [LN, numOk, verOk] <;> omega) | exact Ck.mk rfl) only [SB, EQ, Nat.reduceMul, Nat.reduceAdd, Nat.reduceSub, Nat.reduceLT, Nat.reduceEqDiff, Nat.reduceLeDiff, Nat.reduceBEq, reduceCtorEq, Int.reduceToNat, ↓reduceIte]; try omega)
  · rintro i ⟨h1, h2⟩ N hN
    have hg : i < es.length → (es.map ndP).getD i .junk = .agg [.int .i64 (es.getD i default).1, .str (es.getD i default).2.1, .int .i64 (es.getD i default).2.2] := fun h => by
      rw [List.getD_eq_getElem?_getD, List.getElem?_map, List.getElem?_eq_getElem h, List.getD_eq_getElem?_getD, List.getElem?_eq_getElem h]; rfl
    have hst := hst i
    have hen := hen i
    refine Wr.go ?_
    repeat' ((first | (have ee := True.intro; refine Wr.mk ?_) | ((first | refine br_go ?_ ?_ | refine pick_go ?_ ?_) <;> intro ee f <;> (try simp only [BB] at f) <;> (try simp only [numOk, verOk] at f)) | (have ee := True.intro; first | refine call_x (impl_nodeOf_lit (es.getD i default) n) rfl ⟨rfl⟩ ?_)) <;> (try simp (maxSteps := 1000000) (disch := first | omega | (simp only [LN, numOk, verOk, rfP, rvP, rhP, frP, hg] <;> omega) | exact Ck.mk rfl) only [ee, VC, T, Nat.reduceMul, Nat.reduceAdd, Nat.reduceSub, Nat.reduceLT, Nat.reduceEqDiff, Nat.reduceLeDiff, Nat.reduceBEq, reduceCtorEq, Int.reduceToNat, ↓reduceIte, rfP, rvP, rhP, frP, hg]) <;> (try clear ee))
    · rw [h2, hst (by omega), if_pos (decide_eq_true f)]
    · refine hN (i + 1) _ ⟨by omega, ?_⟩ (by omega) ?_
      · rw [h2, hst (by omega), if_neg (by rw [decide_eq_false f]; decide)]
      · (simp (disch := first | omega | (simp only [LN, numOk, verOk] <;> omega) | exact Ck.mk rfl) only [SB, EQ, Nat.reduceMul, Nat.reduceAdd, Nat.reduceSub, Nat.reduceLT, Nat.reduceEqDiff, Nat.reduceLeDiff, Nat.reduceBEq, reduceCtorEq, Int.reduceToNat, ↓reduceIte]; try omega)
    · rw [h2, hen (by omega)]
theorem impl_placeOf (es : List Et) (n : ByteArray) (hl : es.length ≤ 1048576) : Fn Tryz.prog 122 [.far (es.map enP), .str n] [] (.int .i64 (placeI es n)) [] := by
  refine fn_x tok (n := 8) (rs := [.tmp 4]) Tryz.func122 (by decide) rfl rfl rfl rfl ?_
  refine Wr.go ?_
  repeat' ((first | (have ee := True.intro; refine Wr.mk ?_) | ((first | refine br_go ?_ ?_ | refine pick_go ?_ ?_) <;> intro ee f <;> (try simp only [BB] at f) <;> (try simp only [numOk, verOk] at f)) | (have ee := True.intro; first | (refine call_hx [] [256] (indexE es n hl) (by decide) ?_ rfl ?_; (focus (first | rfl | (simp (maxSteps := 1000000) (disch := first | omega | (simp only [LN, numOk, verOk, rfP, rvP, rhP, frP] <;> omega) | exact Ck.mk rfl) only [VC, T, Nat.reduceMul, Nat.reduceAdd, Nat.reduceSub, Nat.reduceLT, Nat.reduceEqDiff, Nat.reduceLeDiff, Nat.reduceBEq, reduceCtorEq, Int.reduceToNat, ↓reduceIte, rfP, rvP, rhP, frP]; done)))))) <;> (try simp (maxSteps := 1000000) (disch := first | omega | (simp only [LN, numOk, verOk, rfP, rvP, rhP, frP] <;> omega) | exact Ck.mk rfl) only [ee, VC, T, Nat.reduceMul, Nat.reduceAdd, Nat.reduceSub, Nat.reduceLT, Nat.reduceEqDiff, Nat.reduceLeDiff, Nat.reduceBEq, reduceCtorEq, Int.reduceToNat, ↓reduceIte, rfP, rvP, rhP, frP]) <;> (try clear ee))
theorem impl_nodeOf (d : Dk) (k : Int) (hl : d.1.length ≤ 1048576) : Fn Tryz.prog 123 [dkP d, .int .i64 k] [] (.int .i64 (nodeI d.1 k)) [] := by
  unfold dkP
  refine fn_x tok (n := 9) (rs := [.tmp 4]) Tryz.func123 (by decide) rfl rfl rfl rfl ?_
  refine Wr.go ?_
  repeat' ((first | (have ee := True.intro; refine Wr.mk ?_) | ((first | refine br_go ?_ ?_ | refine pick_go ?_ ?_) <;> intro ee f <;> (try simp only [BB] at f) <;> (try simp only [numOk, verOk] at f)) | (have ee := True.intro; first | (refine call_hx [] [256] (indexN d.1 k hl) (by decide) ?_ rfl ?_; (focus (first | rfl | (simp (maxSteps := 1000000) (disch := first | omega | (simp only [LN, numOk, verOk, rfP, rvP, rhP, frP] <;> omega) | exact Ck.mk rfl) only [VC, T, Nat.reduceMul, Nat.reduceAdd, Nat.reduceSub, Nat.reduceLT, Nat.reduceEqDiff, Nat.reduceLeDiff, Nat.reduceBEq, reduceCtorEq, Int.reduceToNat, ↓reduceIte, rfP, rvP, rhP, frP]; done)))))) <;> (try simp (maxSteps := 1000000) (disch := first | omega | (simp only [LN, numOk, verOk, rfP, rvP, rhP, frP] <;> omega) | exact Ck.mk rfl) only [ee, VC, T, Nat.reduceMul, Nat.reduceAdd, Nat.reduceSub, Nat.reduceLT, Nat.reduceEqDiff, Nat.reduceLeDiff, Nat.reduceBEq, reduceCtorEq, Int.reduceToNat, ↓reduceIte, rfP, rvP, rhP, frP]) <;> (try clear ee))
theorem impl_nodeAt (d : Dk) (n : ByteArray) (h : DkW d) : Fn Tryz.prog 86 [dkP d, .str n] [] (.int .i64 (nodeP d n)) [] := by
  have hp := impl_placeOf d.2.1 n h.es
  have hr := placeI_r d.2.1 n
  have hn := fun k => impl_nodeOf d k h.ns
  unfold nodeP
  unfold dkP at *
  generalize placeI d.2.1 n = p at *
  have hg : (p.toNat < d.2.1.length) → (d.2.1.map enP).getD p.toNat .junk = .agg [.str (d.2.1.getD p.toNat default).1, .int .i64 (d.2.1.getD p.toNat default).2] := fun h => by
    rw [List.getD_eq_getElem?_getD, List.getElem?_map, List.getElem?_eq_getElem h, List.getD_eq_getElem?_getD, List.getElem?_eq_getElem h]; rfl
  refine fn_x tok (n := 20) (rs := [.tmp 4]) Tryz.func86 (by decide) rfl rfl rfl rfl ?_
  refine Wr.go ?_
  repeat' ((first | (have ee := True.intro; refine Wr.mk ?_) | ((first | refine br_go ?_ ?_ | refine pick_go ?_ ?_) <;> intro ee f <;> (try simp only [BB] at f) <;> (try simp only [numOk, verOk] at f)) | (have ee := True.intro; first | refine dr_go mixed (id := 4) [([], [2], []), ([], [2], []), ([1], [13], []), ([], [5], []), ([1, 2, 3], [14, 15], []), ([1, 2, 3, 4], [16], []), ([1, 2, 3, 4, 5], [17], []), ([0, 1, 2, 3, 4, 5, 6], [12, 18], []), ([0, 1, 2, 3, 4, 5, 6, 7], [19], [])] rfl rfl rfl ?_ | refine call_x (hp) rfl ⟨rfl⟩ ?_ | refine call_x (hn _) rfl ⟨rfl⟩ ?_)) <;> (try simp (maxSteps := 1000000) (disch := first | omega | (simp only [LN, numOk, verOk, rfP, rvP, rhP, frP, hg] <;> omega) | exact Ck.mk rfl) only [ee, VC, T, Nat.reduceMul, Nat.reduceAdd, Nat.reduceSub, Nat.reduceLT, Nat.reduceEqDiff, Nat.reduceLeDiff, Nat.reduceBEq, reduceCtorEq, Int.reduceToNat, ↓reduceIte, rfP, rvP, rhP, frP, hg]) <;> (try clear ee))
  · rw [if_pos f]
  · rw [if_neg (by omega)]
theorem spec_EntryAt (es : List Et) (n : ByteArray) (hl : es.length ≤ 16777216) : Fn Tryz.prog 66 [.far (es.map enP), .str n] [] (.int .i64 (entT es n)) [] := by
  have hst := findI_step (fun e : Et => decide (e.1 = n)) es
  have hen := findI_end (fun e : Et => decide (e.1 = n)) es
  refine fn_x tok (n := 24) (rs := [.tmp 4]) Tryz.func66 (by decide) rfl rfl rfl rfl ?_
  refine Wr.go ?_
  repeat' ((first | (have ee := True.intro; refine Wr.mk ?_) | ((first | refine br_go ?_ ?_ | refine pick_go ?_ ?_) <;> intro ee f <;> (try simp only [BB] at f) <;> (try simp only [numOk, verOk] at f))) <;> (try simp (maxSteps := 1000000) (disch := first | omega | (simp only [LN, numOk, verOk, rfP, rvP, rhP, frP] <;> omega) | exact Ck.mk rfl) only [ee, VC, T, Nat.reduceMul, Nat.reduceAdd, Nat.reduceSub, Nat.reduceLT, Nat.reduceEqDiff, Nat.reduceLeDiff, Nat.reduceBEq, reduceCtorEq, Int.reduceToNat, ↓reduceIte, rfP, rvP, rhP, frP]) <;> (try clear ee))
  refine lp_go (fun i : Nat => ⟨24, [(0, .far (es.map enP)), (1, .str n), (5, .int .i64 i)], []⟩) (fun i => i ≤ es.length ∧ placeI es n = findI (fun e => decide (e.1 = n)) (es.drop i) i) (fun i => es.length - i) 0 ?_ ⟨Nat.zero_le _, rfl⟩ ?_
  · (simp (disch := first | omega | (simp only [LN, numOk, verOk] <;> omega) | exact Ck.mk rfl) only [SB, EQ, Nat.reduceMul, Nat.reduceAdd, Nat.reduceSub, Nat.reduceLT, Nat.reduceEqDiff, Nat.reduceLeDiff, Nat.reduceBEq, reduceCtorEq, Int.reduceToNat, ↓reduceIte]; try omega)
  · rintro i ⟨h1, h2⟩ N hN
    have hg : i < es.length → (es.map enP).getD i .junk = .agg [.str (es.getD i default).1, .int .i64 (es.getD i default).2] := fun h => by
      rw [List.getD_eq_getElem?_getD, List.getElem?_map, List.getElem?_eq_getElem h, List.getD_eq_getElem?_getD, List.getElem?_eq_getElem h]; rfl
    have hst := hst i
    have hen := hen i
    refine Wr.go ?_
    repeat' ((first | (have ee := True.intro; refine Wr.mk ?_) | ((first | refine br_go ?_ ?_ | refine pick_go ?_ ?_) <;> intro ee f <;> (try simp only [BB] at f) <;> (try simp only [numOk, verOk] at f))) <;> (try simp (maxSteps := 1000000) (disch := first | omega | (simp only [LN, numOk, verOk, rfP, rvP, rhP, frP, hg] <;> omega) | exact Ck.mk rfl) only [ee, VC, T, Nat.reduceMul, Nat.reduceAdd, Nat.reduceSub, Nat.reduceLT, Nat.reduceEqDiff, Nat.reduceLeDiff, Nat.reduceBEq, reduceCtorEq, Int.reduceToNat, ↓reduceIte, rfP, rvP, rhP, frP, hg]) <;> (try clear ee))
    · unfold entT
      rw [h2, hst (by omega), if_pos (decide_eq_true f), if_neg (by omega), Int.toNat_natCast]
    · refine hN (i + 1) _ ⟨by omega, ?_⟩ (by omega) ?_
      · rw [h2, hst (by omega), if_neg (by rw [decide_eq_false f]; decide)]
      · (simp (disch := first | omega | (simp only [LN, numOk, verOk] <;> omega) | exact Ck.mk rfl) only [SB, EQ, Nat.reduceMul, Nat.reduceAdd, Nat.reduceSub, Nat.reduceLT, Nat.reduceEqDiff, Nat.reduceLeDiff, Nat.reduceBEq, reduceCtorEq, Int.reduceToNat, ↓reduceIte]; try omega)
    · unfold entT
      rw [h2, hen (by omega), if_pos (by decide)]
theorem spec_l06Has (es : List Et) (n : ByteArray) (hl : es.length ≤ 16777216) : Fn Tryz.prog 64 [.far (es.map enP), .str n] [] (.bool (decide (0 ≤ placeI es n))) [] := by
  have hst := findI_step (fun e : Et => decide (e.1 = n)) es
  have hen := findI_end (fun e : Et => decide (e.1 = n)) es
  refine fn_x tok (n := 19) (rs := [.tmp 4]) Tryz.func64 (by decide) rfl rfl rfl rfl ?_
  refine Wr.go ?_
  repeat' ((first | (have ee := True.intro; refine Wr.mk ?_) | ((first | refine br_go ?_ ?_ | refine pick_go ?_ ?_) <;> intro ee f <;> (try simp only [BB] at f) <;> (try simp only [numOk, verOk] at f))) <;> (try simp (maxSteps := 1000000) (disch := first | omega | (simp only [LN, numOk, verOk, rfP, rvP, rhP, frP] <;> omega) | exact Ck.mk rfl) only [ee, VC, T, Nat.reduceMul, Nat.reduceAdd, Nat.reduceSub, Nat.reduceLT, Nat.reduceEqDiff, Nat.reduceLeDiff, Nat.reduceBEq, reduceCtorEq, Int.reduceToNat, ↓reduceIte, rfP, rvP, rhP, frP]) <;> (try clear ee))
  refine lp_go (fun i : Nat => ⟨19, [(0, .far (es.map enP)), (1, .str n), (5, .int .i64 i)], []⟩) (fun i => i ≤ es.length ∧ placeI es n = findI (fun e => decide (e.1 = n)) (es.drop i) i) (fun i => es.length - i) 0 ?_ ⟨Nat.zero_le _, rfl⟩ ?_
  · (simp (disch := first | omega | (simp only [LN, numOk, verOk] <;> omega) | exact Ck.mk rfl) only [SB, EQ, Nat.reduceMul, Nat.reduceAdd, Nat.reduceSub, Nat.reduceLT, Nat.reduceEqDiff, Nat.reduceLeDiff, Nat.reduceBEq, reduceCtorEq, Int.reduceToNat, ↓reduceIte]; try omega)
  · rintro i ⟨h1, h2⟩ N hN
    have hg : i < es.length → (es.map enP).getD i .junk = .agg [.str (es.getD i default).1, .int .i64 (es.getD i default).2] := fun h => by
      rw [List.getD_eq_getElem?_getD, List.getElem?_map, List.getElem?_eq_getElem h, List.getD_eq_getElem?_getD, List.getElem?_eq_getElem h]; rfl
    have hst := hst i
    have hen := hen i
    refine Wr.go ?_
    repeat' ((first | (have ee := True.intro; refine Wr.mk ?_) | ((first | refine br_go ?_ ?_ | refine pick_go ?_ ?_) <;> intro ee f <;> (try simp only [BB] at f) <;> (try simp only [numOk, verOk] at f))) <;> (try simp (maxSteps := 1000000) (disch := first | omega | (simp only [LN, numOk, verOk, rfP, rvP, rhP, frP, hg] <;> omega) | exact Ck.mk rfl) only [ee, VC, T, Nat.reduceMul, Nat.reduceAdd, Nat.reduceSub, Nat.reduceLT, Nat.reduceEqDiff, Nat.reduceLeDiff, Nat.reduceBEq, reduceCtorEq, Int.reduceToNat, ↓reduceIte, rfP, rvP, rhP, frP, hg]) <;> (try clear ee))
    · rw [h2, hst (by omega), if_pos (decide_eq_true f), decide_eq_true (by omega)]
    · refine hN (i + 1) _ ⟨by omega, ?_⟩ (by omega) ?_
      · rw [h2, hst (by omega), if_neg (by rw [decide_eq_false f]; decide)]
      · (simp (disch := first | omega | (simp only [LN, numOk, verOk] <;> omega) | exact Ck.mk rfl) only [SB, EQ, Nat.reduceMul, Nat.reduceAdd, Nat.reduceSub, Nat.reduceLT, Nat.reduceEqDiff, Nat.reduceLeDiff, Nat.reduceBEq, reduceCtorEq, Int.reduceToNat, ↓reduceIte]; try omega)
    · rw [h2, hen (by omega)]; rfl
theorem spec_l05Node (d : Dk) (k : Int) (hl : d.1.length ≤ 1048576) : Fn Tryz.prog 65 [dkP d, .int .i64 k] [] (.int .i64 (nodeI d.1 k)) [] := by
  obtain ⟨ns, es, os, ss, r, x⟩ := d
  simp only at hl ⊢
  have hst := findI_step (fun e : Nd => decide (e.1 = k)) ns
  have hen := findI_end (fun e : Nd => decide (e.1 = k)) ns
  unfold dkP
  refine fn_x tok (n := 22) (rs := [.tmp 4]) Tryz.func65 (by decide) rfl rfl rfl rfl ?_
  refine Wr.go ?_
  repeat' ((first | (have ee := True.intro; refine Wr.mk ?_) | ((first | refine br_go ?_ ?_ | refine pick_go ?_ ?_) <;> intro ee f <;> (try simp only [BB] at f) <;> (try simp only [numOk, verOk] at f))) <;> (try simp (maxSteps := 1000000) (disch := first | omega | (simp only [LN, numOk, verOk, rfP, rvP, rhP, frP] <;> omega) | exact Ck.mk rfl) only [ee, VC, T, Nat.reduceMul, Nat.reduceAdd, Nat.reduceSub, Nat.reduceLT, Nat.reduceEqDiff, Nat.reduceLeDiff, Nat.reduceBEq, reduceCtorEq, Int.reduceToNat, ↓reduceIte, rfP, rvP, rhP, frP]) <;> (try clear ee))
  refine lp_go (fun i : Nat => ⟨22, [(1, .int .i64 k), (2, .ref 192 0), (5, .int .i64 i)], [(192, .box 35 [.far (ns.map ndP), .far (es.map enP), .far (os.map enP), .far (ss.map .str), .int .i64 r, .int .i64 x])]⟩) (fun i => i ≤ ns.length ∧ nodeI ns k = findI (fun e => decide (e.1 = k)) (ns.drop i) i) (fun i => ns.length - i) 0 ?_ ⟨Nat.zero_le _, rfl⟩ ?_
  · (simp (disch := first | omega | (simp only [LN, numOk, verOk] <;> omega) | exact Ck.mk rfl) only [SB, EQ, Nat.reduceMul, Nat.reduceAdd, Nat.reduceSub, Nat.reduceLT, Nat.reduceEqDiff, Nat.reduceLeDiff, Nat.reduceBEq, reduceCtorEq, Int.reduceToNat, ↓reduceIte]; try omega)
  · rintro i ⟨h1, h2⟩ N hN
    have hg : i < ns.length → (ns.map ndP).getD i .junk = .agg [.int .i64 (ns.getD i default).1, .str (ns.getD i default).2.1, .int .i64 (ns.getD i default).2.2] := fun h => by
      rw [List.getD_eq_getElem?_getD, List.getElem?_map, List.getElem?_eq_getElem h, List.getD_eq_getElem?_getD, List.getElem?_eq_getElem h]; rfl
    have hst := hst i
    have hen := hen i
    refine Wr.go ?_
    repeat' ((first | (have ee := True.intro; refine Wr.mk ?_) | ((first | refine br_go ?_ ?_ | refine pick_go ?_ ?_) <;> intro ee f <;> (try simp only [BB] at f) <;> (try simp only [numOk, verOk] at f))) <;> (try simp (maxSteps := 1000000) (disch := first | omega | (simp only [LN, numOk, verOk, rfP, rvP, rhP, frP, hg] <;> omega) | exact Ck.mk rfl) only [ee, VC, T, Nat.reduceMul, Nat.reduceAdd, Nat.reduceSub, Nat.reduceLT, Nat.reduceEqDiff, Nat.reduceLeDiff, Nat.reduceBEq, reduceCtorEq, Int.reduceToNat, ↓reduceIte, rfP, rvP, rhP, frP, hg]) <;> (try clear ee))
    · rw [h2, hst (by omega), if_pos (decide_eq_true f)]
    · refine hN (i + 1) _ ⟨by omega, ?_⟩ (by omega) ?_
      · rw [h2, hst (by omega), if_neg (by rw [decide_eq_false f]; decide)]
      · (simp (disch := first | omega | (simp only [LN, numOk, verOk] <;> omega) | exact Ck.mk rfl) only [SB, EQ, Nat.reduceMul, Nat.reduceAdd, Nat.reduceSub, Nat.reduceLT, Nat.reduceEqDiff, Nat.reduceLeDiff, Nat.reduceBEq, reduceCtorEq, Int.reduceToNat, ↓reduceIte]; try omega)
    · rw [h2, hen (by omega)]
end Go.Pv

/- strings.Builder: what its functions do, in plain values. -/
namespace Go.Pv
open Go.Proofs Go.Mth Go.RowKit
set_option linter.unusedSimpArgs false
set_option linter.unusedVariables false
set_option maxHeartbeats 4000000
section
variable {w : World} {A : Bl} {Γ : Nat → Value} {hp : Hp}
end
end Go.Pv

/- What functions of the program and of the reference do, in plain values. -/
namespace Go.Pv
open Go.Proofs Go.Mth
set_option linter.unusedSimpArgs false
set_option linter.unusedVariables false
set_option maxHeartbeats 4000000
set_option maxRecDepth 4000

end Go.Pv

/- What functions of the program and of the reference do, in plain values. -/
namespace Go.Pv
open Go.Proofs Go.Mth
set_option linter.unusedSimpArgs false
set_option linter.unusedVariables false
set_option maxHeartbeats 4000000
set_option maxRecDepth 4000

end Go.Pv

/- What functions of the program and of the reference do, in plain values. -/
namespace Go.Pv
open Go.Proofs Go.Mth
set_option linter.unusedSimpArgs false
set_option linter.unusedVariables false
set_option maxHeartbeats 4000000
set_option maxRecDepth 4000

end Go.Pv

/- What functions of the program and of the reference do, in plain values. -/
namespace Go.Pv
open Go.Proofs Go.Mth
set_option linter.unusedSimpArgs false
set_option linter.unusedVariables false
set_option maxHeartbeats 4000000
set_option maxRecDepth 4000

end Go.Pv

/- What functions of the program and of the reference do, in plain values. -/
namespace Go.Pv
open Go.Proofs Go.Mth
set_option linter.unusedSimpArgs false
set_option linter.unusedVariables false
set_option maxHeartbeats 4000000
set_option maxRecDepth 4000

end Go.Pv

/- What functions of the program and of the reference do, in plain values. -/
namespace Go.Pv
open Go.Proofs Go.Mth
set_option linter.unusedSimpArgs false
set_option linter.unusedVariables false
set_option maxHeartbeats 4000000
set_option maxRecDepth 4000

end Go.Pv

/- What functions of the program and of the reference do, in plain values. -/
namespace Go.Pv
open Go.Proofs Go.Mth
set_option linter.unusedSimpArgs false
set_option linter.unusedVariables false
set_option maxHeartbeats 4000000
set_option maxRecDepth 4000

end Go.Pv

/- What functions of the program and of the reference do, in plain values. -/
namespace Go.Pv
open Go.Proofs Go.Mth
set_option linter.unusedSimpArgs false
set_option linter.unusedVariables false
set_option maxHeartbeats 4000000
set_option maxRecDepth 4000

/-! ### the laws' own functions: slices of numbers and of texts -/
theorem eq_step {α : Type} [Inhabited α] (xs ys : List α) (i : Nat) (hl : xs.length = ys.length) (hi : i < xs.length) (h : xs.take i = ys.take i) (he : xs.getD i default = ys.getD i default) : xs.take (i + 1) = ys.take (i + 1) := by
  rw [List.take_succ_eq_append_getElem hi, List.take_succ_eq_append_getElem (by omega), h]
  rw [List.getD_eq_getElem?_getD, List.getD_eq_getElem?_getD, List.getElem?_eq_getElem hi, List.getElem?_eq_getElem (by omega : i < ys.length)] at he
  exact congrArg (fun x => ys.take i ++ [x]) he
theorem row_step {α : Type} [Inhabited α] (xs : List α) (z : α) (n i : Nat) (hn : n = xs.length) (hi : i < n) : (xs.take i ++ List.replicate (n - i) z).set i (xs.getD i default) = xs.take (i + 1) ++ List.replicate (n - (i + 1)) z := by
  subst hn
  rw [show xs.length - i = (xs.length - (i + 1)) + 1 by omega, List.replicate_succ, List.take_succ_eq_append_getElem hi, List.set_append_right _ _ (by rw [List.length_take]; omega), List.length_take, Nat.min_eq_left (by omega), Nat.sub_self, List.set_cons_zero, List.append_assoc, List.getD_eq_getElem?_getD, List.getElem?_eq_getElem hi]
  rfl
theorem mark_step {α : Type} (f : Int → α) (xs : List α) (k : Int) (i : Nat) (hi : i < xs.length) : ((seqL i k).map f ++ xs.drop i).set i (f (k + i)) = (seqL (i + 1) k).map f ++ xs.drop (i + 1) := by
  rw [List.drop_eq_getElem_cons hi, List.set_append_right _ _ (by rw [List.length_map, seqL_length]; omega), List.length_map, seqL_length, Nat.sub_self, List.set_cons_zero, seqL_snoc, List.map_append, List.append_assoc]; rfl
theorem seqL_getD {α : Type} (f : Int → α) [Inhabited α] (n : Nat) (k : Int) (i : Nat) (hi : i < n) : ((seqL n k).map f).getD i default = f (k + i) := by
  have h := seqL_get n k i hi
  rw [rd, Int.toNat_natCast, List.getD_eq_getElem?_getD] at h
  have hl : i < (seqL n k).length := by rw [seqL_length]; exact hi
  rw [List.getElem?_eq_getElem hl] at h
  rw [List.getD_eq_getElem?_getD, List.getElem?_map, List.getElem?_eq_getElem hl]
  exact congrArg f h
theorem laws_eqStr (xs ys : List ByteArray) (hx : xs.length ≤ 4611686018427387904) : Fn Tryz.prog 47 [.far (xs.map .str), .far (ys.map .str)] [] (.bool (decide (xs = ys))) [] := by
  refine fn_x tok (n := 26) (rs := [.tmp 4]) Tryz.func47 (by decide) rfl rfl rfl rfl ?_
  refine Wr.go ?_
  repeat' ((first | (have ee := True.intro; refine Wr.mk ?_) | ((first | refine br_go ?_ ?_ | refine pick_go ?_ ?_) <;> intro ee f <;> (try simp only [BB] at f) <;> (try simp only [numOk, verOk] at f))) <;> (try simp (maxSteps := 1000000) (disch := first | omega | (simp only [LN, numOk, verOk] <;> omega) | exact Ck.mk rfl) only [ee, VC, T, Nat.reduceMul, Nat.reduceAdd, Nat.reduceSub, Nat.reduceLT, Nat.reduceEqDiff, Nat.reduceLeDiff, Nat.reduceBEq, reduceCtorEq, Int.reduceToNat, ↓reduceIte]) <;> (try clear ee))
  · have hl : xs.length = ys.length := by omega
    refine lp_go (fun i : Nat => ⟨26, [(0, .far (xs.map .str)), (1, .far (ys.map .str)), (5, .int .i64 i)], []⟩) (fun i => i ≤ xs.length ∧ xs.take i = ys.take i) (fun i => xs.length - i) 0 ?_ ⟨Nat.zero_le _, rfl⟩ ?_
    · (simp (disch := first | omega | (simp only [LN, numOk, verOk] <;> omega) | exact Ck.mk rfl) only [SB, EQ, Nat.reduceMul, Nat.reduceAdd, Nat.reduceSub, Nat.reduceLT, Nat.reduceEqDiff, Nat.reduceLeDiff, Nat.reduceBEq, reduceCtorEq, Int.reduceToNat, ↓reduceIte]; try omega)
    · rintro i ⟨h1, h2⟩ N hN
      refine Wr.go ?_
      repeat' ((first | (have ee := True.intro; refine Wr.mk ?_) | ((first | refine br_go ?_ ?_ | refine pick_go ?_ ?_) <;> intro ee f <;> (try simp only [BB] at f) <;> (try simp only [numOk, verOk] at f)) | (have ee := True.intro; first | refine dr_go mixed (id := 6) [([], [0], []), ([], [5], []), ([0, 1], [17, 18], []), ([0, 1, 2], [19], []), ([], [1], []), ([], [5], []), ([4, 5], [21, 22], []), ([4, 5, 6], [23], []), ([0, 1, 2, 3, 4, 5, 6, 7], [20, 24], [])] rfl rfl rfl ?_)) <;> (try simp (maxSteps := 1000000) (disch := first | omega | (simp only [LN, numOk, verOk] <;> omega) | exact Ck.mk rfl) only [ee, VC, T, Nat.reduceMul, Nat.reduceAdd, Nat.reduceSub, Nat.reduceLT, Nat.reduceEqDiff, Nat.reduceLeDiff, Nat.reduceBEq, reduceCtorEq, Int.reduceToNat, ↓reduceIte]) <;> (try clear ee))
      · refine hN (i + 1) _ ⟨by omega, eq_step xs ys i hl (by omega) h2 f⟩ (by omega) ?_
        (simp (disch := first | omega | (simp only [LN, numOk, verOk] <;> omega) | exact Ck.mk rfl) only [SB, EQ, Nat.reduceMul, Nat.reduceAdd, Nat.reduceSub, Nat.reduceLT, Nat.reduceEqDiff, Nat.reduceLeDiff, Nat.reduceBEq, reduceCtorEq, Int.reduceToNat, ↓reduceIte]; try omega)
      · rw [decide_eq_false fun h => f (by rw [h])]
      · rw [List.take_of_length_le (by omega), List.take_of_length_le (by omega)] at h2
        rw [decide_eq_true h2]
  · rw [decide_eq_false fun h => f (by rw [h])]
theorem laws_eqInt (xs ys : List Int) (hx : xs.length ≤ 4611686018427387904) : Fn Tryz.prog 48 [.far (xs.map (.int .i64)), .far (ys.map (.int .i64))] [] (.bool (decide (xs = ys))) [] := by
  refine fn_x tok (n := 26) (rs := [.tmp 4]) Tryz.func48 (by decide) rfl rfl rfl rfl ?_
  refine Wr.go ?_
  repeat' ((first | (have ee := True.intro; refine Wr.mk ?_) | ((first | refine br_go ?_ ?_ | refine pick_go ?_ ?_) <;> intro ee f <;> (try simp only [BB] at f) <;> (try simp only [numOk, verOk] at f))) <;> (try simp (maxSteps := 1000000) (disch := first | omega | (simp only [LN, numOk, verOk] <;> omega) | exact Ck.mk rfl) only [ee, VC, T, Nat.reduceMul, Nat.reduceAdd, Nat.reduceSub, Nat.reduceLT, Nat.reduceEqDiff, Nat.reduceLeDiff, Nat.reduceBEq, reduceCtorEq, Int.reduceToNat, ↓reduceIte]) <;> (try clear ee))
  · have hl : xs.length = ys.length := by omega
    refine lp_go (fun i : Nat => ⟨26, [(0, .far (xs.map (.int .i64))), (1, .far (ys.map (.int .i64))), (5, .int .i64 i)], []⟩) (fun i => i ≤ xs.length ∧ xs.take i = ys.take i) (fun i => xs.length - i) 0 ?_ ⟨Nat.zero_le _, rfl⟩ ?_
    · (simp (disch := first | omega | (simp only [LN, numOk, verOk] <;> omega) | exact Ck.mk rfl) only [SB, EQ, Nat.reduceMul, Nat.reduceAdd, Nat.reduceSub, Nat.reduceLT, Nat.reduceEqDiff, Nat.reduceLeDiff, Nat.reduceBEq, reduceCtorEq, Int.reduceToNat, ↓reduceIte]; try omega)
    · rintro i ⟨h1, h2⟩ N hN
      refine Wr.go ?_
      repeat' ((first | (have ee := True.intro; refine Wr.mk ?_) | ((first | refine br_go ?_ ?_ | refine pick_go ?_ ?_) <;> intro ee f <;> (try simp only [BB] at f) <;> (try simp only [numOk, verOk] at f)) | (have ee := True.intro; first | refine dr_go mixed (id := 6) [([], [0], []), ([], [5], []), ([0, 1], [17, 18], []), ([0, 1, 2], [19], []), ([], [1], []), ([], [5], []), ([4, 5], [21, 22], []), ([4, 5, 6], [23], []), ([0, 1, 2, 3, 4, 5, 6, 7], [20, 24], [])] rfl rfl rfl ?_)) <;> (try simp (maxSteps := 1000000) (disch := first | omega | (simp only [LN, numOk, verOk] <;> omega) | exact Ck.mk rfl) only [ee, VC, T, Nat.reduceMul, Nat.reduceAdd, Nat.reduceSub, Nat.reduceLT, Nat.reduceEqDiff, Nat.reduceLeDiff, Nat.reduceBEq, reduceCtorEq, Int.reduceToNat, ↓reduceIte]) <;> (try clear ee))
      · refine hN (i + 1) _ ⟨by omega, eq_step xs ys i hl (by omega) h2 f⟩ (by omega) ?_
        (simp (disch := first | omega | (simp only [LN, numOk, verOk] <;> omega) | exact Ck.mk rfl) only [SB, EQ, Nat.reduceMul, Nat.reduceAdd, Nat.reduceSub, Nat.reduceLT, Nat.reduceEqDiff, Nat.reduceLeDiff, Nat.reduceBEq, reduceCtorEq, Int.reduceToNat, ↓reduceIte]; try omega)
      · rw [decide_eq_false fun h => f (by rw [h])]
      · rw [List.take_of_length_le (by omega), List.take_of_length_le (by omega)] at h2
        rw [decide_eq_true h2]
  · rw [decide_eq_false fun h => f (by rw [h])]
theorem laws_toStr_R (xs : List ByteArray) (hx : xs.length ≤ 1073741824) : FnE Tryz.prog 34 [.far (xs.map .str)] [] (fun r m => r = .row 64 xs.length ∧ m = [(64, .row ⟨1, 0⟩ (xs.map .str))]) := by
  refine fn_e tok (n := 22) (rs := [.tmp 2]) Tryz.func34 (by decide) rfl rfl rfl rfl (low_of rfl) ?_
  refine Wr.go ?_
  repeat' ((first | (have ee := True.intro; refine Wr.mk ?_) | ((first | refine br_go ?_ ?_ | refine pick_go ?_ ?_) <;> intro ee f <;> (try simp only [BB] at f) <;> (try simp only [numOk, verOk] at f))) <;> (try simp (maxSteps := 1000000) (disch := first | omega | (simp only [LN, numOk, verOk] <;> omega) | exact Ck.mk rfl) only [ee, VC, T, Nat.reduceMul, Nat.reduceAdd, Nat.reduceSub, Nat.reduceLT, Nat.reduceEqDiff, Nat.reduceLeDiff, Nat.reduceBEq, reduceCtorEq, Int.reduceToNat, ↓reduceIte]) <;> (try clear ee))
  refine lp_go (fun i : Nat => ⟨22, [(0, .far (xs.map .str)), (3, .row 512 xs.length), (4, .int .i64 i)], [(512, .row ⟨1, 0⟩ ((xs.take i ++ List.replicate (xs.length - i) (⟨#[]⟩ : ByteArray)).map .str))]⟩) (fun i => i ≤ xs.length) (fun i => xs.length - i) 0 ?_ (Nat.zero_le _) ?_
  · (simp (disch := first | omega | (simp only [LN, numOk, verOk] <;> omega) | exact Ck.mk rfl) only [SB, EQ, Nat.reduceMul, Nat.reduceAdd, Nat.reduceSub, Nat.reduceLT, Nat.reduceEqDiff, Nat.reduceLeDiff, Nat.reduceBEq, reduceCtorEq, Int.reduceToNat, ↓reduceIte]; try omega)
    first | (simp; done) | (simp; exact .inr rfl)
  · intro i hi N hN
    have hs := row_step xs (⟨#[]⟩ : ByteArray) xs.length i rfl
    have hln : (xs.take i ++ List.replicate (xs.length - i) (⟨#[]⟩ : ByteArray)).length = xs.length := by rw [List.length_append, List.length_take, List.length_replicate]; omega
    refine Wr.go ?_
    repeat' ((first | (have ee := True.intro; refine Wr.mk ?_) | ((first | refine br_go ?_ ?_ | refine pick_go ?_ ?_) <;> intro ee f <;> (try simp only [BB] at f) <;> (try simp only [numOk, verOk] at f))) <;> (try simp (maxSteps := 1000000) (disch := first | omega | (simp only [LN, numOk, verOk, hln, hs] <;> omega) | exact Ck.mk rfl) only [ee, VC, T, Nat.reduceMul, Nat.reduceAdd, Nat.reduceSub, Nat.reduceLT, Nat.reduceEqDiff, Nat.reduceLeDiff, Nat.reduceBEq, reduceCtorEq, Int.reduceToNat, ↓reduceIte, hln, hs]) <;> (try clear ee))
    · refine hN (i + 1) _ (by omega) (by omega) ?_
      (simp (disch := first | omega | (simp only [LN, numOk, verOk] <;> omega) | exact Ck.mk rfl) only [SB, EQ, Nat.reduceMul, Nat.reduceAdd, Nat.reduceSub, Nat.reduceLT, Nat.reduceEqDiff, Nat.reduceLeDiff, Nat.reduceBEq, reduceCtorEq, Int.reduceToNat, ↓reduceIte]; try omega)
    · obtain rfl : i = xs.length := by omega
      exact fin_t [some 512] (⟨rfl, rfl⟩) rfl (by simp [RV, RV2, RVl, RV1, tau, tget, hget, data1, oneOf]) (by simp [RH, RVl, RV1, tau, hget, data1]) (by simp [Taus, hget])
theorem laws_toInt_R (xs : List Int) (hx : xs.length ≤ 1073741824) : FnE Tryz.prog 35 [.far (xs.map (.int .i64))] [] (fun r m => r = .row 64 xs.length ∧ m = [(64, .row ⟨1, 0⟩ (xs.map (.int .i64)))]) := by
  refine fn_e tok (n := 22) (rs := [.tmp 2]) Tryz.func35 (by decide) rfl rfl rfl rfl (low_of rfl) ?_
  refine Wr.go ?_
  repeat' ((first | (have ee := True.intro; refine Wr.mk ?_) | ((first | refine br_go ?_ ?_ | refine pick_go ?_ ?_) <;> intro ee f <;> (try simp only [BB] at f) <;> (try simp only [numOk, verOk] at f))) <;> (try simp (maxSteps := 1000000) (disch := first | omega | (simp only [LN, numOk, verOk] <;> omega) | exact Ck.mk rfl) only [ee, VC, T, Nat.reduceMul, Nat.reduceAdd, Nat.reduceSub, Nat.reduceLT, Nat.reduceEqDiff, Nat.reduceLeDiff, Nat.reduceBEq, reduceCtorEq, Int.reduceToNat, ↓reduceIte]) <;> (try clear ee))
  refine lp_go (fun i : Nat => ⟨22, [(0, .far (xs.map (.int .i64))), (3, .row 512 xs.length), (4, .int .i64 i)], [(512, .row ⟨1, 0⟩ ((xs.take i ++ List.replicate (xs.length - i) (0 : Int)).map (.int .i64)))]⟩) (fun i => i ≤ xs.length) (fun i => xs.length - i) 0 ?_ (Nat.zero_le _) ?_
  · (simp (disch := first | omega | (simp only [LN, numOk, verOk] <;> omega) | exact Ck.mk rfl) only [SB, EQ, Nat.reduceMul, Nat.reduceAdd, Nat.reduceSub, Nat.reduceLT, Nat.reduceEqDiff, Nat.reduceLeDiff, Nat.reduceBEq, reduceCtorEq, Int.reduceToNat, ↓reduceIte]; try omega)
    first | (simp; done) | (simp; exact .inr rfl)
  · intro i hi N hN
    have hs := row_step xs (0 : Int) xs.length i rfl
    have hln : (xs.take i ++ List.replicate (xs.length - i) (0 : Int)).length = xs.length := by rw [List.length_append, List.length_take, List.length_replicate]; omega
    refine Wr.go ?_
    repeat' ((first | (have ee := True.intro; refine Wr.mk ?_) | ((first | refine br_go ?_ ?_ | refine pick_go ?_ ?_) <;> intro ee f <;> (try simp only [BB] at f) <;> (try simp only [numOk, verOk] at f))) <;> (try simp (maxSteps := 1000000) (disch := first | omega | (simp only [LN, numOk, verOk, hln, hs] <;> omega) | exact Ck.mk rfl) only [ee, VC, T, Nat.reduceMul, Nat.reduceAdd, Nat.reduceSub, Nat.reduceLT, Nat.reduceEqDiff, Nat.reduceLeDiff, Nat.reduceBEq, reduceCtorEq, Int.reduceToNat, ↓reduceIte, hln, hs]) <;> (try clear ee))
    · refine hN (i + 1) _ (by omega) (by omega) ?_
      (simp (disch := first | omega | (simp only [LN, numOk, verOk] <;> omega) | exact Ck.mk rfl) only [SB, EQ, Nat.reduceMul, Nat.reduceAdd, Nat.reduceSub, Nat.reduceLT, Nat.reduceEqDiff, Nat.reduceLeDiff, Nat.reduceBEq, reduceCtorEq, Int.reduceToNat, ↓reduceIte]; try omega)
    · obtain rfl : i = xs.length := by omega
      exact fin_t [some 512] (⟨rfl, rfl⟩) rfl (by simp [RV, RV2, RVl, RV1, tau, tget, hget, data1, oneOf]) (by simp [RH, RVl, RV1, tau, hget, data1]) (by simp [Taus, hget])
end Go.Pv

/- What functions of the program and of the reference do, in plain values. -/
namespace Go.Pv
open Go.Proofs Go.Mth
set_option linter.unusedSimpArgs false
set_option linter.unusedVariables false
set_option maxHeartbeats 4000000
set_option maxRecDepth 4000

/-! ### laws over slices: how much there is, heads -/
def sumSz (l : List ByteArray) : Int := l.foldr (fun s n => (s.size : Int) + n) 0
theorem sumSz_nil : sumSz [] = 0 := rfl
theorem sumSz_cons (s : ByteArray) (l : List ByteArray) : sumSz (s :: l) = s.size + sumSz l := rfl
theorem sumSz_pos (l : List ByteArray) : 0 ≤ sumSz l := by
  induction l with
  | nil => exact Int.le_refl _
  | cons s l ih => rw [sumSz_cons]; omega
theorem sumSz_mem : ∀ {l : List ByteArray} {s : ByteArray}, s ∈ l → (s.size : Int) ≤ sumSz l
  | x :: l, s, h => by
    rw [sumSz_cons]
    rcases List.mem_cons.1 h with rfl | h
    · have := sumSz_pos l; omega
    · have := sumSz_mem h; omega
theorem sumSz_drop (l : List ByteArray) (i : Nat) (h : i < l.length) : sumSz (l.drop i) = (l.getD i default).size + sumSz (l.drop (i + 1)) := by
  rw [List.drop_eq_getElem_cons h, List.getD_eq_getElem?_getD, List.getElem?_eq_getElem h]; rfl
/-- What is left, if anything is. -/
theorem laws_szStringS (xs : List ByteArray) (n : Int) (hn : 0 ≤ n ∧ n ≤ 1048576) (hx : xs.length ≤ 9223372036854775807) (hs : ∀ s ∈ xs, s.size ≤ 9223372036854775807) : FnV Tryz.prog 21 [.far (xs.map .str), .int .i64 n] (fun r => ∃ m : Int, r = .int .i64 m ∧ (0 ≤ m → m = n - xs.length - sumSz xs) ∧ -1 ≤ m ∧ m ≤ n) := by
  refine fn_v tok (n := 28) (rs := [.tmp 4]) Tryz.func21 (by decide) rfl rfl rfl rfl ?_
  refine Wr.go ?_
  repeat' ((first | (have ee := True.intro; refine Wr.mk ?_) | ((first | refine br_go ?_ ?_ | refine pick_go ?_ ?_) <;> intro ee f <;> (try simp only [BB] at f) <;> (try simp only [numOk, verOk] at f))) <;> (try simp (maxSteps := 1000000) (disch := first | omega | (simp only [LN, numOk, verOk, rfP, rvP, rhP, frP] <;> omega) | exact Ck.mk rfl) only [ee, VC, T, Nat.reduceMul, Nat.reduceAdd, Nat.reduceSub, Nat.reduceLT, Nat.reduceEqDiff, Nat.reduceLeDiff, Nat.reduceBEq, reduceCtorEq, Int.reduceToNat, ↓reduceIte, rfP, rvP, rhP, frP]) <;> (try clear ee))
  · exact ⟨-1, rfl, fun h => by omega, by omega, by omega⟩
  · refine lp_go (fun x : Nat × Int => ⟨28, [(0, .far (xs.map .str)), (1, .int .i64 x.2), (5, .int .i64 x.1)], []⟩) (fun x => x.1 ≤ xs.length ∧ (0 ≤ x.2 ∧ x.2 ≤ n) ∧ n - xs.length - sumSz xs = x.2 - sumSz (xs.drop x.1)) (fun x => xs.length - x.1) (0, n - xs.length) ?_ ⟨Nat.zero_le _, by simp only; omega, rfl⟩ ?_
    · (simp (disch := first | omega | (simp only [LN, numOk, verOk] <;> omega) | exact Ck.mk rfl) only [SB, EQ, Nat.reduceMul, Nat.reduceAdd, Nat.reduceSub, Nat.reduceLT, Nat.reduceEqDiff, Nat.reduceLeDiff, Nat.reduceBEq, reduceCtorEq, Int.reduceToNat, ↓reduceIte]; try omega)
    · rintro ⟨i, m⟩ ⟨h1, h2, h3⟩ N hN
      simp only at h1 h2 h3
      have hd := sumSz_drop xs i
      have hz : i < xs.length → (xs.getD i default).size ≤ 9223372036854775807 := fun h => hs _ (getD_mem _ _ h)
      have hp := sumSz_pos (xs.drop (i + 1))
      refine Wr.go ?_
      repeat' ((first | (have ee := True.intro; refine Wr.mk ?_) | ((first | refine br_go ?_ ?_ | refine pick_go ?_ ?_) <;> intro ee f <;> (try simp only [BB] at f) <;> (try simp only [numOk, verOk] at f))) <;> (try simp (maxSteps := 1000000) (disch := first | omega | (simp only [LN, numOk, verOk, rfP, rvP, rhP, frP] <;> omega) | exact Ck.mk rfl) only [ee, VC, T, Nat.reduceMul, Nat.reduceAdd, Nat.reduceSub, Nat.reduceLT, Nat.reduceEqDiff, Nat.reduceLeDiff, Nat.reduceBEq, reduceCtorEq, Int.reduceToNat, ↓reduceIte, rfP, rvP, rhP, frP]) <;> (try clear ee))
      · exact ⟨-1, rfl, fun h => by omega, by omega, by omega⟩
      · refine hN (i + 1, m - (xs.getD i default).size) _ ⟨by simp only; omega, ⟨by simp only; omega, by simp only; omega⟩, by simp only; have := hd (by omega); omega⟩ (by simp only; omega) ?_
        (simp (disch := first | omega | (simp only [LN, numOk, verOk] <;> omega) | exact Ck.mk rfl) only [SB, EQ, Nat.reduceMul, Nat.reduceAdd, Nat.reduceSub, Nat.reduceLT, Nat.reduceEqDiff, Nat.reduceLeDiff, Nat.reduceBEq, reduceCtorEq, Int.reduceToNat, ↓reduceIte]; try omega)
      · rw [List.drop_eq_nil_of_le (by omega), sumSz_nil] at h3
        exact ⟨m, rfl, fun _ => by omega, by omega, by omega⟩
end Go.Pv

/- What functions of the program and of the reference do, in plain values. -/
namespace Go.Pv
open Go.Proofs Go.Mth
set_option linter.unusedSimpArgs false
set_option linter.unusedVariables false
set_option maxHeartbeats 4000000
set_option maxRecDepth 4000

/-! ### the laws' own functions: marks -/
/-- The decimal figures of a number, ahead of what is there. -/
def digs : Nat → Nat → ByteArray → ByteArray
  | 0, _, o => o
  | d + 1, k, o => if k = 0 then o else digs d (k / 10) (strOf [48 + ((k % 10 : Nat) : Int)] ++ o)
def markT (k : Int) : ByteArray := if k ≤ 0 then ⟨#[109, 48]⟩ else ⟨#[109]⟩ ++ digs 20 k.toNat ⟨#[]⟩
theorem laws_markText (k : Int) (hk : k ≤ 9223372036854775807) : Fn Tryz.prog 97 [.int .i64 k] [] (.str (markT k)) [] := by
  refine fn_x tok (n := 20) (rs := [.tmp 2]) Tryz.func97 (by decide) rfl rfl rfl rfl ?_
  refine Wr.go ?_
  repeat' ((first | (have ee := True.intro; refine Wr.mk ?_) | ((first | refine br_go ?_ ?_ | refine pick_go ?_ ?_) <;> intro ee f <;> (try simp only [BB] at f) <;> (try simp only [numOk, verOk] at f))) <;> (try simp (maxSteps := 1000000) (disch := first | omega | (simp only [LN, numOk, verOk, rfP, rvP, rhP, frP] <;> omega) | exact Ck.mk rfl) only [ee, VC, T, Nat.reduceMul, Nat.reduceAdd, Nat.reduceSub, Nat.reduceLT, Nat.reduceEqDiff, Nat.reduceLeDiff, Nat.reduceBEq, reduceCtorEq, Int.reduceToNat, ↓reduceIte, rfP, rvP, rhP, frP]) <;> (try clear ee))
  · unfold markT; rw [if_pos f]
  · unfold markT
    rw [if_neg (by omega)]
    obtain ⟨n, rfl⟩ := Int.eq_ofNat_of_zero_le (show 0 ≤ k by omega)
    refine lp_go (fun x : Nat × Nat × ByteArray => ⟨20, [(0, .int .i64 x.2.1), (3, .str x.2.2)], []⟩) (fun x => (x.2.1 < 10 ^ x.1 ∧ x.2.1 ≤ n) ∧ x.2.2.size + x.1 ≤ 20 ∧ digs 20 n ⟨#[]⟩ = digs x.1 x.2.1 x.2.2) (fun x => x.2.1) (20, n, ⟨#[]⟩) ?_ ⟨⟨by simp only; omega, Nat.le_refl _⟩, Nat.le_refl _, rfl⟩ ?_
    · (simp (disch := first | omega | (simp only [LN, numOk, verOk] <;> omega) | exact Ck.mk rfl) only [SB, EQ, Nat.reduceMul, Nat.reduceAdd, Nat.reduceSub, Nat.reduceLT, Nat.reduceEqDiff, Nat.reduceLeDiff, Nat.reduceBEq, reduceCtorEq, Int.reduceToNat, ↓reduceIte]; try omega)
    · rintro ⟨d, m, o⟩ ⟨h1, h2, h3⟩ N hN
      simp only at h1 h2 h3
      have e1 : (m : Int).tmod 10 = ((m % 10 : Nat) : Int) := by rw [Int.tmod_eq_emod_of_nonneg (by omega)]; omega
      have e2 : (m : Int).tdiv 10 = ((m / 10 : Nat) : Int) := by rw [Int.tdiv_eq_ediv_of_nonneg (by omega)]; omega
      have e3 : (48 + ((m % 10 : Nat) : Int)) % 256 = 48 + ((m % 10 : Nat) : Int) := by omega
      have e4 : ∀ z : Int, strP [.int .u8 z] = strOf [z] := fun z => rfl
      have e5 : (∀ z ∈ [PV.int .u8 (48 + ((m % 10 : Nat) : Int))], isByte z) = True := eq_true fun z hz => by rw [List.mem_singleton.1 hz]; exact ⟨by omega, by omega⟩
      have hz := strOf_size [48 + ((m % 10 : Nat) : Int)]
      have hm : 0 < m → ∃ e, d = e + 1 := fun h => by
        cases d with
        | zero => simp at h1; omega
        | succ e => exact ⟨e, rfl⟩
      refine Wr.go ?_
      repeat' ((first | (have ee := True.intro; refine Wr.mk ?_) | ((first | refine br_go ?_ ?_ | refine pick_go ?_ ?_) <;> intro ee f <;> (try simp only [BB] at f) <;> (try simp only [numOk, verOk] at f))) <;> (try simp (maxSteps := 1000000) (disch := first | omega | (simp only [LN, numOk, verOk, rfP, rvP, rhP, frP, e1, e2, e3, e4, e5, hz] <;> omega) | exact Ck.mk rfl) only [ee, VC, T, Nat.reduceMul, Nat.reduceAdd, Nat.reduceSub, Nat.reduceLT, Nat.reduceEqDiff, Nat.reduceLeDiff, Nat.reduceBEq, reduceCtorEq, Int.reduceToNat, ↓reduceIte, rfP, rvP, rhP, frP, e1, e2, e3, e4, e5, hz]) <;> (try clear ee))
      · obtain ⟨e, rfl⟩ := hm (by omega)
        refine hN (e, m / 10, strOf [48 + ((m % 10 : Nat) : Int)] ++ o) _ ⟨⟨by simp only; rw [Nat.pow_succ] at h1; omega, by simp only; omega⟩, by simp only [ByteArray.size_append]; rw [hz, List.length_singleton]; omega, ?_⟩ (by simp only; omega) ?_
        · rw [h3]
          show (if m = 0 then o else _) = _
          rw [if_neg (by omega)]
        · (simp (disch := first | omega | (simp only [LN, numOk, verOk] <;> omega) | exact Ck.mk rfl) only [SB, EQ, Nat.reduceMul, Nat.reduceAdd, Nat.reduceSub, Nat.reduceLT, Nat.reduceEqDiff, Nat.reduceLeDiff, Nat.reduceBEq, reduceCtorEq, Int.reduceToNat, ↓reduceIte]; try omega)
      · obtain rfl : m = 0 := by omega
        rw [h3]
        cases d <;> rfl
theorem mark_step1 (xs : List Int) (k : Int) (i : Nat) (hi : i < xs.length) : (seqL i k ++ xs.drop i).set i (k + i) = seqL (i + 1) k ++ xs.drop (i + 1) := by
  have := mark_step (fun x => x) xs k i hi
  simpa using this
theorem laws_markIntS (xs : List Int) (k : Int) (hx : xs.length ≤ 1073741824) (hk : 0 ≤ k ∧ k ≤ 1099511627776) (t : TypeId) : FnE Tryz.prog 52 [.row 0 xs.length, .int .i64 k] [(0, .row ⟨1, t⟩ (xs.map (.int .i64)))] (fun r m => r = .int .i64 (k + xs.length) ∧ m = [(0, .row ⟨1, t⟩ ((seqL xs.length k).map (.int .i64)))]) := by
  refine fn_e tok (n := 19) (rs := [.tmp 4]) Tryz.func52 (by decide) rfl rfl rfl rfl (low_of rfl) ?_
  refine Wr.go ?_
  repeat' ((first | (have ee := True.intro; refine Wr.mk ?_) | ((first | refine br_go ?_ ?_ | refine pick_go ?_ ?_) <;> intro ee f <;> (try simp only [BB] at f) <;> (try simp only [numOk, verOk] at f))) <;> (try simp (maxSteps := 1000000) (disch := first | omega | (simp only [LN, numOk, verOk, rfP, rvP, rhP, frP] <;> omega) | exact Ck.mk rfl) only [ee, VC, T, Nat.reduceMul, Nat.reduceAdd, Nat.reduceSub, Nat.reduceLT, Nat.reduceEqDiff, Nat.reduceLeDiff, Nat.reduceBEq, reduceCtorEq, Int.reduceToNat, ↓reduceIte, rfP, rvP, rhP, frP]) <;> (try clear ee))
  refine lp_go (fun i : Nat => ⟨19, [(0, .row 0 xs.length), (1, .int .i64 (k + i)), (5, .int .i64 i)], [(0, .row ⟨1, t⟩ ((seqL i k ++ xs.drop i).map (.int .i64)))]⟩) (fun i => i ≤ xs.length) (fun i => xs.length - i) 0 ?_ (Nat.zero_le _) ?_
  · (simp (disch := first | omega | (simp only [LN, numOk, verOk] <;> omega) | exact Ck.mk rfl) only [SB, EQ, Nat.reduceMul, Nat.reduceAdd, Nat.reduceSub, Nat.reduceLT, Nat.reduceEqDiff, Nat.reduceLeDiff, Nat.reduceBEq, reduceCtorEq, Int.reduceToNat, ↓reduceIte]; try omega)
    simp [seqL]
  · intro i hi N hN
    have hln : (seqL i k ++ xs.drop i).length = xs.length := by rw [List.length_append, seqL_length, List.length_drop]; omega
    have hm := mark_step1 xs k i
    refine Wr.go ?_
    repeat' ((first | (have ee := True.intro; refine Wr.mk ?_) | ((first | refine br_go ?_ ?_ | refine pick_go ?_ ?_) <;> intro ee f <;> (try simp only [BB] at f) <;> (try simp only [numOk, verOk] at f))) <;> (try simp (maxSteps := 1000000) (disch := first | omega | (simp only [LN, numOk, verOk, rfP, rvP, rhP, frP, hln, hm] <;> omega) | exact Ck.mk rfl) only [ee, VC, T, Nat.reduceMul, Nat.reduceAdd, Nat.reduceSub, Nat.reduceLT, Nat.reduceEqDiff, Nat.reduceLeDiff, Nat.reduceBEq, reduceCtorEq, Int.reduceToNat, ↓reduceIte, rfP, rvP, rhP, frP, hln, hm]) <;> (try clear ee))
    · refine hN (i + 1) _ (by omega) (by omega) ?_
      (simp (disch := first | omega | (simp only [LN, numOk, verOk] <;> omega) | exact Ck.mk rfl) only [SB, EQ, Nat.reduceMul, Nat.reduceAdd, Nat.reduceSub, Nat.reduceLT, Nat.reduceEqDiff, Nat.reduceLeDiff, Nat.reduceBEq, reduceCtorEq, Int.reduceToNat, ↓reduceIte]; try omega)
    · obtain rfl : i = xs.length := by omega
      exact fin_t [] (⟨rfl, rfl⟩) rfl (by simp [RV, RV2, RVl, RV1, tau, tget, hget, data1, oneOf]) (by simp [RH, RVl, RV1, tau, hget, data1]) (by simp [Taus, hget])
theorem laws_markStringS (xs : List ByteArray) (k : Int) (hx : xs.length ≤ 1073741824) (hk : 0 ≤ k ∧ k ≤ 1099511627776) (t : TypeId) : FnE Tryz.prog 51 [.row 0 xs.length, .int .i64 k] [(0, .row ⟨1, t⟩ (xs.map .str))] (fun r m => r = .int .i64 (k + xs.length) ∧ m = [(0, .row ⟨1, t⟩ (((seqL xs.length k).map markT).map .str))]) := by
  refine fn_e tok (n := 20) (rs := [.tmp 4]) Tryz.func51 (by decide) rfl rfl rfl rfl (low_of rfl) ?_
  refine Wr.go ?_
  repeat' ((first | (have ee := True.intro; refine Wr.mk ?_) | ((first | refine br_go ?_ ?_ | refine pick_go ?_ ?_) <;> intro ee f <;> (try simp only [BB] at f) <;> (try simp only [numOk, verOk] at f))) <;> (try simp (maxSteps := 1000000) (disch := first | omega | (simp only [LN, numOk, verOk, rfP, rvP, rhP, frP] <;> omega) | exact Ck.mk rfl) only [ee, VC, T, Nat.reduceMul, Nat.reduceAdd, Nat.reduceSub, Nat.reduceLT, Nat.reduceEqDiff, Nat.reduceLeDiff, Nat.reduceBEq, reduceCtorEq, Int.reduceToNat, ↓reduceIte, rfP, rvP, rhP, frP]) <;> (try clear ee))
  refine lp_go (fun i : Nat => ⟨20, [(0, .row 0 xs.length), (1, .int .i64 (k + i)), (5, .int .i64 i)], [(0, .row ⟨1, t⟩ (((seqL i k).map markT ++ xs.drop i).map .str))]⟩) (fun i => i ≤ xs.length) (fun i => xs.length - i) 0 ?_ (Nat.zero_le _) ?_
  · (simp (disch := first | omega | (simp only [LN, numOk, verOk] <;> omega) | exact Ck.mk rfl) only [SB, EQ, Nat.reduceMul, Nat.reduceAdd, Nat.reduceSub, Nat.reduceLT, Nat.reduceEqDiff, Nat.reduceLeDiff, Nat.reduceBEq, reduceCtorEq, Int.reduceToNat, ↓reduceIte]; try omega)
    simp [seqL]
  · intro i hi N hN
    have hln : ((seqL i k).map markT ++ xs.drop i).length = xs.length := by rw [List.length_append, List.length_map, seqL_length, List.length_drop]; omega
    have hm := mark_step markT xs k i
    refine Wr.go ?_
    repeat' ((first | (have ee := True.intro; refine Wr.mk ?_) | ((first | refine br_go ?_ ?_ | refine pick_go ?_ ?_) <;> intro ee f <;> (try simp only [BB] at f) <;> (try simp only [numOk, verOk] at f)) | (have ee := True.intro; first | refine call_x (laws_markText _ (by omega)) rfl ⟨rfl⟩ ?_)) <;> (try simp (maxSteps := 1000000) (disch := first | omega | (simp only [LN, numOk, verOk, rfP, rvP, rhP, frP, hln, hm] <;> omega) | exact Ck.mk rfl) only [ee, VC, T, Nat.reduceMul, Nat.reduceAdd, Nat.reduceSub, Nat.reduceLT, Nat.reduceEqDiff, Nat.reduceLeDiff, Nat.reduceBEq, reduceCtorEq, Int.reduceToNat, ↓reduceIte, rfP, rvP, rhP, frP, hln, hm]) <;> (try clear ee))
    · refine hN (i + 1) _ (by omega) (by omega) ?_
      (simp (disch := first | omega | (simp only [LN, numOk, verOk] <;> omega) | exact Ck.mk rfl) only [SB, EQ, Nat.reduceMul, Nat.reduceAdd, Nat.reduceSub, Nat.reduceLT, Nat.reduceEqDiff, Nat.reduceLeDiff, Nat.reduceBEq, reduceCtorEq, Int.reduceToNat, ↓reduceIte]; try omega)
    · obtain rfl : i = xs.length := by omega
      exact fin_t [] (⟨rfl, rfl⟩) rfl (by simp [RV, RV2, RVl, RV1, tau, tget, hget, data1, oneOf]) (by simp [RH, RVl, RV1, tau, hget, data1]) (by simp [Taus, hget])
theorem laws_heldStringS (n : Nat) (k : Int) (hx : n ≤ 1073741824) (hk : 0 ≤ k ∧ k ≤ 1099511627776) : Fn Tryz.prog 55 [.far (((seqL n k).map markT).map .str), .int .i64 k] [] (.int .i64 (k + n)) [] := by
  have hl := seqL_length n k
  refine fn_x tok (n := 22) (rs := [.tmp 4]) Tryz.func55 (by decide) rfl rfl rfl rfl ?_
  refine Wr.go ?_
  repeat' ((first | (have ee := True.intro; refine Wr.mk ?_) | ((first | refine br_go ?_ ?_ | refine pick_go ?_ ?_) <;> intro ee f <;> (try simp only [BB] at f) <;> (try simp only [numOk, verOk] at f))) <;> (try simp (maxSteps := 1000000) (disch := first | omega | (simp only [LN, numOk, verOk, rfP, rvP, rhP, frP, hl] <;> omega) | exact Ck.mk rfl) only [ee, VC, T, Nat.reduceMul, Nat.reduceAdd, Nat.reduceSub, Nat.reduceLT, Nat.reduceEqDiff, Nat.reduceLeDiff, Nat.reduceBEq, reduceCtorEq, Int.reduceToNat, ↓reduceIte, rfP, rvP, rhP, frP, hl]) <;> (try clear ee))
  refine lp_go (fun i : Nat => ⟨22, [(0, .far (((seqL n k).map markT).map .str)), (1, .int .i64 (k + i)), (5, .int .i64 i)], []⟩) (fun i => i ≤ n) (fun i => n - i) 0 ?_ (Nat.zero_le _) ?_
  · (simp (disch := first | omega | (simp only [LN, numOk, verOk] <;> omega) | exact Ck.mk rfl) only [SB, EQ, Nat.reduceMul, Nat.reduceAdd, Nat.reduceSub, Nat.reduceLT, Nat.reduceEqDiff, Nat.reduceLeDiff, Nat.reduceBEq, reduceCtorEq, Int.reduceToNat, ↓reduceIte]; try omega)
  · intro i hi N hN
    have hg : i < n → ((seqL n k).map markT).getD i default = markT (k + i) := seqL_getD markT n k i
    refine Wr.go ?_
    repeat' ((first | (have ee := True.intro; refine Wr.mk ?_) | ((first | refine br_go ?_ ?_ | refine pick_go ?_ ?_) <;> intro ee f <;> (try simp only [BB] at f) <;> (try simp only [numOk, verOk] at f)) | (have ee := True.intro; first | refine dr_go mixed (id := 4) [([], [0], []), ([], [5], []), ([0, 1], [12, 13], []), ([0, 1, 2], [14], []), ([], [1], []), ([4], [16], []), ([0, 1, 2, 3, 4, 5], [15, 17], [])] rfl rfl rfl ?_ | refine call_x (laws_markText _ (by omega)) rfl ⟨rfl⟩ ?_)) <;> (try simp (maxSteps := 1000000) (disch := first | omega | (simp only [LN, numOk, verOk, rfP, rvP, rhP, frP, hl, hg] <;> omega) | exact Ck.mk rfl) only [ee, VC, T, Nat.reduceMul, Nat.reduceAdd, Nat.reduceSub, Nat.reduceLT, Nat.reduceEqDiff, Nat.reduceLeDiff, Nat.reduceBEq, reduceCtorEq, Int.reduceToNat, ↓reduceIte, rfP, rvP, rhP, frP, hl, hg]) <;> (try clear ee))
    · refine hN (i + 1) _ (by omega) (by omega) ?_
      (simp (disch := first | omega | (simp only [LN, numOk, verOk] <;> omega) | exact Ck.mk rfl) only [SB, EQ, Nat.reduceMul, Nat.reduceAdd, Nat.reduceSub, Nat.reduceLT, Nat.reduceEqDiff, Nat.reduceLeDiff, Nat.reduceBEq, reduceCtorEq, Int.reduceToNat, ↓reduceIte]; try omega)
    · obtain rfl : i = n := by omega
      rfl
end Go.Pv

/- What functions of the program and of the reference do, in plain values. -/
namespace Go.Pv
open Go.Proofs Go.Mth
set_option linter.unusedSimpArgs false
set_option linter.unusedVariables false
set_option maxHeartbeats 4000000
set_option maxRecDepth 4000

/-! ### the laws' own functions: nodes, entries, disks -/
theorem laws_toNode (a : Int) (b : ByteArray) (c : Int) : Fn Tryz.prog 74 [.agg [.int .i64 a, .str b, .int .i64 c]] [] (.agg [.int .i64 a, .str b, .int .i64 c]) [] := by
  refine fn_x tok (n := 14) (rs := [.cell 2 93]) Tryz.func74 (by decide) rfl rfl rfl rfl ?_
  refine Wr.go ?_
  repeat' ((first | (have ee := True.intro; refine Wr.mk ?_) | ((first | refine br_go ?_ ?_ | refine pick_go ?_ ?_) <;> intro ee f <;> (try simp only [BB] at f) <;> (try simp only [numOk, verOk] at f))) <;> (try simp (maxSteps := 1000000) (disch := first | omega | (simp only [LN, numOk, verOk, rfP, rvP, rhP, frP] <;> omega) | exact Ck.mk rfl) only [ee, VC, T, Nat.reduceMul, Nat.reduceAdd, Nat.reduceSub, Nat.reduceLT, Nat.reduceEqDiff, Nat.reduceLeDiff, Nat.reduceBEq, reduceCtorEq, Int.reduceToNat, ↓reduceIte, rfP, rvP, rhP, frP]) <;> (try clear ee))
theorem laws_toEntry (a : ByteArray) (b : Int) : Fn Tryz.prog 75 [.agg [.str a, .int .i64 b]] [] (.agg [.str a, .int .i64 b]) [] := by
  refine fn_x tok (n := 11) (rs := [.cell 2 101]) Tryz.func75 (by decide) rfl rfl rfl rfl ?_
  refine Wr.go ?_
  repeat' ((first | (have ee := True.intro; refine Wr.mk ?_) | ((first | refine br_go ?_ ?_ | refine pick_go ?_ ?_) <;> intro ee f <;> (try simp only [BB] at f) <;> (try simp only [numOk, verOk] at f))) <;> (try simp (maxSteps := 1000000) (disch := first | omega | (simp only [LN, numOk, verOk, rfP, rvP, rhP, frP] <;> omega) | exact Ck.mk rfl) only [ee, VC, T, Nat.reduceMul, Nat.reduceAdd, Nat.reduceSub, Nat.reduceLT, Nat.reduceEqDiff, Nat.reduceLeDiff, Nat.reduceBEq, reduceCtorEq, Int.reduceToNat, ↓reduceIte, rfP, rvP, rhP, frP]) <;> (try clear ee))
theorem laws_eqNode (x y : Nd) : Fn Tryz.prog 95 [ndP x, ndP y] [] (.bool (decide (x = y))) [] := by
  obtain ⟨a, b, c⟩ := x
  obtain ⟨d, e, g⟩ := y
  unfold ndP
  refine fn_x tok (n := 20) (rs := [.tmp 4]) Tryz.func95 (by decide) rfl rfl rfl rfl ?_
  refine Wr.go ?_
  repeat' ((first | (have ee := True.intro; refine Wr.mk ?_) | ((first | refine br_go ?_ ?_ | refine pick_go ?_ ?_) <;> intro ee f <;> (try simp only [BB] at f) <;> (try simp only [numOk, verOk] at f))) <;> (try simp (maxSteps := 1000000) (disch := first | omega | (simp only [LN, numOk, verOk, rfP, rvP, rhP, frP] <;> omega) | exact Ck.mk rfl) only [ee, VC, T, Nat.reduceMul, Nat.reduceAdd, Nat.reduceSub, Nat.reduceLT, Nat.reduceEqDiff, Nat.reduceLeDiff, Nat.reduceBEq, reduceCtorEq, Int.reduceToNat, ↓reduceIte, rfP, rvP, rhP, frP]) <;> (try clear ee))
  all_goals simp [*]
theorem laws_eqEntry (x y : Et) : Fn Tryz.prog 96 [enP x, enP y] [] (.bool (decide (x = y))) [] := by
  obtain ⟨a, b⟩ := x
  obtain ⟨c, d⟩ := y
  unfold enP
  refine fn_x tok (n := 15) (rs := [.tmp 4]) Tryz.func96 (by decide) rfl rfl rfl rfl ?_
  refine Wr.go ?_
  repeat' ((first | (have ee := True.intro; refine Wr.mk ?_) | ((first | refine br_go ?_ ?_ | refine pick_go ?_ ?_) <;> intro ee f <;> (try simp only [BB] at f) <;> (try simp only [numOk, verOk] at f))) <;> (try simp (maxSteps := 1000000) (disch := first | omega | (simp only [LN, numOk, verOk, rfP, rvP, rhP, frP] <;> omega) | exact Ck.mk rfl) only [ee, VC, T, Nat.reduceMul, Nat.reduceAdd, Nat.reduceSub, Nat.reduceLT, Nat.reduceEqDiff, Nat.reduceLeDiff, Nat.reduceBEq, reduceCtorEq, Int.reduceToNat, ↓reduceIte, rfP, rvP, rhP, frP]) <;> (try clear ee))
  all_goals simp [*]
theorem laws_toNodeS_R (ps : List Nd) (hx : ps.length ≤ 1073741824) : FnE Tryz.prog 32 [.far (ps.map ndP)] [] (fun r m => r = .row 64 ps.length ∧ m = [(64, .row ⟨3, 0⟩ (ps.map ndP))]) := by
  refine fn_e tok (n := 23) (rs := [.tmp 2]) Tryz.func32 (by decide) rfl rfl rfl rfl (low_of rfl) ?_
  refine Wr.go ?_
  repeat' ((first | (have ee := True.intro; refine Wr.mk ?_) | ((first | refine br_go ?_ ?_ | refine pick_go ?_ ?_) <;> intro ee f <;> (try simp only [BB] at f) <;> (try simp only [numOk, verOk] at f))) <;> (try simp (maxSteps := 1000000) (disch := first | omega | (simp only [LN, numOk, verOk, rfP, rvP, rhP, frP] <;> omega) | exact Ck.mk rfl) only [ee, VC, T, Nat.reduceMul, Nat.reduceAdd, Nat.reduceSub, Nat.reduceLT, Nat.reduceEqDiff, Nat.reduceLeDiff, Nat.reduceBEq, reduceCtorEq, Int.reduceToNat, ↓reduceIte, rfP, rvP, rhP, frP]) <;> (try clear ee))
  refine lp_go (fun i : Nat => ⟨23, [(0, .far (ps.map ndP)), (3, .row 512 ps.length), (4, .int .i64 i)], [(512, .row ⟨3, 0⟩ ((ps.take i ++ List.replicate (ps.length - i) ((0, ⟨#[]⟩, 0) : Nd)).map ndP))]⟩) (fun i => i ≤ ps.length) (fun i => ps.length - i) 0 ?_ (Nat.zero_le _) ?_
  · (simp (disch := first | omega | (simp only [LN, numOk, verOk] <;> omega) | exact Ck.mk rfl) only [SB, EQ, Nat.reduceMul, Nat.reduceAdd, Nat.reduceSub, Nat.reduceLT, Nat.reduceEqDiff, Nat.reduceLeDiff, Nat.reduceBEq, reduceCtorEq, Int.reduceToNat, ↓reduceIte]; try omega)
    simp [ndP]
    exact .inr rfl
  · intro i hi N hN
    have hs := row_step ps ((0, ⟨#[]⟩, 0) : Nd) ps.length i rfl
    have hln : (ps.take i ++ List.replicate (ps.length - i) ((0, ⟨#[]⟩, 0) : Nd)).length = ps.length := by rw [List.length_append, List.length_take, List.length_replicate]; omega
    have hg : i < ps.length → (ps.map ndP).getD i .junk = .agg [.int .i64 (ps.getD i default).1, .str (ps.getD i default).2.1, .int .i64 (ps.getD i default).2.2] := fun h => by
      rw [List.getD_eq_getElem?_getD, List.getElem?_map, List.getElem?_eq_getElem h, List.getD_eq_getElem?_getD, List.getElem?_eq_getElem h]; rfl
    have hu : i < ps.length → ∀ x y z, upd (((ps.take i ++ List.replicate (ps.length - i) ((0, ⟨#[]⟩, 0) : Nd)).map ndP).getD i .junk) 0 [x, y, z] = .agg [x, y, z] := fun h x y z => by
      rw [List.getD_eq_getElem?_getD, List.getElem?_map, List.getElem?_eq_getElem (by omega)]; rfl
    have hset : i < ps.length → ((ps.take i ++ List.replicate (ps.length - i) ((0, ⟨#[]⟩, 0) : Nd)).map ndP).set i (.agg [.int .i64 (ps.getD i default).1, .str (ps.getD i default).2.1, .int .i64 (ps.getD i default).2.2]) = (ps.take (i + 1) ++ List.replicate (ps.length - (i + 1)) ((0, ⟨#[]⟩, 0) : Nd)).map ndP := fun h => by
      rw [← hs h, List.map_set]; rfl
    have hu2 : ∀ (p : Nd) x y z, upd (ndP p) 0 [x, y, z] = .agg [x, y, z] := fun _ => by intros; rfl
    refine Wr.go ?_
    repeat' ((first | (have ee := True.intro; refine Wr.mk ?_) | ((first | refine br_go ?_ ?_ | refine pick_go ?_ ?_) <;> intro ee f <;> (try simp only [BB] at f) <;> (try simp only [numOk, verOk] at f)) | (have ee := True.intro; first | refine call_x (laws_toNode _ _ _) rfl ⟨rfl⟩ ?_)) <;> (try simp (maxSteps := 1000000) (disch := first | omega | (simp only [LN, numOk, verOk, rfP, rvP, rhP, frP, hln, hg, hu, hu2, hset] <;> omega) | exact Ck.mk rfl) only [ee, VC, T, Nat.reduceMul, Nat.reduceAdd, Nat.reduceSub, Nat.reduceLT, Nat.reduceEqDiff, Nat.reduceLeDiff, Nat.reduceBEq, reduceCtorEq, Int.reduceToNat, ↓reduceIte, rfP, rvP, rhP, frP, hln, hg, hu, hu2, hset]) <;> (try clear ee))
    · refine hN (i + 1) _ (by omega) (by omega) ?_
      (simp (disch := first | omega | (simp only [LN, numOk, verOk] <;> omega) | exact Ck.mk rfl) only [SB, EQ, Nat.reduceMul, Nat.reduceAdd, Nat.reduceSub, Nat.reduceLT, Nat.reduceEqDiff, Nat.reduceLeDiff, Nat.reduceBEq, reduceCtorEq, Int.reduceToNat, ↓reduceIte]; try omega)
    · obtain rfl : i = ps.length := by omega
      exact fin_t [some 512] (⟨rfl, rfl⟩) rfl (by simp [RV, RV2, RVl, RV1, tau, tget, hget, data1, oneOf]) (by simp [RH, RVl, RV1, tau, hget, data1]) (by simp [Taus, hget])
theorem laws_toEntryS_R (ps : List Et) (hx : ps.length ≤ 1073741824) : FnE Tryz.prog 33 [.far (ps.map enP)] [] (fun r m => r = .row 64 ps.length ∧ m = [(64, .row ⟨2, 0⟩ (ps.map enP))]) := by
  refine fn_e tok (n := 23) (rs := [.tmp 2]) Tryz.func33 (by decide) rfl rfl rfl rfl (low_of rfl) ?_
  refine Wr.go ?_
  repeat' ((first | (have ee := True.intro; refine Wr.mk ?_) | ((first | refine br_go ?_ ?_ | refine pick_go ?_ ?_) <;> intro ee f <;> (try simp only [BB] at f) <;> (try simp only [numOk, verOk] at f))) <;> (try simp (maxSteps := 1000000) (disch := first | omega | (simp only [LN, numOk, verOk, rfP, rvP, rhP, frP] <;> omega) | exact Ck.mk rfl) only [ee, VC, T, Nat.reduceMul, Nat.reduceAdd, Nat.reduceSub, Nat.reduceLT, Nat.reduceEqDiff, Nat.reduceLeDiff, Nat.reduceBEq, reduceCtorEq, Int.reduceToNat, ↓reduceIte, rfP, rvP, rhP, frP]) <;> (try clear ee))
  refine lp_go (fun i : Nat => ⟨23, [(0, .far (ps.map enP)), (3, .row 512 ps.length), (4, .int .i64 i)], [(512, .row ⟨2, 0⟩ ((ps.take i ++ List.replicate (ps.length - i) ((⟨#[]⟩, 0) : Et)).map enP))]⟩) (fun i => i ≤ ps.length) (fun i => ps.length - i) 0 ?_ (Nat.zero_le _) ?_
  · (simp (disch := first | omega | (simp only [LN, numOk, verOk] <;> omega) | exact Ck.mk rfl) only [SB, EQ, Nat.reduceMul, Nat.reduceAdd, Nat.reduceSub, Nat.reduceLT, Nat.reduceEqDiff, Nat.reduceLeDiff, Nat.reduceBEq, reduceCtorEq, Int.reduceToNat, ↓reduceIte]; try omega)
    simp [enP]
    exact .inr rfl
  · intro i hi N hN
    have hs := row_step ps ((⟨#[]⟩, 0) : Et) ps.length i rfl
    have hln : (ps.take i ++ List.replicate (ps.length - i) ((⟨#[]⟩, 0) : Et)).length = ps.length := by rw [List.length_append, List.length_take, List.length_replicate]; omega
    have hg : i < ps.length → (ps.map enP).getD i .junk = .agg [.str (ps.getD i default).1, .int .i64 (ps.getD i default).2] := fun h => by
      rw [List.getD_eq_getElem?_getD, List.getElem?_map, List.getElem?_eq_getElem h, List.getD_eq_getElem?_getD, List.getElem?_eq_getElem h]; rfl
    have hu : i < ps.length → ∀ x y, upd (((ps.take i ++ List.replicate (ps.length - i) ((⟨#[]⟩, 0) : Et)).map enP).getD i .junk) 0 [x, y] = .agg [x, y] := fun h x y => by
      rw [List.getD_eq_getElem?_getD, List.getElem?_map, List.getElem?_eq_getElem (by omega)]; rfl
    have hset : i < ps.length → ((ps.take i ++ List.replicate (ps.length - i) ((⟨#[]⟩, 0) : Et)).map enP).set i (.agg [.str (ps.getD i default).1, .int .i64 (ps.getD i default).2]) = (ps.take (i + 1) ++ List.replicate (ps.length - (i + 1)) ((⟨#[]⟩, 0) : Et)).map enP := fun h => by
      rw [← hs h, List.map_set]; rfl
    have hu2 : ∀ (p : Et) x y, upd (enP p) 0 [x, y] = .agg [x, y] := fun _ => by intros; rfl
    refine Wr.go ?_
    repeat' ((first | (have ee := True.intro; refine Wr.mk ?_) | ((first | refine br_go ?_ ?_ | refine pick_go ?_ ?_) <;> intro ee f <;> (try simp only [BB] at f) <;> (try simp only [numOk, verOk] at f)) | (have ee := True.intro; first | refine call_x (laws_toEntry _ _) rfl ⟨rfl⟩ ?_)) <;> (try simp (maxSteps := 1000000) (disch := first | omega | (simp only [LN, numOk, verOk, rfP, rvP, rhP, frP, hln, hg, hu, hu2, hset] <;> omega) | exact Ck.mk rfl) only [ee, VC, T, Nat.reduceMul, Nat.reduceAdd, Nat.reduceSub, Nat.reduceLT, Nat.reduceEqDiff, Nat.reduceLeDiff, Nat.reduceBEq, reduceCtorEq, Int.reduceToNat, ↓reduceIte, rfP, rvP, rhP, frP, hln, hg, hu, hu2, hset]) <;> (try clear ee))
    · refine hN (i + 1) _ (by omega) (by omega) ?_
      (simp (disch := first | omega | (simp only [LN, numOk, verOk] <;> omega) | exact Ck.mk rfl) only [SB, EQ, Nat.reduceMul, Nat.reduceAdd, Nat.reduceSub, Nat.reduceLT, Nat.reduceEqDiff, Nat.reduceLeDiff, Nat.reduceBEq, reduceCtorEq, Int.reduceToNat, ↓reduceIte]; try omega)
    · obtain rfl : i = ps.length := by omega
      exact fin_t [some 512] (⟨rfl, rfl⟩) rfl (by simp [RV, RV2, RVl, RV1, tau, tget, hget, data1, oneOf]) (by simp [RH, RVl, RV1, tau, hget, data1]) (by simp [Taus, hget])
theorem laws_eqNodeS (xs ys : List Nd) (hx : xs.length ≤ 4611686018427387904) : Fn Tryz.prog 45 [.far (xs.map ndP), .far (ys.map ndP)] [] (.bool (decide (xs = ys))) [] := by
  refine fn_x tok (n := 27) (rs := [.tmp 4]) Tryz.func45 (by decide) rfl rfl rfl rfl ?_
  refine Wr.go ?_
  repeat' ((first | (have ee := True.intro; refine Wr.mk ?_) | ((first | refine br_go ?_ ?_ | refine pick_go ?_ ?_) <;> intro ee f <;> (try simp only [BB] at f) <;> (try simp only [numOk, verOk] at f))) <;> (try simp (maxSteps := 1000000) (disch := first | omega | (simp only [LN, numOk, verOk, rfP, rvP, rhP, frP] <;> omega) | exact Ck.mk rfl) only [ee, VC, T, Nat.reduceMul, Nat.reduceAdd, Nat.reduceSub, Nat.reduceLT, Nat.reduceEqDiff, Nat.reduceLeDiff, Nat.reduceBEq, reduceCtorEq, Int.reduceToNat, ↓reduceIte, rfP, rvP, rhP, frP]) <;> (try clear ee))
  · have hl : xs.length = ys.length := by omega
    refine lp_go (fun i : Nat => ⟨27, [(0, .far (xs.map ndP)), (1, .far (ys.map ndP)), (5, .int .i64 i)], []⟩) (fun i => i ≤ xs.length ∧ xs.take i = ys.take i) (fun i => xs.length - i) 0 ?_ ⟨Nat.zero_le _, rfl⟩ ?_
    · (simp (disch := first | omega | (simp only [LN, numOk, verOk] <;> omega) | exact Ck.mk rfl) only [SB, EQ, Nat.reduceMul, Nat.reduceAdd, Nat.reduceSub, Nat.reduceLT, Nat.reduceEqDiff, Nat.reduceLeDiff, Nat.reduceBEq, reduceCtorEq, Int.reduceToNat, ↓reduceIte]; try omega)
    · rintro i ⟨h1, h2⟩ N hN
      have hg : ∀ zs : List Nd, i < zs.length → (zs.map ndP).getD i .junk = .agg [.int .i64 (zs.getD i default).1, .str (zs.getD i default).2.1, .int .i64 (zs.getD i default).2.2] := fun zs h => by
        rw [List.getD_eq_getElem?_getD, List.getElem?_map, List.getElem?_eq_getElem h, List.getD_eq_getElem?_getD, List.getElem?_eq_getElem h]; rfl
      refine Wr.go ?_
      repeat' ((first | (have ee := True.intro; refine Wr.mk ?_) | ((first | refine br_go ?_ ?_ | refine pick_go ?_ ?_) <;> intro ee f <;> (try simp only [BB] at f) <;> (try simp only [numOk, verOk] at f)) | (have ee := True.intro; first | refine dr_go mixed (id := 6) [([], [0], []), ([], [5], []), ([0, 1], [17, 18], []), ([0, 1, 2], [19], []), ([], [1], []), ([], [5], []), ([4, 5], [21, 22], []), ([4, 5, 6], [23], []), ([0, 1, 2, 3, 4, 5, 6, 7], [20, 24], []), ([0, 1, 2, 3, 4, 5, 6, 7, 8], [25], [])] rfl rfl rfl ?_ | refine call_x (laws_eqNode (xs.getD i default) (ys.getD i default)) rfl ⟨rfl⟩ ?_)) <;> (try simp (maxSteps := 1000000) (disch := first | omega | (simp only [LN, numOk, verOk, rfP, rvP, rhP, frP, hg] <;> omega) | exact Ck.mk rfl) only [ee, VC, T, Nat.reduceMul, Nat.reduceAdd, Nat.reduceSub, Nat.reduceLT, Nat.reduceEqDiff, Nat.reduceLeDiff, Nat.reduceBEq, reduceCtorEq, Int.reduceToNat, ↓reduceIte, rfP, rvP, rhP, frP, hg]) <;> (try clear ee))
      · refine hN (i + 1) _ ⟨by omega, eq_step xs ys i hl (by omega) h2 f⟩ (by omega) ?_
        (simp (disch := first | omega | (simp only [LN, numOk, verOk] <;> omega) | exact Ck.mk rfl) only [SB, EQ, Nat.reduceMul, Nat.reduceAdd, Nat.reduceSub, Nat.reduceLT, Nat.reduceEqDiff, Nat.reduceLeDiff, Nat.reduceBEq, reduceCtorEq, Int.reduceToNat, ↓reduceIte]; try omega)
      · rw [decide_eq_false fun h => by subst h; simp at f]
      · rw [List.take_of_length_le (by omega), List.take_of_length_le (by omega)] at h2
        rw [decide_eq_true h2]
  · rw [decide_eq_false fun h => f (by rw [h])]
theorem laws_eqEntryS (xs ys : List Et) (hx : xs.length ≤ 4611686018427387904) : Fn Tryz.prog 46 [.far (xs.map enP), .far (ys.map enP)] [] (.bool (decide (xs = ys))) [] := by
  refine fn_x tok (n := 27) (rs := [.tmp 4]) Tryz.func46 (by decide) rfl rfl rfl rfl ?_
  refine Wr.go ?_
  repeat' ((first | (have ee := True.intro; refine Wr.mk ?_) | ((first | refine br_go ?_ ?_ | refine pick_go ?_ ?_) <;> intro ee f <;> (try simp only [BB] at f) <;> (try simp only [numOk, verOk] at f))) <;> (try simp (maxSteps := 1000000) (disch := first | omega | (simp only [LN, numOk, verOk, rfP, rvP, rhP, frP] <;> omega) | exact Ck.mk rfl) only [ee, VC, T, Nat.reduceMul, Nat.reduceAdd, Nat.reduceSub, Nat.reduceLT, Nat.reduceEqDiff, Nat.reduceLeDiff, Nat.reduceBEq, reduceCtorEq, Int.reduceToNat, ↓reduceIte, rfP, rvP, rhP, frP]) <;> (try clear ee))
  · have hl : xs.length = ys.length := by omega
    refine lp_go (fun i : Nat => ⟨27, [(0, .far (xs.map enP)), (1, .far (ys.map enP)), (5, .int .i64 i)], []⟩) (fun i => i ≤ xs.length ∧ xs.take i = ys.take i) (fun i => xs.length - i) 0 ?_ ⟨Nat.zero_le _, rfl⟩ ?_
    · (simp (disch := first | omega | (simp only [LN, numOk, verOk] <;> omega) | exact Ck.mk rfl) only [SB, EQ, Nat.reduceMul, Nat.reduceAdd, Nat.reduceSub, Nat.reduceLT, Nat.reduceEqDiff, Nat.reduceLeDiff, Nat.reduceBEq, reduceCtorEq, Int.reduceToNat, ↓reduceIte]; try omega)
    · rintro i ⟨h1, h2⟩ N hN
      have hg : ∀ zs : List Et, i < zs.length → (zs.map enP).getD i .junk = .agg [.str (zs.getD i default).1, .int .i64 (zs.getD i default).2] := fun zs h => by
        rw [List.getD_eq_getElem?_getD, List.getElem?_map, List.getElem?_eq_getElem h, List.getD_eq_getElem?_getD, List.getElem?_eq_getElem h]; rfl
      refine Wr.go ?_
      repeat' ((first | (have ee := True.intro; refine Wr.mk ?_) | ((first | refine br_go ?_ ?_ | refine pick_go ?_ ?_) <;> intro ee f <;> (try simp only [BB] at f) <;> (try simp only [numOk, verOk] at f)) | (have ee := True.intro; first | refine dr_go mixed (id := 6) [([], [0], []), ([], [5], []), ([0, 1], [17, 18], []), ([0, 1, 2], [19], []), ([], [1], []), ([], [5], []), ([4, 5], [21, 22], []), ([4, 5, 6], [23], []), ([0, 1, 2, 3, 4, 5, 6, 7], [20, 24], []), ([0, 1, 2, 3, 4, 5, 6, 7, 8], [25], [])] rfl rfl rfl ?_ | refine call_x (laws_eqEntry (xs.getD i default) (ys.getD i default)) rfl ⟨rfl⟩ ?_)) <;> (try simp (maxSteps := 1000000) (disch := first | omega | (simp only [LN, numOk, verOk, rfP, rvP, rhP, frP, hg] <;> omega) | exact Ck.mk rfl) only [ee, VC, T, Nat.reduceMul, Nat.reduceAdd, Nat.reduceSub, Nat.reduceLT, Nat.reduceEqDiff, Nat.reduceLeDiff, Nat.reduceBEq, reduceCtorEq, Int.reduceToNat, ↓reduceIte, rfP, rvP, rhP, frP, hg]) <;> (try clear ee))
      · refine hN (i + 1) _ ⟨by omega, eq_step xs ys i hl (by omega) h2 f⟩ (by omega) ?_
        (simp (disch := first | omega | (simp only [LN, numOk, verOk] <;> omega) | exact Ck.mk rfl) only [SB, EQ, Nat.reduceMul, Nat.reduceAdd, Nat.reduceSub, Nat.reduceLT, Nat.reduceEqDiff, Nat.reduceLeDiff, Nat.reduceBEq, reduceCtorEq, Int.reduceToNat, ↓reduceIte]; try omega)
      · rw [decide_eq_false fun h => by subst h; simp at f]
      · rw [List.take_of_length_le (by omega), List.take_of_length_le (by omega)] at h2
        rw [decide_eq_true h2]
  · rw [decide_eq_false fun h => f (by rw [h])]
/-! ### how large disks are -/
def sumF {α : Type} (f : α → Int) (l : List α) : Int := l.foldr (fun s n => f s + n) 0
theorem sumF_cons {α : Type} (f : α → Int) (s : α) (l : List α) : sumF f (s :: l) = f s + sumF f l := rfl
theorem sumF_pos {α : Type} (f : α → Int) (hf : ∀ x, 0 ≤ f x) (l : List α) : 0 ≤ sumF f l := by
  induction l with
  | nil => exact Int.le_refl _
  | cons s l ih => rw [sumF_cons]; have := hf s; omega
theorem sumF_mem {α : Type} (f : α → Int) (hf : ∀ x, 0 ≤ f x) : ∀ {l : List α} {s : α}, s ∈ l → f s ≤ sumF f l
  | x :: l, s, h => by
    rw [sumF_cons]
    rcases List.mem_cons.1 h with rfl | h
    · have := sumF_pos f hf l; omega
    · have := sumF_mem f hf h; have := hf x; omega
theorem sumF_drop {α : Type} [Inhabited α] (f : α → Int) (l : List α) (i : Nat) (h : i < l.length) : sumF f (l.drop i) = f (l.getD i default) + sumF f (l.drop (i + 1)) := by
  rw [List.drop_eq_getElem_cons h, List.getD_eq_getElem?_getD, List.getElem?_eq_getElem h]; rfl
def ndZ (x : Nd) : Int := x.2.1.size
def enZ (x : Et) : Int := x.1.size
theorem ndZ_pos (x : Nd) : 0 ≤ ndZ x := by unfold ndZ; omega
theorem enZ_pos (x : Et) : 0 ≤ enZ x := by unfold enZ; omega
theorem laws_szNode (a : Int) (b : ByteArray) (c n : Int) (hn : 0 ≤ n ∧ n ≤ 1048576) (hb : b.size ≤ 9223372036854775807) : Fn Tryz.prog 57 [.agg [.int .i64 a, .str b, .int .i64 c], .int .i64 n] [] (.int .i64 (if n - b.size < 0 then -1 else n - b.size)) [] := by
  refine fn_x tok (n := 13) (rs := [.tmp 4]) Tryz.func57 (by decide) rfl rfl rfl rfl ?_
  refine Wr.go ?_
  repeat' ((first | (have ee := True.intro; refine Wr.mk ?_) | ((first | refine br_go ?_ ?_ | refine pick_go ?_ ?_) <;> intro ee f <;> (try simp only [BB] at f) <;> (try simp only [numOk, verOk] at f))) <;> (try simp (maxSteps := 1000000) (disch := first | omega | (simp only [LN, numOk, verOk, rfP, rvP, rhP, frP] <;> omega) | exact Ck.mk rfl) only [ee, VC, T, Nat.reduceMul, Nat.reduceAdd, Nat.reduceSub, Nat.reduceLT, Nat.reduceEqDiff, Nat.reduceLeDiff, Nat.reduceBEq, reduceCtorEq, Int.reduceToNat, ↓reduceIte, rfP, rvP, rhP, frP]) <;> (try clear ee))
  · rw [if_pos f]
  · rw [if_neg (by omega)]
theorem laws_szEntry (b : ByteArray) (c n : Int) (hn : 0 ≤ n ∧ n ≤ 1048576) (hb : b.size ≤ 9223372036854775807) : Fn Tryz.prog 58 [.agg [.str b, .int .i64 c], .int .i64 n] [] (.int .i64 (if n - b.size < 0 then -1 else n - b.size)) [] := by
  refine fn_x tok (n := 13) (rs := [.tmp 4]) Tryz.func58 (by decide) rfl rfl rfl rfl ?_
  refine Wr.go ?_
  repeat' ((first | (have ee := True.intro; refine Wr.mk ?_) | ((first | refine br_go ?_ ?_ | refine pick_go ?_ ?_) <;> intro ee f <;> (try simp only [BB] at f) <;> (try simp only [numOk, verOk] at f))) <;> (try simp (maxSteps := 1000000) (disch := first | omega | (simp only [LN, numOk, verOk, rfP, rvP, rhP, frP] <;> omega) | exact Ck.mk rfl) only [ee, VC, T, Nat.reduceMul, Nat.reduceAdd, Nat.reduceSub, Nat.reduceLT, Nat.reduceEqDiff, Nat.reduceLeDiff, Nat.reduceBEq, reduceCtorEq, Int.reduceToNat, ↓reduceIte, rfP, rvP, rhP, frP]) <;> (try clear ee))
  · rw [if_pos f]
  · rw [if_neg (by omega)]
theorem laws_szNodeS (xs : List Nd) (n : Int) (hn : 0 ≤ n ∧ n ≤ 1048576) (hx : xs.length ≤ 9223372036854775807) (hs : ∀ x ∈ xs, x.2.1.size ≤ 9223372036854775807) : FnV Tryz.prog 19 [.far (xs.map ndP), .int .i64 n] (fun r => ∃ m : Int, r = .int .i64 m ∧ (0 ≤ m → m = n - xs.length - sumF ndZ xs) ∧ -1 ≤ m ∧ m ≤ n) := by
  refine fn_v tok (n := 27) (rs := [.tmp 4]) Tryz.func19 (by decide) rfl rfl rfl rfl ?_
  refine Wr.go ?_
  repeat' ((first | (have ee := True.intro; refine Wr.mk ?_) | ((first | refine br_go ?_ ?_ | refine pick_go ?_ ?_) <;> intro ee f <;> (try simp only [BB] at f) <;> (try simp only [numOk, verOk] at f))) <;> (try simp (maxSteps := 1000000) (disch := first | omega | (simp only [LN, numOk, verOk, rfP, rvP, rhP, frP] <;> omega) | exact Ck.mk rfl) only [ee, VC, T, Nat.reduceMul, Nat.reduceAdd, Nat.reduceSub, Nat.reduceLT, Nat.reduceEqDiff, Nat.reduceLeDiff, Nat.reduceBEq, reduceCtorEq, Int.reduceToNat, ↓reduceIte, rfP, rvP, rhP, frP]) <;> (try clear ee))
  · exact ⟨-1, rfl, fun h => by omega, by omega, by omega⟩
  · refine lp_go (fun x : Nat × Int => ⟨27, [(0, .far (xs.map ndP)), (1, .int .i64 x.2), (5, .int .i64 x.1)], []⟩) (fun x => x.1 ≤ xs.length ∧ (0 ≤ x.2 ∧ x.2 ≤ n) ∧ n - xs.length - sumF ndZ xs = x.2 - sumF ndZ (xs.drop x.1)) (fun x => xs.length - x.1) (0, n - xs.length) ?_ ⟨Nat.zero_le _, by simp only; omega, rfl⟩ ?_
    · (simp (disch := first | omega | (simp only [LN, numOk, verOk] <;> omega) | exact Ck.mk rfl) only [SB, EQ, Nat.reduceMul, Nat.reduceAdd, Nat.reduceSub, Nat.reduceLT, Nat.reduceEqDiff, Nat.reduceLeDiff, Nat.reduceBEq, reduceCtorEq, Int.reduceToNat, ↓reduceIte]; try omega)
    · rintro ⟨i, m⟩ ⟨h1, h2, h3⟩ N hN
      simp only at h1 h2 h3
      have hd := sumF_drop ndZ xs i
      have hz : i < xs.length → (xs.getD i default).2.1.size ≤ 9223372036854775807 := fun h => hs _ (getD_mem _ _ h)
      have hp := sumF_pos ndZ ndZ_pos (xs.drop (i + 1))
      have hg : i < xs.length → (xs.map ndP).getD i .junk = .agg [.int .i64 (xs.getD i default).1, .str (xs.getD i default).2.1, .int .i64 (xs.getD i default).2.2] := fun h => by
        rw [List.getD_eq_getElem?_getD, List.getElem?_map, List.getElem?_eq_getElem h, List.getD_eq_getElem?_getD, List.getElem?_eq_getElem h]; rfl
      refine Wr.go ?_
      repeat' ((first | (have ee := True.intro; refine Wr.mk ?_) | ((first | refine br_go ?_ ?_ | refine pick_go ?_ ?_) <;> intro ee f <;> (try simp only [BB] at f) <;> (try simp only [numOk, verOk] at f)) | (have ee := True.intro; first | refine call_x (laws_szNode _ _ _ _ (by omega) (hz (by omega))) rfl ⟨rfl⟩ ?_)) <;> (try simp (maxSteps := 1000000) (disch := first | omega | (simp only [LN, numOk, verOk, rfP, rvP, rhP, frP, hg] <;> omega) | exact Ck.mk rfl) only [ee, VC, T, Nat.reduceMul, Nat.reduceAdd, Nat.reduceSub, Nat.reduceLT, Nat.reduceEqDiff, Nat.reduceLeDiff, Nat.reduceBEq, reduceCtorEq, Int.reduceToNat, ↓reduceIte, rfP, rvP, rhP, frP, hg]) <;> (try clear ee))
      · exact ⟨-1, rfl, fun h => by omega, by omega, by omega⟩
      · split at f
        · exfalso; omega
        · rename_i hq
          rw [if_neg hq] at *
          refine hN (i + 1, m - (xs.getD i default).2.1.size) _ ⟨by simp only; omega, ⟨by simp only; omega, by simp only; omega⟩, by simp only; have := hd (by omega); unfold ndZ at *; omega⟩ (by simp only; omega) ?_
          (simp (disch := first | omega | (simp only [LN, numOk, verOk] <;> omega) | exact Ck.mk rfl) only [SB, EQ, Nat.reduceMul, Nat.reduceAdd, Nat.reduceSub, Nat.reduceLT, Nat.reduceEqDiff, Nat.reduceLeDiff, Nat.reduceBEq, reduceCtorEq, Int.reduceToNat, ↓reduceIte]; try omega)
      · rw [List.drop_eq_nil_of_le (by omega)] at h3
        exact ⟨m, rfl, fun _ => by rw [h3]; simp [sumF], by omega, by omega⟩
theorem laws_szEntryS (xs : List Et) (n : Int) (hn : 0 ≤ n ∧ n ≤ 1048576) (hx : xs.length ≤ 9223372036854775807) (hs : ∀ x ∈ xs, x.1.size ≤ 9223372036854775807) : FnV Tryz.prog 20 [.far (xs.map enP), .int .i64 n] (fun r => ∃ m : Int, r = .int .i64 m ∧ (0 ≤ m → m = n - xs.length - sumF enZ xs) ∧ -1 ≤ m ∧ m ≤ n) := by
  refine fn_v tok (n := 27) (rs := [.tmp 4]) Tryz.func20 (by decide) rfl rfl rfl rfl ?_
  refine Wr.go ?_
  repeat' ((first | (have ee := True.intro; refine Wr.mk ?_) | ((first | refine br_go ?_ ?_ | refine pick_go ?_ ?_) <;> intro ee f <;> (try simp only [BB] at f) <;> (try simp only [numOk, verOk] at f))) <;> (try simp (maxSteps := 1000000) (disch := first | omega | (simp only [LN, numOk, verOk, rfP, rvP, rhP, frP] <;> omega) | exact Ck.mk rfl) only [ee, VC, T, Nat.reduceMul, Nat.reduceAdd, Nat.reduceSub, Nat.reduceLT, Nat.reduceEqDiff, Nat.reduceLeDiff, Nat.reduceBEq, reduceCtorEq, Int.reduceToNat, ↓reduceIte, rfP, rvP, rhP, frP]) <;> (try clear ee))
  · exact ⟨-1, rfl, fun h => by omega, by omega, by omega⟩
  · refine lp_go (fun x : Nat × Int => ⟨27, [(0, .far (xs.map enP)), (1, .int .i64 x.2), (5, .int .i64 x.1)], []⟩) (fun x => x.1 ≤ xs.length ∧ (0 ≤ x.2 ∧ x.2 ≤ n) ∧ n - xs.length - sumF enZ xs = x.2 - sumF enZ (xs.drop x.1)) (fun x => xs.length - x.1) (0, n - xs.length) ?_ ⟨Nat.zero_le _, by simp only; omega, rfl⟩ ?_
    · (simp (disch := first | omega | (simp only [LN, numOk, verOk] <;> omega) | exact Ck.mk rfl) only [SB, EQ, Nat.reduceMul, Nat.reduceAdd, Nat.reduceSub, Nat.reduceLT, Nat.reduceEqDiff, Nat.reduceLeDiff, Nat.reduceBEq, reduceCtorEq, Int.reduceToNat, ↓reduceIte]; try omega)
    · rintro ⟨i, m⟩ ⟨h1, h2, h3⟩ N hN
      simp only at h1 h2 h3
      have hd := sumF_drop enZ xs i
      have hz : i < xs.length → (xs.getD i default).1.size ≤ 9223372036854775807 := fun h => hs _ (getD_mem _ _ h)
      have hp := sumF_pos enZ enZ_pos (xs.drop (i + 1))
      have hg : i < xs.length → (xs.map enP).getD i .junk = .agg [.str (xs.getD i default).1, .int .i64 (xs.getD i default).2] := fun h => by
        rw [List.getD_eq_getElem?_getD, List.getElem?_map, List.getElem?_eq_getElem h, List.getD_eq_getElem?_getD, List.getElem?_eq_getElem h]; rfl
      refine Wr.go ?_
      repeat' ((first | (have ee := True.intro; refine Wr.mk ?_) | ((first | refine br_go ?_ ?_ | refine pick_go ?_ ?_) <;> intro ee f <;> (try simp only [BB] at f) <;> (try simp only [numOk, verOk] at f)) | (have ee := True.intro; first | refine call_x (laws_szEntry _ _ _ (by omega) (hz (by omega))) rfl ⟨rfl⟩ ?_)) <;> (try simp (maxSteps := 1000000) (disch := first | omega | (simp only [LN, numOk, verOk, rfP, rvP, rhP, frP, hg] <;> omega) | exact Ck.mk rfl) only [ee, VC, T, Nat.reduceMul, Nat.reduceAdd, Nat.reduceSub, Nat.reduceLT, Nat.reduceEqDiff, Nat.reduceLeDiff, Nat.reduceBEq, reduceCtorEq, Int.reduceToNat, ↓reduceIte, rfP, rvP, rhP, frP, hg]) <;> (try clear ee))
      · exact ⟨-1, rfl, fun h => by omega, by omega, by omega⟩
      · split at f
        · exfalso; omega
        · rename_i hq
          rw [if_neg hq] at *
          refine hN (i + 1, m - (xs.getD i default).1.size) _ ⟨by simp only; omega, ⟨by simp only; omega, by simp only; omega⟩, by simp only; have := hd (by omega); unfold enZ at *; omega⟩ (by simp only; omega) ?_
          (simp (disch := first | omega | (simp only [LN, numOk, verOk] <;> omega) | exact Ck.mk rfl) only [SB, EQ, Nat.reduceMul, Nat.reduceAdd, Nat.reduceSub, Nat.reduceLT, Nat.reduceEqDiff, Nat.reduceLeDiff, Nat.reduceBEq, reduceCtorEq, Int.reduceToNat, ↓reduceIte]; try omega)
      · rw [List.drop_eq_nil_of_le (by omega)] at h3
        exact ⟨m, rfl, fun _ => by rw [h3]; simp [sumF], by omega, by omega⟩
end Go.Pv

/- What functions of the program and of the reference do, in plain values. -/
namespace Go.Pv
open Go.Proofs Go.Mth
set_option linter.unusedSimpArgs false
set_option linter.unusedVariables false
set_option maxHeartbeats 4000000
set_option maxRecDepth 4000

/-! ### the laws' own functions: whole disks -/
def mkNd (k : Int) (i : Int) : Nd := (k + 3 * i, markT (k + 3 * i + 1), k + 3 * i + 2)
def mkEt (k : Int) (i : Int) : Et := (markT (k + 2 * i), k + 2 * i + 1)
theorem laws_markNodeS (xs : List Nd) (k : Int) (hx : xs.length ≤ 1073741824) (hk : 0 ≤ k ∧ k ≤ 1099511627776) (t : TypeId) : FnE Tryz.prog 49 [.row 0 xs.length, .int .i64 k] [(0, .row ⟨3, t⟩ (xs.map ndP))] (fun r m => r = .int .i64 (k + 3 * xs.length) ∧ m = [(0, .row ⟨3, t⟩ (((seqL xs.length 0).map (mkNd k)).map ndP))]) := by
  refine fn_e tok (n := 35) (rs := [.tmp 4]) Tryz.func49 (by decide) rfl rfl rfl rfl (low_of rfl) ?_
  refine Wr.go ?_
  repeat' ((first | (have ee := True.intro; refine Wr.mk ?_) | ((first | refine br_go ?_ ?_ | refine pick_go ?_ ?_) <;> intro ee f <;> (try simp only [BB] at f) <;> (try simp only [numOk, verOk] at f))) <;> (try simp (maxSteps := 1000000) (disch := first | omega | (simp only [LN, numOk, verOk, rfP, rvP, rhP, frP] <;> omega) | exact Ck.mk rfl) only [ee, VC, T, Nat.reduceMul, Nat.reduceAdd, Nat.reduceSub, Nat.reduceLT, Nat.reduceEqDiff, Nat.reduceLeDiff, Nat.reduceBEq, reduceCtorEq, Int.reduceToNat, ↓reduceIte, rfP, rvP, rhP, frP]) <;> (try clear ee))
  refine lp_go (fun i : Nat => ⟨35, [(0, .row 0 xs.length), (1, .int .i64 (k + 3 * i)), (5, .int .i64 i)], [(0, .row ⟨3, t⟩ (((seqL i 0).map (mkNd k) ++ xs.drop i).map ndP))]⟩) (fun i => i ≤ xs.length) (fun i => xs.length - i) 0 ?_ (Nat.zero_le _) ?_
  · (simp (disch := first | omega | (simp only [LN, numOk, verOk] <;> omega) | exact Ck.mk rfl) only [SB, EQ, Nat.reduceMul, Nat.reduceAdd, Nat.reduceSub, Nat.reduceLT, Nat.reduceEqDiff, Nat.reduceLeDiff, Nat.reduceBEq, reduceCtorEq, Int.reduceToNat, ↓reduceIte]; try omega)
    simp [seqL]
  · intro i hi N hN
    have hln : ((seqL i 0).map (mkNd k) ++ xs.drop i).length = xs.length := by rw [List.length_append, List.length_map, seqL_length, List.length_drop]; omega
    have hm := mark_step (mkNd k) xs 0 i
    rw [Int.zero_add] at hm
    generalize hM : (seqL i 0).map (mkNd k) ++ xs.drop i = M at *
    have hg : i < xs.length → (M.map ndP).getD i .junk = ndP (M.getD i default) := fun h => by
      rw [List.getD_eq_getElem?_getD, List.getElem?_map, List.getElem?_eq_getElem (by omega), List.getD_eq_getElem?_getD, List.getElem?_eq_getElem (by omega)]; rfl
    have hu : ∀ (p : Nd) x, upd (ndP p) 0 [x] = .agg [x, .str p.2.1, .int .i64 p.2.2] := fun _ _ => rfl
    have hu2 : ∀ x y z w, upd (.agg [x, y, z]) 1 [w] = .agg [x, w, z] := fun _ _ _ _ => rfl
    have hu3 : ∀ x y z w, upd (.agg [x, y, z]) 2 [w] = .agg [x, y, w] := fun _ _ _ _ => rfl
    have hs1 : i < xs.length → ∀ y, ((M.map ndP).set i y).getD i .junk = y := fun h y => by
      rw [List.getD_eq_getElem?_getD, List.getElem?_set_self (by rw [List.length_map]; omega)]; rfl
    have hss : ∀ a b, ((M.map ndP).set i a).set i b = (M.map ndP).set i b := fun a b => by rw [List.set_set]
    have hset : i < xs.length → (M.map ndP).set i (.agg [.int .i64 (k + 3 * i), .str (markT (k + 3 * i + 1)), .int .i64 (k + 3 * i + 1 + 1)]) = ((seqL (i + 1) 0).map (mkNd k) ++ xs.drop (i + 1)).map ndP := fun h => by
      rw [← hm h, List.map_set]
      unfold mkNd ndP
      simp only [Int.add_assoc]; rfl
    refine Wr.go ?_
    repeat' ((first | (have ee := True.intro; refine Wr.mk ?_) | ((first | refine br_go ?_ ?_ | refine pick_go ?_ ?_) <;> intro ee f <;> (try simp only [BB] at f) <;> (try simp only [numOk, verOk] at f)) | (have ee := True.intro; first | refine call_x (laws_markText _ (by omega)) rfl ⟨rfl⟩ ?_)) <;> (try simp (maxSteps := 1000000) (disch := first | omega | (simp only [LN, numOk, verOk, rfP, rvP, rhP, frP, hln, hg, hu, hu2, hu3, hs1, hss, hset] <;> omega) | exact Ck.mk rfl) only [ee, VC, T, Nat.reduceMul, Nat.reduceAdd, Nat.reduceSub, Nat.reduceLT, Nat.reduceEqDiff, Nat.reduceLeDiff, Nat.reduceBEq, reduceCtorEq, Int.reduceToNat, ↓reduceIte, rfP, rvP, rhP, frP, hln, hg, hu, hu2, hu3, hs1, hss, hset]) <;> (try clear ee))
    · refine hN (i + 1) _ (by omega) (by omega) ?_
      (simp (disch := first | omega | (simp only [LN, numOk, verOk] <;> omega) | exact Ck.mk rfl) only [SB, EQ, Nat.reduceMul, Nat.reduceAdd, Nat.reduceSub, Nat.reduceLT, Nat.reduceEqDiff, Nat.reduceLeDiff, Nat.reduceBEq, reduceCtorEq, Int.reduceToNat, ↓reduceIte]; try omega)
    · obtain rfl : i = xs.length := by omega
      rw [← hM]
      exact fin_t [] (⟨rfl, rfl⟩) rfl (by simp [RV, RV2, RVl, RV1, tau, tget, hget, data1, oneOf]) (by simp [RH, RVl, RV1, tau, hget, data1]) (by simp [Taus, hget])
theorem laws_markEntryS (xs : List Et) (k : Int) (hx : xs.length ≤ 1073741824) (hk : 0 ≤ k ∧ k ≤ 1099511627776) (t : TypeId) : FnE Tryz.prog 50 [.row 0 xs.length, .int .i64 k] [(0, .row ⟨2, t⟩ (xs.map enP))] (fun r m => r = .int .i64 (k + 2 * xs.length) ∧ m = [(0, .row ⟨2, t⟩ (((seqL xs.length 0).map (mkEt k)).map enP))]) := by
  refine fn_e tok (n := 28) (rs := [.tmp 4]) Tryz.func50 (by decide) rfl rfl rfl rfl (low_of rfl) ?_
  refine Wr.go ?_
  repeat' ((first | (have ee := True.intro; refine Wr.mk ?_) | ((first | refine br_go ?_ ?_ | refine pick_go ?_ ?_) <;> intro ee f <;> (try simp only [BB] at f) <;> (try simp only [numOk, verOk] at f))) <;> (try simp (maxSteps := 1000000) (disch := first | omega | (simp only [LN, numOk, verOk, rfP, rvP, rhP, frP] <;> omega) | exact Ck.mk rfl) only [ee, VC, T, Nat.reduceMul, Nat.reduceAdd, Nat.reduceSub, Nat.reduceLT, Nat.reduceEqDiff, Nat.reduceLeDiff, Nat.reduceBEq, reduceCtorEq, Int.reduceToNat, ↓reduceIte, rfP, rvP, rhP, frP]) <;> (try clear ee))
  refine lp_go (fun i : Nat => ⟨28, [(0, .row 0 xs.length), (1, .int .i64 (k + 2 * i)), (5, .int .i64 i)], [(0, .row ⟨2, t⟩ (((seqL i 0).map (mkEt k) ++ xs.drop i).map enP))]⟩) (fun i => i ≤ xs.length) (fun i => xs.length - i) 0 ?_ (Nat.zero_le _) ?_
  · (simp (disch := first | omega | (simp only [LN, numOk, verOk] <;> omega) | exact Ck.mk rfl) only [SB, EQ, Nat.reduceMul, Nat.reduceAdd, Nat.reduceSub, Nat.reduceLT, Nat.reduceEqDiff, Nat.reduceLeDiff, Nat.reduceBEq, reduceCtorEq, Int.reduceToNat, ↓reduceIte]; try omega)
    simp [seqL]
  · intro i hi N hN
    have hln : ((seqL i 0).map (mkEt k) ++ xs.drop i).length = xs.length := by rw [List.length_append, List.length_map, seqL_length, List.length_drop]; omega
    have hm := mark_step (mkEt k) xs 0 i
    rw [Int.zero_add] at hm
    generalize hM : (seqL i 0).map (mkEt k) ++ xs.drop i = M at *
    have hg : i < xs.length → (M.map enP).getD i .junk = enP (M.getD i default) := fun h => by
      rw [List.getD_eq_getElem?_getD, List.getElem?_map, List.getElem?_eq_getElem (by omega), List.getD_eq_getElem?_getD, List.getElem?_eq_getElem (by omega)]; rfl
    have hu : ∀ (p : Et) x, upd (enP p) 0 [x] = .agg [x, .int .i64 p.2] := fun _ _ => rfl
    have hu2 : ∀ x y z, upd (.agg [x, y]) 1 [z] = .agg [x, z] := fun _ _ _ => rfl
    have hs1 : i < xs.length → ∀ y, ((M.map enP).set i y).getD i .junk = y := fun h y => by
      rw [List.getD_eq_getElem?_getD, List.getElem?_set_self (by rw [List.length_map]; omega)]; rfl
    have hss : ∀ a b, ((M.map enP).set i a).set i b = (M.map enP).set i b := fun a b => by rw [List.set_set]
    have hset : i < xs.length → (M.map enP).set i (.agg [.str (markT (k + 2 * i)), .int .i64 (k + 2 * i + 1)]) = ((seqL (i + 1) 0).map (mkEt k) ++ xs.drop (i + 1)).map enP := fun h => by
      rw [← hm h, List.map_set]; rfl
    refine Wr.go ?_
    repeat' ((first | (have ee := True.intro; refine Wr.mk ?_) | ((first | refine br_go ?_ ?_ | refine pick_go ?_ ?_) <;> intro ee f <;> (try simp only [BB] at f) <;> (try simp only [numOk, verOk] at f)) | (have ee := True.intro; first | refine call_x (laws_markText _ (by omega)) rfl ⟨rfl⟩ ?_)) <;> (try simp (maxSteps := 1000000) (disch := first | omega | (simp only [LN, numOk, verOk, rfP, rvP, rhP, frP, hln, hg, hu, hu2, hs1, hss, hset] <;> omega) | exact Ck.mk rfl) only [ee, VC, T, Nat.reduceMul, Nat.reduceAdd, Nat.reduceSub, Nat.reduceLT, Nat.reduceEqDiff, Nat.reduceLeDiff, Nat.reduceBEq, reduceCtorEq, Int.reduceToNat, ↓reduceIte, rfP, rvP, rhP, frP, hln, hg, hu, hu2, hs1, hss, hset]) <;> (try clear ee))
    · refine hN (i + 1) _ (by omega) (by omega) ?_
      (simp (disch := first | omega | (simp only [LN, numOk, verOk] <;> omega) | exact Ck.mk rfl) only [SB, EQ, Nat.reduceMul, Nat.reduceAdd, Nat.reduceSub, Nat.reduceLT, Nat.reduceEqDiff, Nat.reduceLeDiff, Nat.reduceBEq, reduceCtorEq, Int.reduceToNat, ↓reduceIte]; try omega)
    · obtain rfl : i = xs.length := by omega
      rw [← hM]
      exact fin_t [] (⟨rfl, rfl⟩) rfl (by simp [RV, RV2, RVl, RV1, tau, tget, hget, data1, oneOf]) (by simp [RH, RVl, RV1, tau, hget, data1]) (by simp [Taus, hget])
/-- A disk whose rows are one's own, from the key K on. -/
def dkR (K : Nat) (d : Dk) : PV := .agg [.row K d.1.length, .row (K + 1) d.2.1.length, .row (K + 2) d.2.2.1.length, .row (K + 3) d.2.2.2.1.length, .int .i64 d.2.2.2.2.1, .int .i64 d.2.2.2.2.2]
def dkH (d : Dk) : Hp := [(64, .row ⟨3, 0⟩ (d.1.map ndP)), (65, .row ⟨2, 0⟩ (d.2.1.map enP)), (66, .row ⟨2, 0⟩ (d.2.2.1.map enP)), (67, .row ⟨1, 0⟩ (d.2.2.2.1.map .str))]
theorem laws_toDisk_R (d : Dk) (h : DkOk d) : FnE Tryz.prog 8 [dkP d] [] (fun r m => r = dkR 64 d ∧ m = dkH d) := by
  obtain ⟨ns, es, os, ss, r, x⟩ := d
  have h1 := h.ns
  have h2 := h.es
  have h3 := h.os
  have h4 := h.ss
  simp only at h1 h2 h3 h4
  unfold dkP
  refine fn_e tok (n := 27) (rs := [.cell 2 35]) Tryz.func8 (by decide) rfl rfl rfl rfl (low_of rfl) ?_
  refine Wr.go ?_
  repeat' ((first | (have ee := True.intro; refine Wr.mk ?_) | ((first | refine br_go ?_ ?_ | refine pick_go ?_ ?_) <;> intro ee f <;> (try simp only [BB] at f) <;> (try simp only [numOk, verOk] at f)) | (have ee := True.intro; first | (refine call_h [] [] (laws_toNodeS_R ns (by omega)) (by decide) rfl rfl ?_; rintro _ _ ⟨rfl, rfl⟩) | (refine call_h [] [] (laws_toEntryS_R es (by omega)) (by decide) rfl rfl ?_; rintro _ _ ⟨rfl, rfl⟩) | (refine call_h [] [] (laws_toEntryS_R os (by omega)) (by decide) rfl rfl ?_; rintro _ _ ⟨rfl, rfl⟩) | (refine call_h [] [] (laws_toStr_R ss (by omega)) (by decide) rfl rfl ?_; rintro _ _ ⟨rfl, rfl⟩))) <;> (try simp (maxSteps := 1000000) (disch := first | omega | (simp only [LN, numOk, verOk, rfP, rvP, rhP, frP] <;> omega) | exact Ck.mk rfl) only [ee, VC, T, Nat.reduceMul, Nat.reduceAdd, Nat.reduceSub, Nat.reduceLT, Nat.reduceEqDiff, Nat.reduceLeDiff, Nat.reduceBEq, reduceCtorEq, Int.reduceToNat, ↓reduceIte, rfP, rvP, rhP, frP]) <;> (try clear ee))
  exact fin_t [some 448, some 704, some 960, some 1216] (⟨rfl, rfl⟩) rfl (by simp [RV, RV2, RVl, RV1, tau, tget, hget, data1, oneOf, dkR, dkH]) (by simp [RH, RVl, RV1, tau, hget, data1, dkR, dkH]) (by simp [Taus, hget, dkR, dkH])
theorem laws_toDisk (d : Dk) (h : DkOk d) : Fn Tryz.prog 8 [dkP d] [] (dkP d) [] := by
  obtain ⟨_, _, ⟨rfl, rfl⟩, k⟩ := laws_toDisk_R d h
  refine k.far ?_
  simp [fz, fz2, fz1, cvtl, elems, dkR, dkH, dkP, hget, data1]
theorem laws_eqDisk_W (x y : Dk) (hx : DkW x) : Fn Tryz.prog 11 [dkP x, dkP y] [] (.bool (decide (x = y))) [] := by
  obtain ⟨ns, es, os, ss, r, n⟩ := x
  obtain ⟨ns', es', os', ss', r', n'⟩ := y
  have h1 := hx.ns
  have h2 := hx.es
  have h3 := hx.os
  have h4 := hx.ss
  simp only at h1 h2 h3 h4
  unfold dkP
  refine fn_x tok (n := 39) (rs := [.tmp 4]) Tryz.func11 (by decide) rfl rfl rfl rfl ?_
  refine Wr.go ?_
  repeat' ((first | (have ee := True.intro; refine Wr.mk ?_) | ((first | refine br_go ?_ ?_ | refine pick_go ?_ ?_) <;> intro ee f <;> (try simp only [BB] at f) <;> (try simp only [numOk, verOk] at f)) | (have ee := True.intro; first | refine call_x (laws_eqNodeS ns ns' (by omega)) rfl ⟨rfl⟩ ?_ | refine call_x (laws_eqEntryS es es' (by omega)) rfl ⟨rfl⟩ ?_ | refine call_x (laws_eqEntryS os os' (by omega)) rfl ⟨rfl⟩ ?_ | refine call_x (laws_eqStr ss ss' (by omega)) rfl ⟨rfl⟩ ?_)) <;> (try simp (maxSteps := 1000000) (disch := first | omega | (simp only [LN, numOk, verOk, rfP, rvP, rhP, frP] <;> omega) | exact Ck.mk rfl) only [ee, VC, T, Nat.reduceMul, Nat.reduceAdd, Nat.reduceSub, Nat.reduceLT, Nat.reduceEqDiff, Nat.reduceLeDiff, Nat.reduceBEq, reduceCtorEq, Int.reduceToNat, ↓reduceIte, rfP, rvP, rhP, frP]) <;> (try clear ee))
  all_goals simp_all
theorem laws_szDisk (d : Dk) (n : Int) (hn : 0 ≤ n ∧ n ≤ 1048576) (h1 : d.1.length ≤ 9223372036854775807) (h2 : d.2.1.length ≤ 9223372036854775807) (h3 : d.2.2.1.length ≤ 9223372036854775807) (h4 : d.2.2.2.1.length ≤ 9223372036854775807)
    (k1 : ∀ x ∈ d.1, x.2.1.size ≤ 9223372036854775807) (k2 : ∀ x ∈ d.2.1, x.1.size ≤ 9223372036854775807) (k3 : ∀ x ∈ d.2.2.1, x.1.size ≤ 9223372036854775807) (k4 : ∀ x ∈ d.2.2.2.1, x.size ≤ 9223372036854775807) :
    FnV Tryz.prog 5 [dkP d, .int .i64 n] (fun r => ∃ m : Int, r = .int .i64 m ∧ (0 ≤ m → DkOk d) ∧ -1 ≤ m ∧ m ≤ n) := by
  obtain ⟨ns, es, os, ss, r, x⟩ := d
  simp only at h1 h2 h3 h4 k1 k2 k3 k4
  unfold dkP
  have p1 := sumF_pos ndZ ndZ_pos ns
  have p2 := sumF_pos enZ enZ_pos es
  have p3 := sumF_pos enZ enZ_pos os
  have p4 := sumSz_pos ss
  refine fn_v tok (n := 30) (rs := [.tmp 4]) Tryz.func5 (by decide) rfl rfl rfl rfl ?_
  refine Wr.go ?_
  repeat' ((first | (have ee := True.intro; refine Wr.mk ?_) | ((first | refine br_go ?_ ?_ | refine pick_go ?_ ?_) <;> intro ee f <;> (try simp only [BB] at f) <;> (try simp only [numOk, verOk] at f))) <;> (try simp (maxSteps := 1000000) (disch := first | omega | (simp only [LN, numOk, verOk, rfP, rvP, rhP, frP] <;> omega) | exact Ck.mk rfl) only [ee, VC, T, Nat.reduceMul, Nat.reduceAdd, Nat.reduceSub, Nat.reduceLT, Nat.reduceEqDiff, Nat.reduceLeDiff, Nat.reduceBEq, reduceCtorEq, Int.reduceToNat, ↓reduceIte, rfP, rvP, rhP, frP]) <;> (try clear ee))
  refine call_v (laws_szNodeS ns n hn h1 k1) rfl ?_
  rintro _ ⟨m1, rfl, q1, q2, q3⟩
  refine ⟨⟨rfl⟩, ?_⟩
  refine Wr.go ?_
  repeat' ((first | (have ee := True.intro; refine Wr.mk ?_) | ((first | refine br_go ?_ ?_ | refine pick_go ?_ ?_) <;> intro ee f <;> (try simp only [BB] at f) <;> (try simp only [numOk, verOk] at f))) <;> (try simp (maxSteps := 1000000) (disch := first | omega | (simp only [LN, numOk, verOk, rfP, rvP, rhP, frP] <;> omega) | exact Ck.mk rfl) only [ee, VC, T, Nat.reduceMul, Nat.reduceAdd, Nat.reduceSub, Nat.reduceLT, Nat.reduceEqDiff, Nat.reduceLeDiff, Nat.reduceBEq, reduceCtorEq, Int.reduceToNat, ↓reduceIte, rfP, rvP, rhP, frP]) <;> (try clear ee))
  · exact ⟨-1, rfl, fun h => by omega, by omega, by omega⟩
  · refine call_v (laws_szEntryS es m1 (by omega) h2 k2) rfl ?_
    rintro _ ⟨m2, rfl, q4, q5, q6⟩
    refine ⟨⟨rfl⟩, ?_⟩
    refine Wr.go ?_
    repeat' ((first | (have ee := True.intro; refine Wr.mk ?_) | ((first | refine br_go ?_ ?_ | refine pick_go ?_ ?_) <;> intro ee f <;> (try simp only [BB] at f) <;> (try simp only [numOk, verOk] at f))) <;> (try simp (maxSteps := 1000000) (disch := first | omega | (simp only [LN, numOk, verOk, rfP, rvP, rhP, frP] <;> omega) | exact Ck.mk rfl) only [ee, VC, T, Nat.reduceMul, Nat.reduceAdd, Nat.reduceSub, Nat.reduceLT, Nat.reduceEqDiff, Nat.reduceLeDiff, Nat.reduceBEq, reduceCtorEq, Int.reduceToNat, ↓reduceIte, rfP, rvP, rhP, frP]) <;> (try clear ee))
    · exact ⟨-1, rfl, fun h => by omega, by omega, by omega⟩
    · refine call_v (laws_szEntryS os m2 (by omega) h3 k3) rfl ?_
      rintro _ ⟨m3, rfl, q7, q8, q9⟩
      refine ⟨⟨rfl⟩, ?_⟩
      refine Wr.go ?_
      repeat' ((first | (have ee := True.intro; refine Wr.mk ?_) | ((first | refine br_go ?_ ?_ | refine pick_go ?_ ?_) <;> intro ee f <;> (try simp only [BB] at f) <;> (try simp only [numOk, verOk] at f))) <;> (try simp (maxSteps := 1000000) (disch := first | omega | (simp only [LN, numOk, verOk, rfP, rvP, rhP, frP] <;> omega) | exact Ck.mk rfl) only [ee, VC, T, Nat.reduceMul, Nat.reduceAdd, Nat.reduceSub, Nat.reduceLT, Nat.reduceEqDiff, Nat.reduceLeDiff, Nat.reduceBEq, reduceCtorEq, Int.reduceToNat, ↓reduceIte, rfP, rvP, rhP, frP]) <;> (try clear ee))
      · exact ⟨-1, rfl, fun h => by omega, by omega, by omega⟩
      · refine call_v (laws_szStringS ss m3 (by omega) h4 k4) rfl ?_
        rintro _ ⟨m4, rfl, q10, q11, q12⟩
        refine ⟨⟨rfl⟩, ?_⟩
        refine Wr.go ?_
        repeat' ((first | (have ee := True.intro; refine Wr.mk ?_) | ((first | refine br_go ?_ ?_ | refine pick_go ?_ ?_) <;> intro ee f <;> (try simp only [BB] at f) <;> (try simp only [numOk, verOk] at f))) <;> (try simp (maxSteps := 1000000) (disch := first | omega | (simp only [LN, numOk, verOk, rfP, rvP, rhP, frP] <;> omega) | exact Ck.mk rfl) only [ee, VC, T, Nat.reduceMul, Nat.reduceAdd, Nat.reduceSub, Nat.reduceLT, Nat.reduceEqDiff, Nat.reduceLeDiff, Nat.reduceBEq, reduceCtorEq, Int.reduceToNat, ↓reduceIte, rfP, rvP, rhP, frP]) <;> (try clear ee))
        · exact ⟨-1, rfl, fun h => by omega, by omega, by omega⟩
        · refine ⟨m4, rfl, fun h => ?_, by omega, by omega⟩
          have e1 := q1 (by omega)
          have e2 := q4 (by omega)
          have e3 := q7 (by omega)
          have e4 := q10 h
          refine ⟨by simp only; omega, by simp only; omega, by simp only; omega, by simp only; omega, fun y hy => ?_, fun y hy => ?_, fun y hy => ?_, fun y hy => ?_⟩
          · have : (y.2.1.size : Int) ≤ sumF ndZ ns := sumF_mem ndZ ndZ_pos hy
            omega
          · have : (y.1.size : Int) ≤ sumF enZ es := sumF_mem enZ enZ_pos hy
            omega
          · have : (y.1.size : Int) ≤ sumF enZ os := sumF_mem enZ enZ_pos hy
            omega
          · have : (y.size : Int) ≤ sumSz ss := sumSz_mem hy
            omega
theorem laws_markDisk_W (d : Dk) (k : Int) (h : DkW d) (hk : 0 ≤ k ∧ k ≤ 1073741824) (t1 t2 t3 t4 : TypeId) :
    FnE Tryz.prog 13 [dkR 0 d, .int .i64 k] [(0, .row ⟨3, t1⟩ (d.1.map ndP)), (1, .row ⟨2, t2⟩ (d.2.1.map enP)), (2, .row ⟨2, t3⟩ (d.2.2.1.map enP)), (3, .row ⟨1, t4⟩ (d.2.2.2.1.map .str))]
      (fun r m => r = .int .i64 (k + 3 * d.1.length + 2 * d.2.1.length + 2 * d.2.2.1.length + d.2.2.2.1.length) ∧ m = [(0, .row ⟨3, t1⟩ (((seqL d.1.length 0).map (mkNd k)).map ndP)), (1, .row ⟨2, t2⟩ (((seqL d.2.1.length 0).map (mkEt (k + 3 * d.1.length))).map enP)),
        (2, .row ⟨2, t3⟩ (((seqL d.2.2.1.length 0).map (mkEt (k + 3 * d.1.length + 2 * d.2.1.length))).map enP)), (3, .row ⟨1, t4⟩ (((seqL d.2.2.2.1.length (k + 3 * d.1.length + 2 * d.2.1.length + 2 * d.2.2.1.length)).map markT).map .str))]) := by
  obtain ⟨ns, es, os, ss, r, x⟩ := d
  have h1 := h.ns
  have h2 := h.es
  have h3 := h.os
  have h4 := h.ss
  simp only at h1 h2 h3 h4
  unfold dkR
  refine fn_e tok (n := 22) (rs := [.tmp 4]) Tryz.func13 (by decide) rfl rfl rfl rfl (low_of rfl) ?_
  refine Wr.go ?_
  repeat' ((first | (have ee := True.intro; refine Wr.mk ?_) | ((first | refine br_go ?_ ?_ | refine pick_go ?_ ?_) <;> intro ee f <;> (try simp only [BB] at f) <;> (try simp only [numOk, verOk] at f)) | (have ee := True.intro; first | (refine call_h [0] [] (laws_markNodeS ns k (by omega) (by omega) t1) (by decide) rfl rfl ?_; rintro _ _ ⟨rfl, rfl⟩) | (refine call_h [1] [] (laws_markEntryS es _ (by omega) (by omega) t2) (by decide) rfl rfl ?_; rintro _ _ ⟨rfl, rfl⟩) | (refine call_h [2] [] (laws_markEntryS os _ (by omega) (by omega) t3) (by decide) rfl rfl ?_; rintro _ _ ⟨rfl, rfl⟩) | (refine call_h [3] [] (laws_markStringS ss _ (by omega) (by omega) t4) (by decide) rfl rfl ?_; rintro _ _ ⟨rfl, rfl⟩))) <;> (try simp (maxSteps := 1000000) (disch := first | omega | (simp only [LN, numOk, verOk, rfP, rvP, rhP, frP, seqL_length, List.length_map] <;> omega) | exact Ck.mk rfl) only [ee, VC, T, Nat.reduceMul, Nat.reduceAdd, Nat.reduceSub, Nat.reduceLT, Nat.reduceEqDiff, Nat.reduceLeDiff, Nat.reduceBEq, reduceCtorEq, Int.reduceToNat, ↓reduceIte, rfP, rvP, rhP, frP, seqL_length, List.length_map]) <;> (try clear ee))
  exact fin_t [] (⟨rfl, rfl⟩) rfl (by simp [RV, RV2, RVl, RV1, tau, tget, hget, data1, oneOf]) (by simp [RH, RVl, RV1, tau, hget, data1]) (by simp [Taus, hget])
end Go.Pv

/- What functions of the program and of the reference do, in plain values. -/
namespace Go.Pv
open Go.Proofs Go.Mth
set_option linter.unusedSimpArgs false
set_option linter.unusedVariables false
set_option maxHeartbeats 4000000
set_option maxRecDepth 4000

/-! ### laws of disks -/
def DkIn (d : Dk) : Prop := (d.1.length ≤ 9223372036854775807 ∧ ∀ a ∈ d.1, i64 a.1 ∧ a.2.1.size ≤ 9223372036854775807 ∧ i64 a.2.2) ∧ (d.2.1.length ≤ 9223372036854775807 ∧ ∀ a ∈ d.2.1, a.1.size ≤ 9223372036854775807 ∧ i64 a.2) ∧ (d.2.2.1.length ≤ 9223372036854775807 ∧ ∀ a ∈ d.2.2.1, a.1.size ≤ 9223372036854775807 ∧ i64 a.2) ∧
  (d.2.2.2.1.length ≤ 9223372036854775807 ∧ ∀ a ∈ d.2.2.2.1, a.size ≤ 9223372036854775807) ∧ i64 d.2.2.2.2.1 ∧ i64 d.2.2.2.2.2
theorem sz_disk (d : Dk) (h : DkIn d) : FnV Tryz.prog 5 [dkP d, .int .i64 1048576] (fun r => ∃ m : Int, r = .int .i64 m ∧ (0 ≤ m → DkOk d) ∧ -1 ≤ m ∧ m ≤ 1048576) :=
  laws_szDisk d 1048576 (by decide) h.1.1 h.2.1.1 h.2.2.1.1 h.2.2.2.1.1 (fun x hx => (h.1.2 x hx).2.1) (fun x hx => (h.2.1.2 x hx).1) (fun x hx => (h.2.2.1.2 x hx).1) (fun x hx => h.2.2.2.1.2 x hx)
end Go.Pv

/- Deeds on disks, in plain numbers. -/
namespace Go.Mth
open Go.RowKit

/-! ### right names -/
def nmB (x : Int) : Prop := (97 ≤ x ∧ x ≤ 122) ∨ (48 ≤ x ∧ x ≤ 57) ∨ x = 46 ∨ x = 45
instance (x : Int) : Decidable (nmB x) := inferInstanceAs (Decidable (_ ∨ _))
def nmOk (b : ByteArray) : Prop := (∀ i : Nat, i < b.size → nmB (bt b i)) ∧ 1 ≤ b.size ∧ b.size ≤ 20
instance (b : ByteArray) : Decidable (nmOk b) := inferInstanceAs (Decidable (_ ∧ _))

/-! ### decimals -/
def decN : Int → List Int → Option Int
  | a, [] => some a
  | a, x :: r => if 48 ≤ x ∧ x ≤ 57 then decN (10 * a + (x - 48)) r else none
theorem decN_step (a : Int) (L : List Int) (i : Nat) (h : i < L.length) : decN a (L.drop i) = if 48 ≤ L.getD i default ∧ L.getD i default ≤ 57 then decN (10 * a + (L.getD i default - 48)) (L.drop (i + 1)) else none := by
  rw [List.drop_eq_getElem_cons h, List.getD_eq_getElem?_getD, List.getElem?_eq_getElem h]; rfl
def decL : Nat → Int → List Int
  | 0, _ => []
  | k + 1, n => if n = 0 then [] else decL k (n / 10) ++ [48 + n % 10]
def decT (n : Int) : ByteArray := if n = 0 then strOf [48] else strOf (decL 20 n)
theorem decL_range : ∀ (k : Nat) (n : Int), ∀ x ∈ decL k n, 48 ≤ x ∧ x ≤ 57
  | 0, _, x, h => by simp [decL] at h
  | k + 1, n, x, h => by
    unfold decL at h
    split at h
    · simp at h
    · rcases List.mem_append.1 h with h | h
      · exact decL_range k _ x h
      · rw [List.mem_singleton] at h; omega
/-- A decimal of a number that is at most 1000000000. -/
def rdec (t : ByteArray) : Int × Bool := match decN 0 (bytesOf t) with
  | some n => if t.size ≤ 10 ∧ n ≤ 1000000000 ∧ decT n = t then (n, true) else (0, false)
  | none => (0, false)

/-! ### entries -/
def hasT (L : List Et) (n : ByteArray) : Prop := 0 ≤ placeI L n
instance (L : List Et) (n : ByteArray) : Decidable (hasT L n) := inferInstanceAs (Decidable (_ ≤ _))
def dropT (L : List Et) (n : ByteArray) : List Et := L.filter fun e => decide (e.1 ≠ n)
def sLt (a b : ByteArray) : Bool := Op.bytesLess a.toList b.toList
/-- With an entry more: ahead of the first that is not below it, and in the place of those of its name. -/
def putG (e : Et) : Bool → List Et → List Et
  | d, [] => if d then [] else [e]
  | d, x :: r => (if d = false ∧ sLt x.1 e.1 = false then [e] else []) ++ (if x.1 = e.1 then [] else [x]) ++ putG e (d || !sLt x.1 e.1) r
def putT (L : List Et) (e : Et) : List Et := putG e false L

/-! ### steps -/
def colI (s : ByteArray) : Int := findI (fun x : Int => decide (x = 58)) ((bytesOf s).drop 1) 1
/-- What a step says: a name, another one, a number, and whether it is right. -/
def stT (s : ByteArray) : ByteArray × ByteArray × Int × Bool :=
  if s.size < 2 ∨ (bt s 0 ≠ 43 ∧ bt s 0 ≠ 45 ∧ bt s 0 ≠ 62) then (⟨#[]⟩, ⟨#[]⟩, 0, false)
  else if bt s 0 = 45 then (s.extract 1 s.size, ⟨#[]⟩, 0, true)
  else if colI s < 0 then (⟨#[]⟩, ⟨#[]⟩, 0, false)
  else if bt s 0 = 62 then (s.extract 1 (colI s).toNat, s.extract ((colI s).toNat + 1) s.size, 0, decide (nmOk (s.extract ((colI s).toNat + 1) s.size)) && !decide (s.extract 1 (colI s).toNat = s.extract ((colI s).toNat + 1) s.size))
  else (s.extract 1 (colI s).toNat, ⟨#[]⟩, (rdec (s.extract ((colI s).toNat + 1) s.size)).1, (rdec (s.extract ((colI s).toNat + 1) s.size)).2 && decide (nmOk (s.extract 1 (colI s).toNat)))
/-- The entries behind a step. -/
def sdT (L : List Et) (s : ByteArray) : Option (List Et) :=
  if (stT s).2.2.2 = true ∧ nmOk (stT s).1 ∧ (bt s 0 = 43 ∨ hasT L (stT s).1) then
    some (if bt s 0 = 43 then putT L ((stT s).1, (stT s).2.2.1) else if bt s 0 = 45 then dropT L (stT s).1 else putT (dropT L (stT s).1) ((stT s).2.1, if bt s 0 = 62 then entT L (stT s).1 else (stT s).2.2.1))
  else none
def sgT : List Et → List ByteArray → List Et × Bool
  | L, [] => (L, true)
  | L, s :: r => match sdT L s with
    | some L2 => sgT L2 r
    | none => ([], false)
theorem sgT_step (L : List Et) (S : List ByteArray) (i : Nat) (h : i < S.length) : sgT L (S.drop i) = match sdT L (S.getD i default) with
    | some L2 => sgT L2 (S.drop (i + 1))
    | none => ([], false) := by
  rw [List.drop_eq_getElem_cons h, List.getD_eq_getElem?_getD, List.getElem?_eq_getElem h]; rfl
/-- The entries behind the first k steps. -/
def stepsT (d : Dk) (k : Nat) : List Et × Bool := sgT d.2.2.1 (d.2.2.2.1.take k)

/-! ### right disks -/
def usedT (d : Dk) : Int := (d.1.map fun x => (x.2.1.size : Int)).sum
def entsOk (d : Dk) (L : List Et) : Prop := (∀ i : Nat, i < L.length → nmOk (L.getD i default).1 ∧ 0 ≤ nodeI d.1 (L.getD i default).2 ∧ (0 < i → sLt (L.getD (i - 1) default).1 (L.getD i default).1 = true)) ∧ L.length ≤ 16
instance (d : Dk) (L : List Et) : Decidable (entsOk d L) := inferInstanceAs (Decidable (_ ∧ _))
def nodesOk (d : Dk) : Prop := ∀ i : Nat, i < d.1.length → (1 ≤ (d.1.getD i default).1 ∧ (d.1.getD i default).1 ≤ d.2.2.2.2.2 - 1) ∧ (0 ≤ (d.1.getD i default).2.2 ∧ (d.1.getD i default).2.2 ≤ (d.1.getD i default).2.1.size) ∧ (0 < i → (d.1.getD (i - 1) default).1 < (d.1.getD i default).1)
instance (d : Dk) : Decidable (nodesOk d) := by unfold nodesOk; infer_instance
def stepsOk (d : Dk) : Prop := ∀ k : Nat, k < d.2.2.2.1.length + 1 → (stepsT d k).2 = true ∧ entsOk d (stepsT d k).1 ∧ (k = d.2.2.2.1.length → (stepsT d k).1 = d.2.1)
instance (d : Dk) : Decidable (stepsOk d) := by unfold stepsOk; infer_instance
def diskOk (d : Dk) : Prop := (d.1.length ≤ 64 ∧ (0 ≤ d.2.2.2.2.1 ∧ d.2.2.2.2.1 ≤ 1000000000) ∧ (1 ≤ d.2.2.2.2.2 ∧ d.2.2.2.2.2 ≤ 1000000000) ∧ usedT d ≤ d.2.2.2.2.1) ∧ nodesOk d ∧ stepsOk d
instance (d : Dk) : Decidable (diskOk d) := inferInstanceAs (Decidable (_ ∧ _))

/-! ### deeds -/
def usedB (d : Dk) (id : Int) : Prop := ∃ k : Nat, k < d.2.2.2.1.length + 1 ∧ ∃ e ∈ (stepsT d k).1, e.2 = id
instance (d : Dk) (id : Int) : Decidable (usedB d id) := by unfold usedB; infer_instance
def setNd (d : Dk) (k : Nat) (x : Nd) : Dk := (d.1.set k x, d.2)
def syncT (d : Dk) (n : ByteArray) : Dk × Int :=
  if ¬ diskOk d ∨ ¬ hasT d.2.1 n then (d, 3)
  else (setNd d (nodeI d.1 (entT d.2.1 n)).toNat ((d.1.getD (nodeI d.1 (entT d.2.1 n)).toNat default).1, (d.1.getD (nodeI d.1 (entT d.2.1 n)).toNat default).2.1, (d.1.getD (nodeI d.1 (entT d.2.1 n)).toNat default).2.1.size), 0)
end Go.Mth

/- Laws of rows and of deeds, in plain numbers. -/
namespace Go.Mth
open Go.RowKit

/-! ### texts in order -/
theorem bl_trans : ∀ {a b c : List UInt8}, Op.bytesLess a b = true → Op.bytesLess b c = true → Op.bytesLess a c = true
  | _, [], _, h, _ => by cases ‹List UInt8› <;> simp [Op.bytesLess] at h
  | _, _ :: _, [], _, h => by simp [Op.bytesLess] at h
  | [], _ :: _, _ :: _, _, _ => by simp [Op.bytesLess]
  | x :: a, y :: b, z :: c, h1, h2 => by
    simp only [Op.bytesLess, Bool.or_eq_true, Bool.and_eq_true, decide_eq_true_eq, beq_iff_eq] at *
    rcases h1 with h1 | ⟨rfl, h1⟩
    · rcases h2 with h2 | ⟨rfl, h2⟩
      · exact .inl (UInt8.lt_trans h1 h2)
      · exact .inl h1
    · rcases h2 with h2 | ⟨rfl, h2⟩
      · exact .inl h2
      · exact .inr ⟨rfl, bl_trans h1 h2⟩
theorem sLt_trans {a b c : ByteArray} (h1 : sLt a b = true) (h2 : sLt b c = true) : sLt a c = true := bl_trans h1 h2
/-- Names, each ahead of the next one. -/
theorem asc_pairs : ∀ (L : List ByteArray), (∀ i : Nat, i + 1 < L.length → sLt (L.getD i default) (L.getD (i + 1) default) = true) → L.Pairwise fun a b => sLt a b = true
  | [], _ => List.Pairwise.nil
  | [a], _ => List.pairwise_singleton _ _
  | a :: b :: r, h => by
    have ih := asc_pairs (b :: r) (fun i hi => h (i + 1) (by simpa using hi))
    have h0 : sLt a b = true := h 0 (by simp)
    refine List.pairwise_cons.2 ⟨fun c hc => ?_, ih⟩
    rcases List.mem_cons.1 hc with rfl | hc
    · exact h0
    · exact sLt_trans h0 ((List.pairwise_cons.1 ih).1 c hc)
theorem entsOk_pairs {d : Dk} {L : List Et} (h : entsOk d L) : (L.map (·.1)).Pairwise fun a b => sLt a b = true := by
  refine asc_pairs _ fun i hi => ?_
  rw [List.length_map] at hi
  have := (h.1 (i + 1) hi).2.2 (by omega)
  rw [Nat.add_sub_cancel] at this
  have e : ∀ k, k < L.length → (L.map (·.1)).getD k default = (L.getD k default).1 := fun k hk => by
    rw [List.getD_eq_getElem?_getD, List.getElem?_map, List.getElem?_eq_getElem hk, List.getD_eq_getElem?_getD, List.getElem?_eq_getElem hk]; rfl
  rw [e i (by omega), e (i + 1) hi]
  exact this
theorem diskOk_ents {d : Dk} (h : diskOk d) : entsOk d d.2.1 := by
  obtain ⟨h1, h2, h3⟩ := h.2.2 d.2.2.2.1.length (Nat.lt_succ_self _)
  rw [h3 rfl] at h2
  exact h2
theorem entT_has (L : List Et) (n : ByteArray) (h : hasT L n) : ∃ i : Nat, i < L.length ∧ entT L n = (L.getD i default).2 := by
  unfold hasT at h
  rcases placeI_r L n with h1 | ⟨h1, h2⟩
  · omega
  · exact ⟨(placeI L n).toNat, by omega, by unfold entT; rw [if_neg (by omega)]⟩
/-- The node of a name of a right disk is there. -/
theorem node_there {d : Dk} {n : ByteArray} (h : diskOk d) (hn : hasT d.2.1 n) : 0 ≤ nodeI d.1 (entT d.2.1 n) ∧ nodeI d.1 (entT d.2.1 n) < d.1.length := by
  obtain ⟨i, hi, e⟩ := entT_has _ _ hn
  have h1 := ((diskOk_ents h).1 i hi).2.1
  rw [← e] at h1
  rcases nodeI_r d.1 (entT d.2.1 n) with h2 | h2
  · omega
  · exact h2
end Go.Mth

/- Disks made of constants, in plain numbers. -/
namespace Go.Mth
open Go.RowKit

def one : ByteArray := ⟨#[97]⟩
end Go.Mth

/- Bounds of what deeds make, in plain numbers. -/
namespace Go.Mth
open Go.RowKit
set_option linter.unusedVariables false

theorem colI_def (s : ByteArray) : colI s = findI (fun x : Int => decide (x = 58)) ((bytesOf s).drop 1) 1 := rfl
def stNo (s : ByteArray) : Prop := s.size < 2 ∨ (bt s 0 ≠ 43 ∧ bt s 0 ≠ 45 ∧ bt s 0 ≠ 62)
theorem stT_A (s : ByteArray) (h : stNo s) : stT s = (⟨#[]⟩, ⟨#[]⟩, 0, false) := if_pos h
theorem stT_B (s : ByteArray) (h : ¬ stNo s) (h2 : bt s 0 = 45) : stT s = (s.extract 1 s.size, ⟨#[]⟩, 0, true) := by
  unfold stNo at h; unfold stT; rw [if_neg h, if_pos h2]
theorem stT_C (s : ByteArray) (h : ¬ stNo s) (h2 : ¬ bt s 0 = 45) (h3 : colI s = -1) : stT s = (⟨#[]⟩, ⟨#[]⟩, 0, false) := by
  unfold stNo at h; unfold stT; rw [if_neg h, if_neg h2, if_pos (by omega)]
theorem stT_D (s : ByteArray) (h : ¬ stNo s) (h2 : bt s 0 = 62) (c : Nat) (h3 : colI s = (c : Int)) : stT s = (s.extract 1 c, s.extract (c + 1) s.size, 0, decide (nmOk (s.extract (c + 1) s.size)) && !decide (s.extract 1 c = s.extract (c + 1) s.size)) := by
  unfold stNo at h; unfold stT; rw [if_neg h, if_neg (by omega), if_neg (by omega), if_pos h2, h3, Int.toNat_natCast]
theorem stT_E (s : ByteArray) (h : ¬ stNo s) (h2 : bt s 0 = 43) (c : Nat) (h3 : colI s = (c : Int)) : stT s = (s.extract 1 c, ⟨#[]⟩, (rdec (s.extract (c + 1) s.size)).1, (rdec (s.extract (c + 1) s.size)).2 && decide (nmOk (s.extract 1 c))) := by
  unfold stNo at h; unfold stT; rw [if_neg h, if_neg (by omega), if_neg (by omega), if_neg (by omega), h3, Int.toNat_natCast]
theorem ex_le (s : ByteArray) (i j : Nat) : (s.extract i j).size ≤ s.size := by rw [ByteArray.size_extract]; omega
theorem putG_step (e : Et) (d : Bool) (L : List Et) (i : Nat) (h : i < L.length) : putG e d (L.drop i) = (if d = false ∧ sLt (L.getD i default).1 e.1 = false then [e] else []) ++ (if (L.getD i default).1 = e.1 then [] else [L.getD i default]) ++ putG e (d || !sLt (L.getD i default).1 e.1) (L.drop (i + 1)) := by
  rw [List.drop_eq_getElem_cons h, List.getD_eq_getElem?_getD, List.getElem?_eq_getElem h]; rfl
theorem putG_len (e : Et) : ∀ (L : List Et) (d : Bool), (putG e d L).length ≤ L.length + 1
  | [], d => by unfold putG; split <;> simp
  | x :: r, d => by
    unfold putG
    have h1 := putG_len e r (d || !sLt x.1 e.1)
    have h2 : d = true → (putG e true r).length ≤ r.length := fun _ => by
      have : ∀ r : List Et, (putG e true r).length ≤ r.length := fun r => by
        induction r with
        | nil => simp [putG]
        | cons y r ih => simp only [putG, Bool.true_or, List.length_append, List.length_cons, Bool.true_eq_false, false_and, if_false, List.length_nil, Nat.zero_add]; split <;> simp <;> omega
      exact this r
    rw [List.length_append, List.length_append, List.length_cons]
    have h3 : (if x.1 = e.1 then ([] : List Et) else [x]).length ≤ 1 := by split <;> simp
    by_cases hc : d = false ∧ sLt x.1 e.1 = false
    · rw [if_pos hc, hc.1, hc.2]
      have h4 : (putG e true r).length ≤ r.length := by
        have : ∀ r : List Et, (putG e true r).length ≤ r.length := fun r => by
          induction r with
          | nil => simp [putG]
          | cons y r ih => simp only [putG, Bool.true_or, List.length_append, List.length_cons, Bool.true_eq_false, false_and, if_false, List.length_nil, Nat.zero_add]; split <;> simp <;> omega
        exact this r
      simp only [Bool.not_false, Bool.or_true, List.length_singleton] at *
      omega
    · rw [if_neg hc]
      simp only [List.length_nil]
      omega
theorem putT_len (L : List Et) (e : Et) : (putT L e).length ≤ L.length + 1 := putG_len e L false
theorem sdT_no (L : List Et) (s : ByteArray) (h : (stT s).2.2.2 = false ∨ ¬ nmOk (stT s).1 ∨ (¬ bt s 0 = 43 ∧ ¬ hasT L (stT s).1)) : sdT L s = none := by
  unfold sdT
  rw [if_neg]
  rintro ⟨h1, h2, h3⟩
  rcases h with h | h | h
  · rw [h1] at h; exact Bool.noConfusion h
  · exact h h2
  · exact h3.elim h.1 h.2
theorem sdT_43 (L : List Et) (s : ByteArray) (h : (stT s).2.2.2 = true) (hn : nmOk (stT s).1) (hc : bt s 0 = 43) : sdT L s = some (putT L ((stT s).1, (stT s).2.2.1)) := by
  unfold sdT
  rw [if_pos ⟨h, hn, .inl hc⟩, if_pos hc]
theorem sdT_45 (L : List Et) (s : ByteArray) (h : (stT s).2.2.2 = true) (hn : nmOk (stT s).1) (hc : bt s 0 = 45) (hh : hasT L (stT s).1) : sdT L s = some (dropT L (stT s).1) := by
  unfold sdT
  rw [if_pos ⟨h, hn, .inr hh⟩, if_neg (by omega), if_pos hc]
theorem sdT_62 (L : List Et) (s : ByteArray) (h : (stT s).2.2.2 = true) (hn : nmOk (stT s).1) (hc : bt s 0 = 62) (hh : hasT L (stT s).1) : sdT L s = some (putT (dropT L (stT s).1) ((stT s).2.1, entT L (stT s).1)) := by
  unfold sdT
  rw [if_pos ⟨h, hn, .inr hh⟩, if_neg (by omega), if_neg (by omega), if_pos hc]
theorem stT_ok (s : ByteArray) (h : (stT s).2.2.2 = true) : 2 ≤ s.size ∧ (bt s 0 = 43 ∨ bt s 0 = 45 ∨ bt s 0 = 62) := by
  by_cases hn : stNo s
  · rw [stT_A s hn] at h; exact Bool.noConfusion h
  · unfold stNo at hn; omega
theorem stT_le (s : ByteArray) : (stT s).1.size ≤ s.size ∧ (stT s).2.1.size ≤ s.size := by
  have h0 : (⟨#[]⟩ : ByteArray).size = 0 := rfl
  have he := ex_le s
  unfold stT
  split
  · exact ⟨Nat.zero_le _, Nat.zero_le _⟩
  · split
    · exact ⟨he _ _, Nat.zero_le _⟩
    · split
      · exact ⟨Nat.zero_le _, Nat.zero_le _⟩
      · split
        · exact ⟨he _ _, he _ _⟩
        · exact ⟨he _ _, Nat.zero_le _⟩
theorem dropT_len (L : List Et) (n : ByteArray) : (dropT L n).length ≤ L.length := List.length_filter_le _ _
theorem putG_mem (e : Et) : ∀ (L : List Et) (d : Bool) (x : Et), x ∈ putG e d L → x = e ∨ x ∈ L
  | [], d, x, h => by
    unfold putG at h
    split at h
    · simp at h
    · exact .inl (List.mem_singleton.1 h)
  | y :: r, d, x, h => by
    unfold putG at h
    rcases List.mem_append.1 h with h | h
    · rcases List.mem_append.1 h with h | h
      · split at h
        · exact .inl (List.mem_singleton.1 h)
        · simp at h
      · split at h
        · simp at h
        · rw [List.mem_singleton] at h; subst h; exact .inr List.mem_cons_self
    · rcases putG_mem e r _ x h with h | h
      · exact .inl h
      · exact .inr (List.mem_cons_of_mem _ h)
/-- What one step makes of entries of short names: entries of short names, at most one more. -/
theorem sdT_le (L : List Et) (s : ByteArray) (M : List Et) (n : Nat) (h : sdT L s = some M) (hL : ∀ e ∈ L, e.1.size ≤ n) (hs : s.size ≤ n) : M.length ≤ L.length + 1 ∧ ∀ e ∈ M, e.1.size ≤ n := by
  obtain ⟨h1, h2⟩ := stT_le s
  unfold sdT at h
  split at h
  · have h := Option.some.inj h
    subst h
    split
    · exact ⟨putT_len _ _, fun e he => (putG_mem _ _ _ _ he).elim (fun h => by rw [h]; simp only; omega) (hL e)⟩
    · split
      · exact ⟨Nat.le_trans (dropT_len _ _) (Nat.le_succ _), fun e he => hL e (List.mem_filter.1 he).1⟩
      · refine ⟨Nat.le_trans (putT_len _ _) (Nat.succ_le_succ (dropT_len _ _)), fun e he => ?_⟩
        rcases putG_mem _ _ _ _ he with h | h
        · rw [h]; simp only; omega
        · exact hL e (List.mem_filter.1 h).1
  · cases h
theorem sgT_le (n : Nat) : ∀ (S : List ByteArray) (L : List Et), (∀ e ∈ L, e.1.size ≤ n) → (∀ s ∈ S, s.size ≤ n) → (sgT L S).1.length ≤ L.length + S.length ∧ ∀ e ∈ (sgT L S).1, e.1.size ≤ n
  | [], L, h1, _ => ⟨Nat.le_refl _, h1⟩
  | s :: S, L, h1, h2 => by
    unfold sgT
    cases h : sdT L s with
    | none => exact ⟨Nat.zero_le _, fun e he => by simp at he⟩
    | some M =>
      obtain ⟨q1, q2⟩ := sdT_le L s M n h h1 (h2 s List.mem_cons_self)
      obtain ⟨q3, q4⟩ := sgT_le n S M q2 (fun x hx => h2 x (List.mem_cons_of_mem _ hx))
      simp only
      refine ⟨?_, q4⟩
      rw [List.length_cons]
      omega

/-! ### bounds of disks -/
structure DkB (a b : Nat) (d : Dk) : Prop where
  ns : d.1.length ≤ a
  es : d.2.1.length ≤ a
  os : d.2.2.1.length ≤ a
  ss : d.2.2.2.1.length ≤ a
  nt : ∀ n ∈ d.1, n.2.1.size ≤ b
  et : ∀ e ∈ d.2.1, e.1.size ≤ b
  ot : ∀ e ∈ d.2.2.1, e.1.size ≤ b
  st : ∀ s ∈ d.2.2.2.1, s.size ≤ b
theorem DkB.ok {a b : Nat} {d : Dk} (h : DkB a b d) (ha : a ≤ 1048576) (hb : b ≤ 1048576) : DkOk d :=
  ⟨Nat.le_trans h.ns ha, Nat.le_trans h.es ha, Nat.le_trans h.os ha, Nat.le_trans h.ss ha, fun x hx => Nat.le_trans (h.nt x hx) hb, fun x hx => Nat.le_trans (h.et x hx) hb, fun x hx => Nat.le_trans (h.ot x hx) hb, fun x hx => Nat.le_trans (h.st x hx) hb⟩
theorem DkB.mono {a b a' b' : Nat} {d : Dk} (h : DkB a b d) (ha : a ≤ a') (hb : b ≤ b') : DkB a' b' d :=
  ⟨Nat.le_trans h.ns ha, Nat.le_trans h.es ha, Nat.le_trans h.os ha, Nat.le_trans h.ss ha, fun x hx => Nat.le_trans (h.nt x hx) hb, fun x hx => Nat.le_trans (h.et x hx) hb, fun x hx => Nat.le_trans (h.ot x hx) hb, fun x hx => Nat.le_trans (h.st x hx) hb⟩
theorem setNd_W {d : Dk} (h : DkW d) (k : Nat) (x : Nd) (hx : x.2.1.size ≤ 1073741824) : DkW (setNd d k x) := by
  refine ⟨by show (d.1.set k x).length ≤ _; rw [List.length_set]; exact h.ns, h.es, h.os, h.ss, fun y hy => ?_, h.et, h.ot, h.st⟩
  rcases List.mem_or_eq_of_mem_set hy with hy | rfl
  · exact h.nt y hy
  · exact hx
theorem nd_leW {d : Dk} (h : DkW d) (k : Nat) : (d.1.getD k default).2.1.size ≤ 1073741824 := by
  by_cases hk : k < d.1.length
  · rw [List.getD_eq_getElem?_getD, List.getElem?_eq_getElem hk]; exact h.nt _ (List.getElem_mem _)
  · rw [List.getD_eq_getElem?_getD, List.getElem?_eq_none (by omega)]; exact Nat.zero_le _
theorem syncT_W {d : Dk} (h : DkW d) (n : ByteArray) : DkW (syncT d n).1 := by
  unfold syncT
  split
  · exact h
  · exact setNd_W h _ _ (nd_leW h _)
theorem flt_snoc {α : Type} [Inhabited α] (p : α → Bool) (L : List α) (i : Nat) (h : i < L.length) : (L.take (i + 1)).filter p = (L.take i).filter p ++ if p (L.getD i default) = true then [L.getD i default] else [] := by
  rw [take_snoc default L i h, List.filter_append]
  congr 1
  show List.filter p [rdOf default L i] = _
  have : rdOf default L (i : Int) = L.getD i default := rfl
  rw [this]
  cases hp : p (L.getD i default)
  · rw [List.filter_cons_of_neg (by rw [hp]; decide)]; rfl
  · rw [List.filter_cons_of_pos hp]; rfl
theorem eq_stp {α : Type} [Inhabited α] (xs ys : List α) (i : Nat) (hl : xs.length = ys.length) (hi : i < xs.length) (h : xs.take i = ys.take i) (he : xs.getD i default = ys.getD i default) : xs.take (i + 1) = ys.take (i + 1) := by
  rw [List.take_succ_eq_append_getElem hi, List.take_succ_eq_append_getElem (by omega), h]
  rw [List.getD_eq_getElem?_getD, List.getD_eq_getElem?_getD, List.getElem?_eq_getElem hi, List.getElem?_eq_getElem (by omega : i < ys.length)] at he
  exact congrArg (fun x => ys.take i ++ [x]) he
end Go.Mth

/- A row that is only read from then on; loops whose head is reached so. -/
namespace Go.Pv
open Go.RowKit
variable {P : Program} {T : Tab} {s : St}

/-- What stands in one state stands in another, too. -/
def Im (s' s : St) : Prop := ∀ (w0 : World) (V M : Bl) (Γ0 : Nat → Value) (h0 : Hp) (a : Act) (w : World), Rel w0 V M Γ0 h0 s a w → Rel w0 V M Γ0 h0 s' a w
theorem Im.sub {s' s : St} (h : Sub s' s) : Im s' s := fun _ _ _ _ _ _ _ R => h.rel R
theorem Im.trans {s3 s2 s1 : St} (h : Im s3 s2) (k : Im s2 s1) : Im s3 s1 := fun _ _ _ _ _ _ _ R => h _ _ _ _ _ _ _ (k _ _ _ _ _ _ _ R)
/-- A row is given up; what named it is a slice that is only read. -/
theorem Im.frz {s : St} (t : Tmp) (k : Nat) {n : Nat} {sz : Sz} {xs : List PV} (h1 : tget s.tm t = .row k n) (h2 : hget s.hp k = some (.row sz xs)) (h3 : n = xs.length) : Im ⟨s.n, (t, .far xs) :: s.tm, (k, .dead) :: s.hp⟩ s := fun w0 V M Γ0 h0 a w ⟨Γ, R⟩ => by
  have C := Chg.kill R (b := k) (by rw [h2]; simp)
  have R2 := C.rel R
  refine ⟨Γ, ⟨R2.kp, R2.defers, R2.size, R2.vlt, fun t' => ?_, R2.hp, R2.dis, R2.own, R2.gr, R2.low⟩⟩
  show VR w (Av V Γ ([(k, .dead)] ++ s.hp)) Γ ([(k, .dead)] ++ s.hp) (tget ((t, .far xs) :: s.tm) t') _
  by_cases e : t' = t
  · subst e
    have e2 : tget ((t', PV.far xs) :: s.tm) t' = .far xs := by simp [tget]
    rw [e2]
    have hx := R.tm t'
    rw [h1] at hx
    obtain ⟨ad, cap, hv, hc, hh⟩ := elems_vr (xs := xs) hx R.hp (by simp only [elems, h2]; rw [if_pos h3])
    rw [hv]
    refine .data ?_
    rcases hh with rfl | ⟨β, o, c, e, fr, z, rfl, hw, hz, hm, hav⟩
    · exact .far0 _ _
    · refine .far xs β o cap z c e fr ?_ hw hc hz (fun i x j y hx hy => (hm i x j y hx hy).1) fun i x j y hx hy => C.dr (hm i x j y hx hy).2
      rcases hav with hav | ⟨g', n', h3, hl, ho⟩
      · intro hb
        refine hav (hb.elim .inl fun ⟨k', l', o'⟩ => .inr ⟨k', (liveK l').2, o'⟩)
      · obtain rfl : g' = k := by
          rcases h3 with h3 | ⟨lo, hi, h3⟩
          · cases h3; rfl
          · cases h3
        intro hb
        rcases hb with hb | ⟨k', l', o'⟩
        · obtain ⟨p1, p2⟩ := R.vlt.1 β hb
          rcases R.own β ⟨g', hl, ho⟩ with p3 | p3
          · omega
          · exact p2 p3
        · exact (liveK l').1 (R.dis k' g' β (liveK l').2 hl o' ho)
  · have e2 : tget ((t, PV.far xs) :: s.tm) t' = tget s.tm t' := by simp [tget, e]
    rw [e2]
    exact R2.tm t'
theorem Im.go {s' s : St} (t : Tmp) (k : Nat) {n : Nat} {sz : Sz} {xs : List PV} (h1 : tget s.tm t = .row k n) (h2 : hget s.hp k = some (.row sz xs)) (h3 : n = xs.length) (h : Sub s' ⟨s.n, (t, .far xs) :: s.tm, (k, .dead) :: s.hp⟩) : Im s' s :=
  (Im.sub h).trans (Im.frz t k h1 h2 h3)

inductive RoundsI (P : Program) (c : Code) (e : PE) (s' : St) : Nat → St → Prop
  | last (n : Nat) (s : St) (h : Sem P c s fun e2 s2 => e2 = e ∧ s2 = s') (he : e ≠ .normal) : RoundsI P c e s' n s
  | more (n : Nat) (s s1 s2 : St) (h : Sem P c s fun e2 s3 => e2 = .normal ∧ s3 = s1) (hs : Im s2 s1) (h2 : RoundsI P c e s' n s2) : RoundsI P c e s' (n + 1) s

theorem RoundsI.sem {c : Code} {e : PE} {s' : St} {n : Nat} (h : RoundsI P c e s' n s) : Sem P (.loop c) s fun e2 s2 => e2 = e ∧ s2 = s' := fun w0 V M Γ0 h0 a w R => by
  refine wp_loop_nat (fun n a w => ∃ s, RoundsI P c e s' n s ∧ Rel w0 V M Γ0 h0 s a w) (n := n) ⟨s, h, R⟩ fun n a w ⟨s, hI, R⟩ => ?_
  cases hI with
  | last _ _ h he =>
    refine wp_mono (h w0 V M Γ0 h0 a w R) fun e' a' w' ⟨s1, R1, q⟩ => ?_
    cases e' <;> first
      | exact q.elim
      | exact absurd q.1.symm he
      | exact ⟨s1, R1, q⟩
  | more n _ s1 s2 h hs h2 =>
    refine wp_mono (h w0 V M Γ0 h0 a w R) fun e' a' w' ⟨s3, R1, q⟩ => ?_
    cases e' <;> first
      | exact q.elim
      | exact PE.noConfusion q.1
      | (obtain ⟨_, rfl⟩ := q; exact ⟨n, Nat.lt_succ_self n, s2, h2, hs _ _ _ _ _ _ _ R1⟩)

/-- A loop whose head is reached by what a state implies. -/
theorem lp_im {α : Type} (inv : α → St) (p : α → Prop) (μ : α → Nat) (x0 : α) {c : Code} {N : St → Prop} {X : Nat → St → Prop} {R : St → Prop} (h1 : Im (inv x0) s) (h2 : p x0)
    (round : ∀ x, p x → ∀ N : St → Prop, (∀ y s1, p y → μ y < μ x → Im (inv y) s1 → N s1) → vc P T c N X R (inv x)) : Lp P T c N X R s := fun hT => by
  have key : ∀ n x, μ x = n → p x → ∃ e s', toQ (fun _ => False) X R e s' ∧ ∃ n, RoundsI P c e s' n (inv x) := fun n => by
    induction n using Nat.strongRecOn with
    | _ n ih =>
      intro x hn hp
      obtain ⟨e, s1, q1, q2⟩ := vc_sound hT c (fun s1 => ∃ y, p y ∧ μ y < μ x ∧ Im (inv y) s1) X R _ (round x hp _ fun y s1 h1 h2 h3 => ⟨y, h1, h2, h3⟩)
      cases e
      case normal =>
        obtain ⟨y, py, hy, hs⟩ := q1
        obtain ⟨e, s', r1, k, r2⟩ := ih (μ y) (by omega) y rfl py
        exact ⟨e, s', r1, k + 1, .more k _ s1 _ q2 hs r2⟩
      · exact ⟨.exit _, s1, q1, 0, .last 0 _ q2 (fun e => PE.noConfusion e)⟩
      · exact ⟨.ret, s1, q1, 0, .last 0 _ q2 (fun e => PE.noConfusion e)⟩
  obtain ⟨e, s', r1, k, r2⟩ := key _ x0 rfl h2
  exact ⟨e, s', r1, fun w0 V M Γ0 h0 a w R => r2.sem w0 V M Γ0 h0 a w (h1 _ _ _ _ _ _ _ R)⟩
end Go.Pv

/- A row gets another key. -/
namespace Go.Pv
open Go.RowKit

def rn1 (k k' : Nat) : PV → PV
  | .row g n => if g = k then .row k' n else .row g n
  | x => x
def rn2 (k k' : Nat) : PV → PV
  | .agg xs => .agg (xs.map (rn1 k k'))
  | x => rn1 k k' x
section
variable {w : World} {V : Bl} {Γ : Nat → Value} {hp : Hp} {k k' : Nat} {sz : Sz} {xs : List PV}
def mvΓ (Γ : Nat → Value) (k k' : Nat) : Nat → Value := fun j => if j = k' then Γ k else Γ j
def mvH (hp : Hp) (k k' : Nat) (c : HC) : Hp := (k', c) :: (k, .dead) :: hp
theorem mv_k' (c : HC) : hget (mvH hp k k' c) k' = some c := by simp [mvH, hget]
theorem mv_k (c : HC) (h : k ≠ k') : hget (mvH hp k k' c) k = some .dead := by simp [mvH, hget, h]
theorem mv_o (c : HC) {j : Nat} (h1 : j ≠ k') (h2 : j ≠ k) : hget (mvH hp k k' c) j = hget hp j := by simp [mvH, hget, h1, h2]
theorem mv_ow (hk : hget hp k = some (.row sz xs)) (hk' : hget hp k' = none) (b : Nat) : Ow (mvΓ Γ k k') (mvH hp k k' (.row sz xs)) b ↔ Ow Γ hp b := by
  have hne : k ≠ k' := fun e => by rw [e, hk'] at hk; cases hk
  constructor
  · rintro ⟨j, l, o⟩
    by_cases e : j = k'
    · subst e
      refine ⟨k, by unfold live; rw [hk]; trivial, ?_⟩
      simpa [mvΓ] using o
    · by_cases e2 : j = k
      · subst e2
        unfold live at l
        rw [mv_k _ hne] at l
        exact l.elim
      · refine ⟨j, by unfold live at l ⊢; rwa [mv_o _ e e2] at l, ?_⟩
        simpa [mvΓ, e] using o
  · rintro ⟨j, l, o⟩
    by_cases e2 : j = k
    · subst e2
      exact ⟨k', by unfold live; rw [mv_k']; trivial, by simpa [mvΓ] using o⟩
    · have e : j ≠ k' := fun e => by subst e; unfold live at l; rw [hk'] at l; exact l
      exact ⟨j, by unfold live at l ⊢; rwa [mv_o _ e e2], by simpa [mvΓ, e] using o⟩
theorem mv_av (hk : hget hp k = some (.row sz xs)) (hk' : hget hp k' = none) (b : Nat) : Av V (mvΓ Γ k k') (mvH hp k k' (.row sz xs)) b ↔ Av V Γ hp b := or_congr Iff.rfl (mv_ow hk hk' b)
theorem mv_dr (hk : hget hp k = some (.row sz xs)) (hk' : hget hp k' = none) {x : PV} {v : Value} (h : DR w (Av V Γ hp) x v) : DR w (Av V (mvΓ Γ k k') (mvH hp k k' (.row sz xs))) x v :=
  h.step (fun _ _ _ => rfl) fun b _ hb => (mv_av hk hk' b).1 hb
/-- What named other keys goes on; what named the old one is not told of any more. -/
theorem mv_vr (hk : hget hp k = some (.row sz xs)) (hk' : hget hp k' = none) {x : PV} {v : Value} (h : VR w (Av V Γ hp) Γ hp x v) : VR w (Av V (mvΓ Γ k k') (mvH hp k k' (.row sz xs))) (mvΓ Γ k k') (mvH hp k k' (.row sz xs)) x v := by
  have hne : k ≠ k' := fun e => by rw [e, hk'] at hk; cases hk
  have nk : ∀ g, hget hp g ≠ none → g ≠ k' := fun g h e => h (e ▸ hk')
  have hg : ∀ g, hget hp g ≠ none → hget (mvH hp k k' (.row sz xs)) g ≠ none := fun g h => by
    by_cases e : g = k
    · subst e; rw [mv_k _ hne]; simp
    · rw [mv_o _ (nk g h) e]; exact h
  have hr : ∀ g c, hget hp g ≠ none → hget (mvH hp k k' (.row sz xs)) g = some c → c ≠ .dead → hget hp g = some c ∧ mvΓ Γ k k' g = Γ g := fun g c h h2 hd => by
    by_cases e : g = k
    · subst e; rw [mv_k _ hne] at h2; cases h2; exact absurd rfl hd
    · rw [mv_o _ (nk g h) e] at h2
      exact ⟨h2, if_neg (nk g h)⟩
  induction h with
  | data h => exact .data (mv_dr hk hk' h)
  | agg ys cs hl _ ih => exact .agg ys cs hl ih
  | tup ys cs hl _ ih => exact .tup ys cs hl ih
  | fn f ys cs hl _ ih => exact .fn f ys cs hl ih
  | row g n v ho h1 h2 => exact .row g n v ho (hg g h1) (fun sz' xs' e => (by obtain ⟨e1, e2⟩ := hr g _ h1 e (by simp); rw [e2]; exact h2 sz' xs' e1))
  | view g n lo hi v ho h1 h2 => exact .view g n lo hi v ho (hg g h1) (fun sz' xs' e => (by obtain ⟨e1, e2⟩ := hr g _ h1 e (by simp); rw [e2]; exact h2 sz' xs' e1))
  | elt g n i off v ho h1 h2 => exact .elt g n i off v ho (hg g h1) (fun sz' xs' e => (by obtain ⟨e1, e2⟩ := hr g _ h1 e (by simp); rw [e2]; exact h2 sz' xs' e1))
  | ref b off v ho h1 h2 => exact .ref b off v ho (hg b h1) (fun q cs e => (by obtain ⟨e1, e2⟩ := hr b _ h1 e (by simp); rw [e2]; exact h2 q cs e1))
theorem mv_rn1 (hk : hget hp k = some (.row sz xs)) (hk' : hget hp k' = none) {x : PV} {v : Value} (h : VR w (Av V Γ hp) Γ hp x v) : VR w (Av V (mvΓ Γ k k') (mvH hp k k' (.row sz xs))) (mvΓ Γ k k') (mvH hp k k' (.row sz xs)) (rn1 k k' x) v := by
  cases x <;> try exact mv_vr hk hk' h
  rename_i g n
  by_cases e : g = k
  · rw [show rn1 k k' (.row g n) = .row k' n from if_pos e]
    subst e
    cases h with
    | data h => cases h
    | row _ _ _ ho h1 h2 =>
      refine .row k' n v ho (by rw [mv_k']; simp) fun sz' xs' e => ?_
      rw [mv_k'] at e
      cases e
      obtain ⟨p1, p2⟩ := h2 sz xs hk
      exact ⟨p1, fun q => by rw [p2 q]; exact (if_pos rfl).symm⟩
  · rw [show rn1 k k' (.row g n) = .row g n from if_neg e]
    exact mv_vr hk hk' h
theorem mv_rn2 (hk : hget hp k = some (.row sz xs)) (hk' : hget hp k' = none) {x : PV} {v : Value} (h : VR w (Av V Γ hp) Γ hp x v) : VR w (Av V (mvΓ Γ k k') (mvH hp k k' (.row sz xs))) (mvΓ Γ k k') (mvH hp k k' (.row sz xs)) (rn2 k k' x) v := by
  cases x <;> try exact mv_rn1 hk hk' h
  rename_i ys
  obtain ⟨cs, rfl, h1, h2⟩ := vr_agg h
  refine .agg _ cs (by rw [List.length_map]; exact h1) fun i y hy => ?_
  rw [List.getElem?_map] at hy
  obtain ⟨z, hz, rfl⟩ := Option.map_eq_some_iff.1 hy
  exact mv_rn1 hk hk' (h2 i z hz)
end
/-- The row of key k, which temporary t names, gets the key k'. -/
theorem Im.ren {s : St} (t : Tmp) (k k' : Nat) {sz : Sz} {xs : List PV} (h1 : hget s.hp k = some (.row sz xs)) (h2 : hget s.hp k' = none) (h3 : 64 ≤ k') : Im ⟨s.n, (t, rn2 k k' (tget s.tm t)) :: s.tm, mvH s.hp k k' (.row sz xs)⟩ s := fun w0 V M Γ0 h0 a w ⟨Γ, R⟩ => by
  have hne : k ≠ k' := fun e => by rw [e, h2] at h1; cases h1
  refine ⟨mvΓ Γ k k', ⟨R.kp, R.defers, R.size, R.vlt, fun t' => ?_, fun j => ?_, fun j j' b l l' o o' => ?_, fun b hb => R.own b ((mv_ow h1 h2 b).1 hb), fun g hg => ?_, R.low⟩⟩
  · show VR w (Av V (mvΓ Γ k k') (mvH s.hp k k' (.row sz xs))) (mvΓ Γ k k') (mvH s.hp k k' (.row sz xs)) (tget ((t, rn2 k k' (tget s.tm t)) :: s.tm) t') _
    by_cases e : t' = t
    · subst e
      have e2 : tget ((t', rn2 k k' (tget s.tm t')) :: s.tm) t' = rn2 k k' (tget s.tm t') := by simp [tget]
      rw [e2]
      exact mv_rn2 h1 h2 (R.tm t')
    · have e2 : tget ((t, rn2 k k' (tget s.tm t)) :: s.tm) t' = tget s.tm t' := by simp [tget, e]
      rw [e2]
      exact mv_vr h1 h2 (R.tm t')
  · show HR w (Av V (mvΓ Γ k k') (mvH s.hp k k' (.row sz xs))) (mvΓ Γ k k') (mvH s.hp k k' (.row sz xs)) j
    by_cases e : j = k'
    · subst e
      have hr := R.hp k
      unfold HR at hr ⊢
      rw [h1] at hr
      rw [mv_k']
      simp only at hr ⊢
      obtain ⟨p0, hr⟩ := hr
      have eΓ : mvΓ Γ k j j = Γ k := if_pos rfl
      rw [eΓ]
      refine ⟨p0, hr.imp id ?_⟩
      rintro ⟨β, o, cap, c, e, fr, q1, q2, q3, q4, q5, q6, q7, q8⟩
      exact ⟨β, o, cap, c, e, fr, q1, q2, q3, q4, q5, q6, q7, fun i x j y hx hy => mv_dr h1 h2 (q8 i x j y hx hy)⟩
    · by_cases e2 : j = k
      · subst e2
        unfold HR
        rw [mv_k _ hne]
        trivial
      · have hr := R.hp j
        unfold HR at hr ⊢
        rw [mv_o _ e e2]
        have eΓ : mvΓ Γ k k' j = Γ j := if_neg e
        rw [eΓ]
        cases hh : hget s.hp j with
        | none => trivial
        | some c =>
          rw [hh] at hr
          cases c with
          | dead => trivial
          | box q cs =>
            obtain ⟨β, c, fr, q1, q2, q3, q4, q5⟩ := hr
            exact ⟨β, c, fr, q1, q2, q3, q4, fun i y hy => mv_vr h1 h2 (q5 i y hy)⟩
          | row sz' xs' =>
            obtain ⟨p0, hr⟩ := hr
            refine ⟨p0, hr.imp id ?_⟩
            rintro ⟨β, o, cap, c, e, fr, q1, q2, q3, q4, q5, q6, q7, q8⟩
            exact ⟨β, o, cap, c, e, fr, q1, q2, q3, q4, q5, q6, q7, fun i x j y hx hy => mv_dr h1 h2 (q8 i x j y hx hy)⟩
  · -- no two keys in one block
    have back : ∀ j, live (mvH s.hp k k' (.row sz xs)) j → ob (mvΓ Γ k k' j) = some b → ∃ i, live s.hp i ∧ ob (Γ i) = some b ∧ (j = k' ∧ i = k ∨ j ≠ k' ∧ i = j ∧ j ≠ k) := fun j l o => by
      by_cases e : j = k'
      · subst e
        exact ⟨k, by unfold live; rw [h1]; trivial, by simpa [mvΓ] using o, .inl ⟨rfl, rfl⟩⟩
      · by_cases e2 : j = k
        · subst e2
          unfold live at l
          rw [mv_k _ hne] at l
          exact l.elim
        · exact ⟨j, by unfold live at l ⊢; rwa [mv_o _ e e2] at l, by simpa [mvΓ, e] using o, .inr ⟨e, rfl, e2⟩⟩
    obtain ⟨i, l1, o1, q1⟩ := back j l o
    obtain ⟨i', l2, o2, q2⟩ := back j' l' o'
    have := R.dis i i' b l1 l2 o1 o2
    subst this
    rcases q1 with ⟨rfl, rfl⟩ | ⟨n1, rfl, n2⟩ <;> rcases q2 with ⟨rfl, e⟩ | ⟨n3, e, n4⟩
    · rfl
    · exact absurd e.symm n4
    · exact absurd e n2
    · exact e
  · obtain ⟨g1, g2, g3⟩ := R.gr g hg
    have hlow := R.low g hg
    have e : g ≠ k' := by omega
    have eΓ : mvΓ Γ k k' g = Γ g := if_neg e
    show hget (mvH s.hp k k' (.row sz xs)) g ≠ none ∧ (∀ sz' xs', hget (mvH s.hp k k' (.row sz xs)) g = some (.row sz' xs') → _) ∧ (∀ q cs, hget (mvH s.hp k k' (.row sz xs)) g = some (.box q cs) → _)
    by_cases e2 : g = k
    · subst e2
      rw [mv_k _ hne]
      exact ⟨by simp, fun _ _ h => (by cases h), fun _ _ h => (by cases h)⟩
    · rw [mv_o _ e e2, eΓ]
      exact ⟨g1, g2, g3⟩
/-- A slice that is nil, within what temporary t names, gets a key: an empty row. -/
theorem Im.nil {s : St} (t : Tmp) (k : Nat) (sz : Sz) (xs : List PV) (i : Nat) (h0 : 0 < sz.sz) (h1 : tget s.tm t = .agg xs) (hi : xs[i]? = some .nils) (h2 : hget s.hp k = none) : Im ⟨s.n, (t, .agg (xs.set i (.row k 0))) :: s.tm, (k, .row sz []) :: s.hp⟩ s := fun w0 V M Γ0 h00 a w ⟨Γ, R⟩ => by
  have hne : ∀ g, hget s.hp g ≠ none → g ≠ k := fun g hg e => hg (e ▸ h2)
  obtain ⟨Γ', hΓk, hΓ⟩ : ∃ Γ' : Nat → Value, Γ' k = .slice none 0 0 ∧ ∀ g, g ≠ k → Γ' g = Γ g := ⟨fun j => if j = k then .slice none 0 0 else Γ j, if_pos rfl, fun g hg => if_neg hg⟩
  have hold : ∀ g, g ≠ k → hget ([(k, HC.row sz [])] ++ s.hp) g = hget s.hp g := fun g hg => by simp [hget, hg]
  have hnew : hget ([(k, HC.row sz [])] ++ s.hp) k = some (.row sz []) := by simp [hget]
  have grow : Grow Γ Γ' s.hp ([(k, HC.row sz [])] ++ s.hp) := fun g hg => by
    rw [hold g (hne g hg), hΓ g (hne g hg)]
    exact ⟨hg, fun sz xs h => ⟨xs, h, Nat.le_refl _, fun _ => rfl⟩, fun _ cs' h => ⟨rfl, cs', h⟩⟩
  have lives : ∀ g, g ≠ k → live ([(k, HC.row sz [])] ++ s.hp) g → live s.hp g := fun g hg h => by unfold live at *; rwa [hold g hg] at h
  have nob : ∀ b, ob (Γ' k) ≠ some b := fun b h => by rw [hΓk] at h; cases h
  have own : ∀ b, Ow Γ' ([(k, HC.row sz [])] ++ s.hp) b → w.heap.size ≤ b ∨ Ow Γ s.hp b := fun b ⟨j, l, o⟩ => by
    by_cases e : j = k
    · subst e; exact absurd o (nob b)
    · rw [hΓ j e] at o; exact .inr ⟨j, lives j e l, o⟩
  have C : Chg V Γ Γ' s.hp ([(k, HC.row sz [])] ++ s.hp) w w := by
    refine ⟨Kp.refl _ _, grow, own, fun j => ?_, fun j j' b l l' e e' => ?_⟩
    · by_cases ek : j = k
      · subst ek
        unfold HR
        rw [hnew]
        exact ⟨h0, .inl ⟨rfl, hΓk⟩⟩
      · exact hr_keep (Kp.refl _ _) grow own (hold j ek) (hΓ j ek) (fun b _ _ _ => rfl) (R.hp j)
    · by_cases ek : j = k
      · subst ek; exact absurd e (nob b)
      · by_cases ek' : j' = k
        · subst ek'; exact absurd e' (nob b)
        · rw [hΓ j ek] at e
          rw [hΓ j' ek'] at e'
          exact R.dis j j' b (lives j ek l) (lives j' ek' l') e e'
  have R2 := C.rel R
  refine ⟨Γ', ⟨R2.kp, R2.defers, R2.size, R2.vlt, fun t' => ?_, R2.hp, R2.dis, R2.own, R2.gr, R2.low⟩⟩
  show VR w (Av V Γ' ([(k, HC.row sz [])] ++ s.hp)) Γ' ([(k, HC.row sz [])] ++ s.hp) (tget ((t, .agg (xs.set i (.row k 0))) :: s.tm) t') _
  by_cases e : t' = t
  · subst e
    have e2 : tget ((t', PV.agg (xs.set i (.row k 0))) :: s.tm) t' = .agg (xs.set i (.row k 0)) := by simp [tget]
    rw [e2]
    have hx : VR w (Av V Γ' ([(k, HC.row sz [])] ++ s.hp)) Γ' ([(k, HC.row sz [])] ++ s.hp) (tget s.tm t') (a.tmps.getD t' undef) := R2.tm t'
    rw [h1] at hx
    obtain ⟨cs, hv, hl, hcs⟩ := vr_agg hx
    rw [hv]
    refine .agg _ cs (by rw [List.length_set]; exact hl) fun j y hy => ?_
    rw [List.getElem?_set] at hy
    split at hy
    · rename_i hj
      subst hj
      split at hy
      · cases hy
        have hn := vr_nils (hcs i .nils hi)
        rw [hn]
        exact .row k 0 _ rfl (by rw [hnew]; simp) fun sz' xs' e => ⟨Nat.zero_le _, fun _ => hΓk.symm⟩
      · cases hy
    · exact hcs j y hy
  · have e2 : tget ((t, PV.agg (xs.set i (.row k 0))) :: s.tm) t' = tget s.tm t' := by simp [tget, e]
    rw [e2]
    exact R2.tm t'
end Go.Pv

/- What functions of the program and of the reference do, in plain values. -/
namespace Go.Pv
open Go.Proofs Go.Mth
set_option linter.unusedSimpArgs false
set_option linter.unusedVariables false
set_option maxHeartbeats 4000000
set_option maxRecDepth 4000

/-! ### the reference's deeds on disks: names, decimals, steps -/
theorem spec_NameOk (b : ByteArray) (hb : b.size ≤ 9223372036854775807) : Fn Tryz.prog 141 [.str b] [] (.bool (decide (nmOk b))) [] := by
  have hlast : (∀ i : Nat, i < b.size → nmB (bt b i)) → nmOk b = (1 ≤ (b.size : Int) ∧ (b.size : Int) ≤ 20) := fun h => propext ⟨fun q => by have := q.2; omega, fun q => ⟨h, by omega⟩⟩
  have hno : ∀ i : Nat, i < b.size → ¬ nmB (bt b i) → nmOk b = False := fun i hi h => propext ⟨fun q => h (q.1 i hi), False.elim⟩
  refine fn_x tok (n := 34) (rs := [.tmp 2]) Tryz.func141 (by decide) rfl rfl rfl rfl ?_
  refine Wr.go ?_
  repeat' ((first | (have ee := True.intro; refine Wr.mk ?_) | ((first | refine br_go ?_ ?_ | refine pick_go ?_ ?_) <;> intro ee f <;> (try simp only [BB] at f) <;> (try simp only [numOk, verOk] at f))) <;> (try simp (maxSteps := 1000000) (disch := first | omega | (simp only [LN, numOk, verOk, rfP, rvP, rhP, frP] <;> omega) | exact Ck.mk rfl) only [ee, VC, T, Nat.reduceMul, Nat.reduceAdd, Nat.reduceSub, Nat.reduceLT, Nat.reduceEqDiff, Nat.reduceLeDiff, Nat.reduceBEq, reduceCtorEq, Int.reduceToNat, ↓reduceIte, rfP, rvP, rhP, frP]) <;> (try clear ee))
  refine lp_go (fun i : Nat => ⟨34, [(0, .str b), (3, .int .i64 i)], []⟩) (fun i => i ≤ b.size ∧ ∀ j : Nat, j < i → nmB (bt b j)) (fun i => b.size - i) 0 ?_ ⟨Nat.zero_le _, fun j h => by omega⟩ ?_
  · (simp (disch := first | omega | (simp only [LN, numOk, verOk] <;> omega) | exact Ck.mk rfl) only [SB, EQ, Nat.reduceMul, Nat.reduceAdd, Nat.reduceSub, Nat.reduceLT, Nat.reduceEqDiff, Nat.reduceLeDiff, Nat.reduceBEq, reduceCtorEq, Int.reduceToNat, ↓reduceIte]; try omega)
  · rintro i ⟨h1, h2⟩ N hN
    have hno := hno i
    have hr := bt_range b i
    have hnx : nmB (bt b i) → ∀ j : Nat, j < i + 1 → nmB (bt b j) := fun h j hj => by
      by_cases e : j = i
      · rw [e]; exact h
      · exact h2 j (by omega)
    have hB : nmB (bt b i) = ((97 ≤ bt b i ∧ bt b i ≤ 122) ∨ (48 ≤ bt b i ∧ bt b i ≤ 57) ∨ bt b i = 46 ∨ bt b i = 45) := rfl
    refine Wr.go ?_
    repeat' ((first | (have ee := True.intro; refine Wr.mk ?_) | ((first | refine br_go ?_ ?_ | refine pick_go ?_ ?_) <;> intro ee f <;> (try simp only [BB] at f) <;> (try simp only [numOk, verOk] at f)) | (have ee := True.intro; first | refine call_x (spec_l01In _ _ _) rfl ⟨rfl⟩ ?_)) <;> (try simp (maxSteps := 1000000) (disch := first | omega | (simp only [LN, numOk, verOk, rfP, rvP, rhP, frP] <;> omega) | exact Ck.mk rfl) only [ee, VC, T, Nat.reduceMul, Nat.reduceAdd, Nat.reduceSub, Nat.reduceLT, Nat.reduceEqDiff, Nat.reduceLeDiff, Nat.reduceBEq, reduceCtorEq, Int.reduceToNat, ↓reduceIte, rfP, rvP, rhP, frP]) <;> (try clear ee))
    all_goals first
      | (refine hN (i + 1) _ ⟨by omega, hnx (by rw [hB]; omega)⟩ (by omega) ?_
         (simp (disch := first | omega | (simp only [LN, numOk, verOk] <;> omega) | exact Ck.mk rfl) only [SB, EQ, Nat.reduceMul, Nat.reduceAdd, Nat.reduceSub, Nat.reduceLT, Nat.reduceEqDiff, Nat.reduceLeDiff, Nat.reduceBEq, reduceCtorEq, Int.reduceToNat, ↓reduceIte]; try omega))
      | (have e := hno (by omega) (by rw [hB]; omega)
         simp only [e, decide_false])
      | (have e := hlast (by
           obtain rfl : i = b.size := by omega
           exact h2)
         simp only [e])
theorem spec_l01Figure (d : Int) (hd : 0 ≤ d ∧ d ≤ 9) : Fn Tryz.prog 192 [.int .i64 d] [] (.int .u8 (48 + d)) [] := by
  refine fn_x tok (n := 12) (rs := [.tmp 2]) Tryz.func192 (by decide) rfl rfl rfl rfl ?_
  refine Wr.go ?_
  repeat' ((first | (have ee := True.intro; refine Wr.mk ?_) | ((first | refine br_go ?_ ?_ | refine pick_go ?_ ?_) <;> intro ee f <;> (try simp only [BB] at f) <;> (try simp only [numOk, verOk] at f))) <;> (try simp (maxSteps := 1000000) (disch := first | omega | (simp only [LN, numOk, verOk, rfP, rvP, rhP, frP] <;> omega) | exact Ck.mk rfl) only [ee, VC, T, Nat.reduceMul, Nat.reduceAdd, Nat.reduceSub, Nat.reduceLT, Nat.reduceEqDiff, Nat.reduceLeDiff, Nat.reduceBEq, reduceCtorEq, Int.reduceToNat, ↓reduceIte, rfP, rvP, rhP, frP]) <;> (try clear ee))
  rw [Int.emod_eq_of_lt (by omega) (by omega)]
theorem decL_zero : ∀ k : Nat, decL k 0 = []
  | 0 => rfl
  | k + 1 => by unfold decL; rw [if_pos rfl]
theorem spec_Decimal (n : Int) (hn : 0 ≤ n ∧ n ≤ 100000000000) : Fn Tryz.prog 183 [.int .i64 n] [] (.str (decT n)) [] := by
  have h0 : n = 0 → decT n = ⟨#[48]⟩ := fun h => by subst h; rfl
  have h1 : ¬ n = 0 → decT n = strOf (decL 20 n) := fun h => if_neg h
  generalize hq : decT n = q at *
  refine fn_x tok (n := 30) (rs := [.tmp 2]) Tryz.func183 (by decide) rfl rfl rfl rfl ?_
  refine Wr.go ?_
  repeat' ((first | (have ee := True.intro; refine Wr.mk ?_) | ((first | refine br_go ?_ ?_ | refine pick_go ?_ ?_) <;> intro ee f <;> (try simp only [BB] at f) <;> (try simp only [numOk, verOk] at f))) <;> (try simp (maxSteps := 1000000) (disch := first | omega | (simp only [LN, numOk, verOk, rfP, rvP, rhP, frP] <;> omega) | exact Ck.mk rfl) only [ee, VC, T, Nat.reduceMul, Nat.reduceAdd, Nat.reduceSub, Nat.reduceLT, Nat.reduceEqDiff, Nat.reduceLeDiff, Nat.reduceBEq, reduceCtorEq, Int.reduceToNat, ↓reduceIte, rfP, rvP, rhP, frP]) <;> (try clear ee))
  · rw [h0 f]
  · refine lp_go (fun x : Int × ByteArray × Nat => ⟨30, [(0, .int .i64 x.1), (3, .bool false), (4, .str x.2.1)], []⟩) (fun x => 0 ≤ x.1 ∧ x.1 ≤ 100000000000 ∧ x.2.2 ≤ 20 ∧ x.2.1.size = 20 - x.2.2 ∧ x.1 < 10 ^ x.2.2 ∧ bytesOf q = decL x.2.2 x.1 ++ bytesOf x.2.1) (fun x => x.2.2) (n, ⟨#[]⟩, 20) ?_ ⟨hn.1, hn.2, Nat.le_refl 20, rfl, by
      have : (10 : Int) ^ 20 = 100000000000000000000 := rfl
      simp only; omega, ?_⟩ ?_
    · (simp (disch := first | omega | (simp only [LN, numOk, verOk] <;> omega) | exact Ck.mk rfl) only [SB, EQ, Nat.reduceMul, Nat.reduceAdd, Nat.reduceSub, Nat.reduceLT, Nat.reduceEqDiff, Nat.reduceLeDiff, Nat.reduceBEq, reduceCtorEq, Int.reduceToNat, ↓reduceIte]; try omega)
      exact decide_eq_false (by omega)
    · simp only
      rw [h1 f, bytesOf_strOf _ (fun x hx => by have := decL_range 20 n x hx; omega)]
      simp [bytesOf]
    · rintro ⟨m, s, k⟩ ⟨q1, q2, q3, q4, q5, q6⟩ N hN
      simp only at q1 q2 q3 q4 q5 q6 hN ⊢
      have hk : ¬ m = 0 → 0 < k := fun h => by
        cases k with
        | zero => simp at q5; omega
        | succ k => omega
      have hmod : m.tmod 10 = m % 10 := Int.tmod_eq_emod_of_nonneg q1
      have hdiv : m.tdiv 10 = m / 10 := Int.tdiv_eq_ediv_of_nonneg q1
      have hst : ¬ m = 0 → m / 10 < 10 ^ (k - 1) ∧ bytesOf q = decL (k - 1) (m / 10) ++ bytesOf (strOf [48 + m % 10] ++ s) := fun h => by
        obtain ⟨j, rfl⟩ : ∃ j, k = j + 1 := ⟨k - 1, by have := hk h; omega⟩
        rw [Nat.add_sub_cancel]
        rw [Int.pow_succ] at q5
        refine ⟨by omega, ?_⟩
        rw [q6, bytesOf_append, bytesOf_strOf _ (fun x hx => by rw [List.mem_singleton] at hx; omega)]
        conv => lhs; unfold decL
        rw [if_neg h, List.append_assoc]
      have hs1 : strP [PV.int .u8 (48 + m % 10)] = strOf [48 + m % 10] := rfl
      have hs2 : (strOf [48 + m % 10]).size = 1 := rfl
      refine Wr.go ?_
      repeat' ((first | (have ee := True.intro; refine Wr.mk ?_) | ((first | refine br_go ?_ ?_ | refine pick_go ?_ ?_) <;> intro ee f <;> (try simp only [BB] at f) <;> (try simp only [numOk, verOk] at f)) | (have ee := True.intro; first | refine call_x (spec_l01Figure _ (by omega)) rfl ⟨rfl⟩ ?_)) <;> (try simp (maxSteps := 1000000) (disch := first | omega | (simp only [LN, numOk, verOk, rfP, rvP, rhP, frP, hmod, hdiv, hs1, hs2] <;> omega) | exact Ck.mk rfl) only [ee, VC, T, Nat.reduceMul, Nat.reduceAdd, Nat.reduceSub, Nat.reduceLT, Nat.reduceEqDiff, Nat.reduceLeDiff, Nat.reduceBEq, reduceCtorEq, Int.reduceToNat, ↓reduceIte, rfP, rvP, rhP, frP, hmod, hdiv, hs1, hs2]) <;> (try clear ee))
      · subst f
        rw [decL_zero, List.nil_append] at q6
        rw [bytesOf_inj q6]
      · refine ⟨fun z hz => ?_, ?_⟩
        · rw [List.mem_singleton] at hz
          subst hz
          show 0 ≤ 48 + m % 10 ∧ 48 + m % 10 < 256
          omega
        · obtain ⟨p1, p2⟩ := hst f
          have hk := hk f
          refine hN (m / 10, strOf [48 + m % 10] ++ s, k - 1) _ ⟨by simp only; omega, by simp only; omega, by simp only; omega, by simp only; rw [ByteArray.size_append, hs2]; omega, p1, p2⟩ (by simp only; omega) ?_
          (simp (disch := first | omega | (simp only [LN, numOk, verOk] <;> omega) | exact Ck.mk rfl) only [SB, EQ, Nat.reduceMul, Nat.reduceAdd, Nat.reduceSub, Nat.reduceLT, Nat.reduceEqDiff, Nat.reduceLeDiff, Nat.reduceBEq, reduceCtorEq, Int.reduceToNat, ↓reduceIte]; try omega)
theorem pow10_le (i : Nat) (h : i ≤ 10) : (10 : Int) ^ i ≤ 10000000000 := by
  have := pow_mono 10 (by decide) h
  simpa using this
theorem rdec_no (t : ByteArray) (h : decN 0 (bytesOf t) = none) : rdec t = (0, false) := by unfold rdec; rw [h]
theorem rdec_so (t : ByteArray) (n : Int) (h : decN 0 (bytesOf t) = some n) : rdec t = if t.size ≤ 10 ∧ n ≤ 1000000000 ∧ decT n = t then (n, true) else (0, false) := by unfold rdec; rw [h]
theorem rdec_big (t : ByteArray) (h : 10 < t.size) : rdec t = (0, false) := by
  cases hd : decN 0 (bytesOf t) with
  | none => exact rdec_no t hd
  | some n => rw [rdec_so t n hd, if_neg (by omega)]
theorem spec_ReadDecimal (t : ByteArray) (ht : t.size ≤ 9223372036854775807) : Fn Tryz.prog 169 [.str t] [] (.tup [.int .i64 (rdec t).1, .bool (rdec t).2]) [] := by
  have hno := rdec_no t
  have hso := rdec_so t
  have hbig := rdec_big t
  have hst := fun n => decN_step n (bytesOf t)
  have hbt : ∀ i : Nat, (bytesOf t).getD i default = bt t i := fun i => rd_bytesOf t i
  generalize rdec t = q at *
  obtain ⟨v, ok⟩ := q
  refine fn_x tok (n := 42) (rs := [.tmp 2, .tmp 3]) Tryz.func169 (by decide) rfl rfl rfl rfl ?_
  refine Wr.go ?_
  repeat' ((first | (have ee := True.intro; refine Wr.mk ?_) | ((first | refine br_go ?_ ?_ | refine pick_go ?_ ?_) <;> intro ee f <;> (try simp only [BB] at f) <;> (try simp only [numOk, verOk] at f))) <;> (try simp (maxSteps := 1000000) (disch := first | omega | (simp only [LN, numOk, verOk, rfP, rvP, rhP, frP] <;> omega) | exact Ck.mk rfl) only [ee, VC, T, Nat.reduceMul, Nat.reduceAdd, Nat.reduceSub, Nat.reduceLT, Nat.reduceEqDiff, Nat.reduceLeDiff, Nat.reduceBEq, reduceCtorEq, Int.reduceToNat, ↓reduceIte, rfP, rvP, rhP, frP]) <;> (try clear ee))
  · cases hbig (by omega); rfl
  · refine lp_go (fun x : Int × Nat => ⟨42, [(0, .str t), (4, .int .i64 x.1), (5, .int .i64 x.2)], []⟩) (fun x => x.2 ≤ t.size ∧ (0 ≤ x.1 ∧ x.1 < 10 ^ x.2) ∧ decN 0 (bytesOf t) = decN x.1 ((bytesOf t).drop x.2)) (fun x => t.size - x.2) (0, 0) ?_ ⟨Nat.zero_le _, ⟨by decide, by decide⟩, rfl⟩ ?_
    · (simp (disch := first | omega | (simp only [LN, numOk, verOk] <;> omega) | exact Ck.mk rfl) only [SB, EQ, Nat.reduceMul, Nat.reduceAdd, Nat.reduceSub, Nat.reduceLT, Nat.reduceEqDiff, Nat.reduceLeDiff, Nat.reduceBEq, reduceCtorEq, Int.reduceToNat, ↓reduceIte]; try omega)
    · rintro ⟨m, i⟩ ⟨h1, ⟨h2, h3⟩, h4⟩ N hN
      simp only at h1 h2 h3 h4 hN
      have hp := pow10_le i (by omega)
      have hps : (10 : Int) ^ (i + 1) = 10 ^ i * 10 := Int.pow_succ 10 i
      have hst := hst m i
      rw [bytesOf_length, hbt] at hst
      have hr := bt_range t i
      have hlt : ∀ d : Int, 0 ≤ d → d < 10 → 0 ≤ 10 * m + d ∧ 10 * m + d < 10 ^ (i + 1) := fun d q0 q1 => by
        rw [hps]
        generalize (10 : Int) ^ i = p at *
        omega
      by_cases hi : i < t.size
      · have hst := hst hi
        generalize hc : bt t i = c at *
        refine Wr.go ?_
        repeat' ((first | (have ee := True.intro; refine Wr.mk ?_) | ((first | refine br_go ?_ ?_ | refine pick_go ?_ ?_) <;> intro ee f <;> (try simp only [BB] at f) <;> (try simp only [numOk, verOk] at f))) <;> (try simp (maxSteps := 1000000) (disch := first | omega | (simp only [LN, numOk, verOk, rfP, rvP, rhP, frP, hc] <;> omega) | exact Ck.mk rfl) only [ee, VC, T, Nat.reduceMul, Nat.reduceAdd, Nat.reduceSub, Nat.reduceLT, Nat.reduceEqDiff, Nat.reduceLeDiff, Nat.reduceBEq, reduceCtorEq, Int.reduceToNat, ↓reduceIte, rfP, rvP, rhP, frP, hc]) <;> (try clear ee))
        · rw [if_neg (by omega)] at hst
          cases hno (h4.trans hst); rfl
        · rw [if_neg (by omega)] at hst
          cases hno (h4.trans hst); rfl
        · rw [if_pos ⟨by omega, by omega⟩] at hst
          refine hN (10 * m + (c - 48), i + 1) _ ⟨by simp only; omega, hlt _ (by omega) (by omega), h4.trans hst⟩ (by simp only; omega) ?_
          (simp (disch := first | omega | (simp only [LN, numOk, verOk] <;> omega) | exact Ck.mk rfl) only [SB, EQ, Nat.reduceMul, Nat.reduceAdd, Nat.reduceSub, Nat.reduceLT, Nat.reduceEqDiff, Nat.reduceLeDiff, Nat.reduceBEq, reduceCtorEq, Int.reduceToNat, ↓reduceIte]; try omega)
      · obtain rfl : i = t.size := by omega
        have h5 : decN 0 (bytesOf t) = some m := by rw [h4, List.drop_eq_nil_of_le (by rw [bytesOf_length]; exact Nat.le_refl _)]; rfl
        have hso := hso m h5
        have hD := spec_Decimal m (by omega)
        generalize decT m = dm at *
        refine Wr.go ?_
        repeat' ((first | (have ee := True.intro; refine Wr.mk ?_) | ((first | refine br_go ?_ ?_ | refine pick_go ?_ ?_) <;> intro ee f <;> (try simp only [BB] at f) <;> (try simp only [numOk, verOk] at f)) | (have ee := True.intro; first | refine call_x (hD) rfl ⟨rfl⟩ ?_)) <;> (try simp (maxSteps := 1000000) (disch := first | omega | (simp only [LN, numOk, verOk, rfP, rvP, rhP, frP] <;> omega) | exact Ck.mk rfl) only [ee, VC, T, Nat.reduceMul, Nat.reduceAdd, Nat.reduceSub, Nat.reduceLT, Nat.reduceEqDiff, Nat.reduceLeDiff, Nat.reduceBEq, reduceCtorEq, Int.reduceToNat, ↓reduceIte, rfP, rvP, rhP, frP]) <;> (try clear ee))
        · rw [if_neg (by omega)] at hso
          cases hso; rfl
        · rename_i f0
          rw [if_pos ⟨by omega, f0, f⟩] at hso
          cases hso; rfl
        · rw [if_neg (fun h => f h.2.2)] at hso
          cases hso; rfl
theorem spec_Brought (n a b : Int) : Fn Tryz.prog 139 [.int .i64 n, .int .i64 a, .int .i64 b] [] (.int .i64 (if b < a ∨ n < a then a else if b < n then b else n)) [] := by
  refine fn_x tok (n := 21) (rs := [.tmp 6]) Tryz.func139 (by decide) rfl rfl rfl rfl ?_
  refine Wr.go ?_
  repeat' ((first | (have ee := True.intro; refine Wr.mk ?_) | ((first | refine br_go ?_ ?_ | refine pick_go ?_ ?_) <;> intro ee f <;> (try simp only [BB] at f) <;> (try simp only [numOk, verOk] at f))) <;> (try simp (maxSteps := 1000000) (disch := first | omega | (simp only [LN, numOk, verOk, rfP, rvP, rhP, frP] <;> omega) | exact Ck.mk rfl) only [ee, VC, T, Nat.reduceMul, Nat.reduceAdd, Nat.reduceSub, Nat.reduceLT, Nat.reduceEqDiff, Nat.reduceLeDiff, Nat.reduceBEq, reduceCtorEq, Int.reduceToNat, ↓reduceIte, rfP, rvP, rhP, frP]) <;> (try clear ee))
  all_goals first
    | rw [if_pos (by omega)]
    | rw [if_neg (by omega), if_pos (by omega)]
    | rw [if_neg (by omega), if_neg (by omega)]
theorem spec_l06Same (xs ys : List Et) (hx : xs.length ≤ 4611686018427387904) : Fn Tryz.prog 106 [.far (xs.map enP), .far (ys.map enP)] [] (.bool (decide (xs = ys))) [] := by
  refine fn_x tok (n := 26) (rs := [.tmp 4]) Tryz.func106 (by decide) rfl rfl rfl rfl ?_
  refine Wr.go ?_
  repeat' ((first | (have ee := True.intro; refine Wr.mk ?_) | ((first | refine br_go ?_ ?_ | refine pick_go ?_ ?_) <;> intro ee f <;> (try simp only [BB] at f) <;> (try simp only [numOk, verOk] at f))) <;> (try simp (maxSteps := 1000000) (disch := first | omega | (simp only [LN, numOk, verOk, rfP, rvP, rhP, frP] <;> omega) | exact Ck.mk rfl) only [ee, VC, T, Nat.reduceMul, Nat.reduceAdd, Nat.reduceSub, Nat.reduceLT, Nat.reduceEqDiff, Nat.reduceLeDiff, Nat.reduceBEq, reduceCtorEq, Int.reduceToNat, ↓reduceIte, rfP, rvP, rhP, frP]) <;> (try clear ee))
  · have hl : xs.length = ys.length := by omega
    refine lp_go (fun i : Nat => ⟨26, [(0, .far (xs.map enP)), (1, .far (ys.map enP)), (5, .int .i64 i)], []⟩) (fun i => i ≤ xs.length ∧ xs.take i = ys.take i) (fun i => xs.length - i) 0 ?_ ⟨Nat.zero_le _, rfl⟩ ?_
    · (simp (disch := first | omega | (simp only [LN, numOk, verOk] <;> omega) | exact Ck.mk rfl) only [SB, EQ, Nat.reduceMul, Nat.reduceAdd, Nat.reduceSub, Nat.reduceLT, Nat.reduceEqDiff, Nat.reduceLeDiff, Nat.reduceBEq, reduceCtorEq, Int.reduceToNat, ↓reduceIte]; try omega)
    · rintro i ⟨h1, h2⟩ N hN
      have hg : ∀ zs : List Et, i < zs.length → (zs.map enP).getD i .junk = .agg [.str (zs.getD i default).1, .int .i64 (zs.getD i default).2] := fun zs h => by
        rw [List.getD_eq_getElem?_getD, List.getElem?_map, List.getElem?_eq_getElem h, List.getD_eq_getElem?_getD, List.getElem?_eq_getElem h]; rfl
      have heq : (xs.getD i default).1 = (ys.getD i default).1 → (xs.getD i default).2 = (ys.getD i default).2 → xs.getD i default = ys.getD i default := fun h1 h2 => Prod.ext h1 h2
      refine Wr.go ?_
      repeat' ((first | (have ee := True.intro; refine Wr.mk ?_) | ((first | refine br_go ?_ ?_ | refine pick_go ?_ ?_) <;> intro ee f <;> (try simp only [BB] at f) <;> (try simp only [numOk, verOk] at f)) | (have ee := True.intro; first | refine dr_go mixed (id := 6) [([], [0], []), ([], [5], []), ([0, 1], [17, 18], []), ([0, 1, 2], [19], []), ([], [1], []), ([], [5], []), ([4, 5], [21, 22], []), ([4, 5, 6], [23], []), ([0, 1, 2, 3, 4, 5, 6, 7], [20, 24], [])] rfl rfl rfl ?_)) <;> (try simp (maxSteps := 1000000) (disch := first | omega | (simp only [LN, numOk, verOk, rfP, rvP, rhP, frP, hg] <;> omega) | exact Ck.mk rfl) only [ee, VC, T, Nat.reduceMul, Nat.reduceAdd, Nat.reduceSub, Nat.reduceLT, Nat.reduceEqDiff, Nat.reduceLeDiff, Nat.reduceBEq, reduceCtorEq, Int.reduceToNat, ↓reduceIte, rfP, rvP, rhP, frP, hg]) <;> (try clear ee))
      · refine hN (i + 1) _ ⟨by omega, eq_stp xs ys i hl (by omega) h2 (heq f.1 f.2)⟩ (by omega) ?_
        (simp (disch := first | omega | (simp only [LN, numOk, verOk] <;> omega) | exact Ck.mk rfl) only [SB, EQ, Nat.reduceMul, Nat.reduceAdd, Nat.reduceSub, Nat.reduceLT, Nat.reduceEqDiff, Nat.reduceLeDiff, Nat.reduceBEq, reduceCtorEq, Int.reduceToNat, ↓reduceIte]; try omega)
      · rw [decide_eq_false fun h => by subst h; rcases f with f | f <;> exact f rfl]
      · rw [List.take_of_length_le (by omega), List.take_of_length_le (by omega)] at h2
        rw [decide_eq_true h2]
  · rw [decide_eq_false fun h => f (by rw [h])]
theorem spec_UsedOn (d : Dk) (h : DkW d) : Fn Tryz.prog 67 [dkP d] [] (.int .i64 (usedT d)) [] := by
  have hns := h.ns
  have hnt := h.nt
  unfold usedT
  obtain ⟨ns, es, os, ss, r, x⟩ := d
  simp only at *
  unfold dkP
  refine fn_x tok (n := 22) (rs := [.tmp 2]) Tryz.func67 (by decide) rfl rfl rfl rfl ?_
  refine Wr.go ?_
  repeat' ((first | (have ee := True.intro; refine Wr.mk ?_) | ((first | refine br_go ?_ ?_ | refine pick_go ?_ ?_) <;> intro ee f <;> (try simp only [BB] at f) <;> (try simp only [numOk, verOk] at f))) <;> (try simp (maxSteps := 1000000) (disch := first | omega | (simp only [LN, numOk, verOk, rfP, rvP, rhP, frP] <;> omega) | exact Ck.mk rfl) only [ee, VC, T, Nat.reduceMul, Nat.reduceAdd, Nat.reduceSub, Nat.reduceLT, Nat.reduceEqDiff, Nat.reduceLeDiff, Nat.reduceBEq, reduceCtorEq, Int.reduceToNat, ↓reduceIte, rfP, rvP, rhP, frP]) <;> (try clear ee))
  refine lp_go (fun i : Nat => ⟨22, [(1, .ref 128 0), (3, .int .i64 ((ns.take i).map fun x => (x.2.1.size : Int)).sum), (4, .int .i64 i)], [(128, .box 35 [.far (ns.map ndP), .far (es.map enP), .far (os.map enP), .far (ss.map .str), .int .i64 r, .int .i64 x])]⟩) (fun i => i ≤ ns.length ∧ 0 ≤ ((ns.take i).map fun x => (x.2.1.size : Int)).sum ∧ ((ns.take i).map fun x => (x.2.1.size : Int)).sum ≤ 1073741824 * i) (fun i => ns.length - i) 0 ?_ ⟨Nat.zero_le _, by simp, by simp⟩ ?_
  · (simp (disch := first | omega | (simp only [LN, numOk, verOk] <;> omega) | exact Ck.mk rfl) only [SB, EQ, Nat.reduceMul, Nat.reduceAdd, Nat.reduceSub, Nat.reduceLT, Nat.reduceEqDiff, Nat.reduceLeDiff, Nat.reduceBEq, reduceCtorEq, Int.reduceToNat, ↓reduceIte]; try omega)
    rfl
  · rintro i ⟨hi, hs1, hs2⟩ N hN
    have hg : i < ns.length → (ns.map ndP).getD i .junk = .agg [.int .i64 (ns.getD i default).1, .str (ns.getD i default).2.1, .int .i64 (ns.getD i default).2.2] := fun h => by
      rw [List.getD_eq_getElem?_getD, List.getElem?_map, List.getElem?_eq_getElem h, List.getD_eq_getElem?_getD, List.getElem?_eq_getElem h]; rfl
    have hsn : i < ns.length → ((ns.take (i + 1)).map fun x => (x.2.1.size : Int)).sum = ((ns.take i).map fun x => (x.2.1.size : Int)).sum + (ns.getD i default).2.1.size := fun h => by
      rw [take_snoc default ns i h, List.map_append, List.sum_append]
      simp [rdOf]
    have hz : i < ns.length → (ns.getD i default).2.1.size ≤ 1073741824 := fun h => by
      rw [List.getD_eq_getElem?_getD, List.getElem?_eq_getElem h]; exact hnt _ (List.getElem_mem h)
    generalize hu : ((ns.take i).map fun x => (x.2.1.size : Int)).sum = u at *
    by_cases h : i < ns.length
    · have hsn := hsn h
      have hz := hz h
      refine Wr.go ?_
      repeat' ((first | (have ee := True.intro; refine Wr.mk ?_) | ((first | refine br_go ?_ ?_ | refine pick_go ?_ ?_) <;> intro ee f <;> (try simp only [BB] at f) <;> (try simp only [numOk, verOk] at f))) <;> (try simp (maxSteps := 1000000) (disch := first | omega | (simp only [LN, numOk, verOk, rfP, rvP, rhP, frP, hg] <;> omega) | exact Ck.mk rfl) only [ee, VC, T, Nat.reduceMul, Nat.reduceAdd, Nat.reduceSub, Nat.reduceLT, Nat.reduceEqDiff, Nat.reduceLeDiff, Nat.reduceBEq, reduceCtorEq, Int.reduceToNat, ↓reduceIte, rfP, rvP, rhP, frP, hg]) <;> (try clear ee))
      refine hN (i + 1) _ ⟨by omega, by rw [hsn]; omega, by rw [hsn]; omega⟩ (by omega) ?_
      rw [hsn]
      (simp (disch := first | omega | (simp only [LN, numOk, verOk] <;> omega) | exact Ck.mk rfl) only [SB, EQ, Nat.reduceMul, Nat.reduceAdd, Nat.reduceSub, Nat.reduceLT, Nat.reduceEqDiff, Nat.reduceLeDiff, Nat.reduceBEq, reduceCtorEq, Int.reduceToNat, ↓reduceIte]; try omega)
    · obtain rfl : i = ns.length := by omega
      refine Wr.go ?_
      repeat' ((first | (have ee := True.intro; refine Wr.mk ?_) | ((first | refine br_go ?_ ?_ | refine pick_go ?_ ?_) <;> intro ee f <;> (try simp only [BB] at f) <;> (try simp only [numOk, verOk] at f))) <;> (try simp (maxSteps := 1000000) (disch := first | omega | (simp only [LN, numOk, verOk, rfP, rvP, rhP, frP] <;> omega) | exact Ck.mk rfl) only [ee, VC, T, Nat.reduceMul, Nat.reduceAdd, Nat.reduceSub, Nat.reduceLT, Nat.reduceEqDiff, Nat.reduceLeDiff, Nat.reduceBEq, reduceCtorEq, Int.reduceToNat, ↓reduceIte, rfP, rvP, rhP, frP]) <;> (try clear ee))
      rw [← hu, List.take_length]
end Go.Pv

/- What functions of the program and of the reference do, in plain values. -/
namespace Go.Pv
open Go.Proofs Go.Mth
set_option linter.unusedSimpArgs false
set_option linter.unusedVariables false
set_option maxHeartbeats 4000000
set_option maxRecDepth 4000

/-! ### the reference's deeds on disks: entries, steps -/
theorem spec_l06Drop_R (L : List Et) (n : ByteArray) (hl : L.length ≤ 16777216) : FnE Tryz.prog 142 [.far (L.map enP), .str n] [] (fun r m => r = .row 64 (dropT L n).length ∧ m = [(64, .row ⟨2, 0⟩ ((dropT L n).map enP))]) := by
  unfold dropT
  refine fn_e tok (n := 29) (rs := [.tmp 4]) Tryz.func142 (by decide) rfl rfl rfl rfl (low_of rfl) ?_
  refine Wr.go ?_
  repeat' ((first | (have ee := True.intro; refine Wr.mk ?_) | ((first | refine br_go ?_ ?_ | refine pick_go ?_ ?_) <;> intro ee f <;> (try simp only [BB] at f) <;> (try simp only [numOk, verOk] at f))) <;> (try simp (maxSteps := 1000000) (disch := first | omega | (simp only [LN, numOk, verOk, rfP, rvP, rhP, frP] <;> omega) | exact Ck.mk rfl) only [ee, VC, T, Nat.reduceMul, Nat.reduceAdd, Nat.reduceSub, Nat.reduceLT, Nat.reduceEqDiff, Nat.reduceLeDiff, Nat.reduceBEq, reduceCtorEq, Int.reduceToNat, ↓reduceIte, rfP, rvP, rhP, frP]) <;> (try clear ee))
  refine lp_go (fun i : Nat => ⟨29, [(0, .far (L.map enP)), (1, .str n), (5, .row 512 ((L.take i).filter fun e => decide (e.1 ≠ n)).length), (6, .int .i64 i)], [(512, .row ⟨2, 0⟩ (((L.take i).filter fun e => decide (e.1 ≠ n)).map enP))]⟩) (fun i => i ≤ L.length) (fun i => L.length - i) 0 ?_ (Nat.zero_le _) ?_
  · (simp (disch := first | omega | (simp only [LN, numOk, verOk] <;> omega) | exact Ck.mk rfl) only [SB, EQ, Nat.reduceMul, Nat.reduceAdd, Nat.reduceSub, Nat.reduceLT, Nat.reduceEqDiff, Nat.reduceLeDiff, Nat.reduceBEq, reduceCtorEq, Int.reduceToNat, ↓reduceIte]; try omega)
    exact ⟨rfl, rfl⟩
  · intro i hi N hN
    have hsn := flt_snoc (fun e : Et => decide (e.1 ≠ n)) L i
    have hfl : ((L.take i).filter fun e => decide (e.1 ≠ n)).length ≤ i := by
      have := List.length_filter_le (fun e : Et => decide (e.1 ≠ n)) (L.take i)
      rw [List.length_take] at this
      omega
    have hg : i < L.length → (L.map enP).getD i .junk = .agg [.str (L.getD i default).1, .int .i64 (L.getD i default).2] := fun h => by
      rw [List.getD_eq_getElem?_getD, List.getElem?_map, List.getElem?_eq_getElem h, List.getD_eq_getElem?_getD, List.getElem?_eq_getElem h]; rfl
    generalize hM : (L.take i).filter (fun e => decide (e.1 ≠ n)) = M at *
    by_cases h : i < L.length
    · have hsn := hsn h
      have hg := hg h
      generalize L.getD i default = p at *
      obtain ⟨b, c⟩ := p
      simp only at *
      have hmap : (M ++ [(b, c)]).map enP = M.map enP ++ [.agg [.str b, .int .i64 c]] := by rw [List.map_append]; rfl
      refine Wr.go ?_
      repeat' ((first | (have ee := True.intro; refine Wr.mk ?_) | ((first | refine br_go ?_ ?_ | refine pick_go ?_ ?_) <;> intro ee f <;> (try simp only [BB] at f) <;> (try simp only [numOk, verOk] at f))) <;> (try simp (maxSteps := 1000000) (disch := first | omega | (simp only [LN, numOk, verOk, rfP, rvP, rhP, frP, hg] <;> omega) | exact Ck.mk rfl) only [ee, VC, T, Nat.reduceMul, Nat.reduceAdd, Nat.reduceSub, Nat.reduceLT, Nat.reduceEqDiff, Nat.reduceLeDiff, Nat.reduceBEq, reduceCtorEq, Int.reduceToNat, ↓reduceIte, rfP, rvP, rhP, frP, hg]) <;> (try clear ee))
      · refine hN (i + 1) _ (by omega) (by omega) ?_
        rw [hsn, if_neg (by rw [decide_eq_false (fun h => h f)]; decide), List.append_nil]
        (simp (disch := first | omega | (simp only [LN, numOk, verOk] <;> omega) | exact Ck.mk rfl) only [SB, EQ, Nat.reduceMul, Nat.reduceAdd, Nat.reduceSub, Nat.reduceLT, Nat.reduceEqDiff, Nat.reduceLeDiff, Nat.reduceBEq, reduceCtorEq, Int.reduceToNat, ↓reduceIte]; try omega)
      · refine hN (i + 1) _ (by omega) (by omega) ?_
        rw [hsn, if_pos (decide_eq_true f), hmap]
        (simp (disch := first | omega | (simp only [LN, numOk, verOk, List.length_append, List.length_cons, List.length_nil] <;> omega) | exact Ck.mk rfl) only [SB, EQ, Nat.reduceMul, Nat.reduceAdd, Nat.reduceSub, Nat.reduceLT, Nat.reduceEqDiff, Nat.reduceLeDiff, Nat.reduceBEq, reduceCtorEq, Int.reduceToNat, ↓reduceIte, List.length_append, List.length_cons, List.length_nil]; try omega)
    · refine Wr.go ?_
      repeat' ((first | (have ee := True.intro; refine Wr.mk ?_) | ((first | refine br_go ?_ ?_ | refine pick_go ?_ ?_) <;> intro ee f <;> (try simp only [BB] at f) <;> (try simp only [numOk, verOk] at f))) <;> (try simp (maxSteps := 1000000) (disch := first | omega | (simp only [LN, numOk, verOk, rfP, rvP, rhP, frP] <;> omega) | exact Ck.mk rfl) only [ee, VC, T, Nat.reduceMul, Nat.reduceAdd, Nat.reduceSub, Nat.reduceLT, Nat.reduceEqDiff, Nat.reduceLeDiff, Nat.reduceBEq, reduceCtorEq, Int.reduceToNat, ↓reduceIte, rfP, rvP, rhP, frP]) <;> (try clear ee))
      obtain rfl : i = L.length := by omega
      rw [List.take_length] at hM
      rw [hM]
      exact fin_t [some 512] (⟨rfl, rfl⟩) rfl (by simp [RV, RV2, RVl, RV1, tau, tget, hget, data1, oneOf]) (by simp [RH, RVl, RV1, tau, hget, data1]) (by simp [Taus, hget])
theorem spec_l06Put_R (L : List Et) (e : Et) (hl : L.length ≤ 16777216) : FnE Tryz.prog 143 [.far (L.map enP), enP e] [] (fun r m => r = .row 64 (putT L e).length ∧ m = [(64, .row ⟨2, 0⟩ ((putT L e).map enP))]) := by
  have hst := fun d => putG_step e d L
  have hen : ∀ d, putG e d [] = if d then [] else [e] := fun _ => rfl
  have hpl := putT_len L e
  generalize hq : putT L e = q at *
  unfold putT at hq
  obtain ⟨en, ei⟩ := e
  unfold enP
  refine fn_e tok (n := 53) (rs := [.tmp 4]) Tryz.func143 (by decide) rfl rfl rfl rfl (low_of rfl) ?_
  refine Wr.go ?_
  repeat' ((first | (have ee := True.intro; refine Wr.mk ?_) | ((first | refine br_go ?_ ?_ | refine pick_go ?_ ?_) <;> intro ee f <;> (try simp only [BB] at f) <;> (try simp only [numOk, verOk] at f))) <;> (try simp (maxSteps := 1000000) (disch := first | omega | (simp only [LN, numOk, verOk, rfP, rvP, rhP, frP] <;> omega) | exact Ck.mk rfl) only [ee, VC, T, Nat.reduceMul, Nat.reduceAdd, Nat.reduceSub, Nat.reduceLT, Nat.reduceEqDiff, Nat.reduceLeDiff, Nat.reduceBEq, reduceCtorEq, Int.reduceToNat, ↓reduceIte, rfP, rvP, rhP, frP]) <;> (try clear ee))
  refine lp_go (fun x : Nat × List Et × Bool => ⟨53, [(0, .far (L.map fun x => .agg [.str x.1, .int .i64 x.2])), (3, .ref 256 0), (5, .row 576 x.2.1.length), (6, .bool x.2.2), (7, .int .i64 x.1)], [(256, .box 101 [.str en, .int .i64 ei]), (576, .row ⟨2, 0⟩ (x.2.1.map fun x => .agg [.str x.1, .int .i64 x.2]))]⟩) (fun x => x.1 ≤ L.length ∧ q = x.2.1 ++ putG (en, ei) x.2.2 (L.drop x.1)) (fun x => L.length - x.1) (0, [], false) ?_ ⟨Nat.zero_le _, hq.symm⟩ ?_
  · (simp (disch := first | omega | (simp only [LN, numOk, verOk] <;> omega) | exact Ck.mk rfl) only [SB, EQ, Nat.reduceMul, Nat.reduceAdd, Nat.reduceSub, Nat.reduceLT, Nat.reduceEqDiff, Nat.reduceLeDiff, Nat.reduceBEq, reduceCtorEq, Int.reduceToNat, ↓reduceIte]; try omega)
  · rintro ⟨i, M, d⟩ ⟨hi, hqq⟩ N hN
    simp only at hi hqq hN
    have hst := hst d i
    have hM1 : M.length ≤ q.length := by rw [hqq, List.length_append]; omega
    have hg : i < L.length → (L.map fun x : Et => PV.agg [.str x.1, .int .i64 x.2]).getD i .junk = .agg [.str (L.getD i default).1, .int .i64 (L.getD i default).2] := fun h => by
      rw [List.getD_eq_getElem?_getD, List.getElem?_map, List.getElem?_eq_getElem h, List.getD_eq_getElem?_getD, List.getElem?_eq_getElem h]; rfl
    by_cases h : i < L.length
    · have hst := hst h
      have hg := hg h
      generalize L.getD i default = p at *
      obtain ⟨b, c⟩ := p
      simp only at *
      refine Wr.go ?_
      repeat' ((first | (have ee := True.intro; refine Wr.mk ?_) | ((first | refine br_go ?_ ?_ | refine pick_go ?_ ?_) <;> intro ee f <;> (try simp only [BB] at f) <;> (try simp only [numOk, verOk] at f)) | (have ee := True.intro; first | refine dr_go mixed (id := 6) [([], [6], []), ([0], [15], []), ([0, 1], [16], []), ([0, 1, 2], [0, 17], []), ([0, 1, 2], [7, 17], []), ([0, 1, 2, 3, 4], [17, 18, 19], []), ([0, 1, 2, 3, 4, 5], [17, 20], []), ([0, 1, 2, 3, 4, 5, 6], [17, 21], []), ([0, 1, 2], [3, 17], []), ([0, 1, 2, 8], [17, 23], []), ([0, 1, 2, 3, 4, 5, 6, 7, 8, 9], [17, 22, 24], []), ([0, 1, 2, 3, 4, 5, 6, 7, 8, 9, 10], [17, 25], [])] rfl rfl rfl ?_ | refine dr_go mixed (id := 9) [([], [0], []), ([], [7], []), ([0, 1], [31, 32], []), ([0, 1, 2], [33], []), ([0, 1, 2, 3], [34], []), ([], [3], []), ([5], [36], []), ([0, 1, 2, 3, 4, 5, 6], [35, 37], [])] rfl rfl rfl ?_)) <;> (try simp (maxSteps := 1000000) (disch := first | omega | (simp only [LN, numOk, verOk, rfP, rvP, rhP, frP, hg] <;> omega) | exact Ck.mk rfl) only [ee, VC, T, Nat.reduceMul, Nat.reduceAdd, Nat.reduceSub, Nat.reduceLT, Nat.reduceEqDiff, Nat.reduceLeDiff, Nat.reduceBEq, reduceCtorEq, Int.reduceToNat, ↓reduceIte, rfP, rvP, rhP, frP, hg]) <;> (try clear ee))
      · rename_i g1
        refine hN (i + 1, M, true) _ ⟨by simp only; omega, ?_⟩ (by simp only; omega) ?_
        · rw [hqq, hst, if_neg (show ¬ (d = false ∧ sLt b en = false) from fun h => by rw [g1] at h; exact Bool.noConfusion h.1), if_pos f, g1]; simp
        · (simp (disch := first | omega | (simp only [LN, numOk, verOk, List.map_append, List.map_cons, List.map_nil, List.length_append, List.length_cons, List.length_nil] <;> omega) | exact Ck.mk rfl) only [SB, EQ, Nat.reduceMul, Nat.reduceAdd, Nat.reduceSub, Nat.reduceLT, Nat.reduceEqDiff, Nat.reduceLeDiff, Nat.reduceBEq, reduceCtorEq, Int.reduceToNat, ↓reduceIte, List.map_append, List.map_cons, List.map_nil, List.length_append, List.length_cons, List.length_nil]; try omega)
      · rename_i g1
        refine hN (i + 1, M ++ [(b, c)], true) _ ⟨by simp only; omega, ?_⟩ (by simp only; omega) ?_
        · rw [hqq, hst, if_neg (show ¬ (d = false ∧ sLt b en = false) from fun h => by rw [g1] at h; exact Bool.noConfusion h.1), if_neg f, g1]; simp
        · (simp (disch := first | omega | (simp only [LN, numOk, verOk, List.map_append, List.map_cons, List.map_nil, List.length_append, List.length_cons, List.length_nil] <;> omega) | exact Ck.mk rfl) only [SB, EQ, Nat.reduceMul, Nat.reduceAdd, Nat.reduceSub, Nat.reduceLT, Nat.reduceEqDiff, Nat.reduceLeDiff, Nat.reduceBEq, reduceCtorEq, Int.reduceToNat, ↓reduceIte, List.map_append, List.map_cons, List.map_nil, List.length_append, List.length_cons, List.length_nil]; try omega)
      · rename_i g1 g2
        have g2 : sLt b en = true := g2
        refine hN (i + 1, M, false) _ ⟨by simp only; omega, ?_⟩ (by simp only; omega) ?_
        · rw [hqq, hst, if_neg (show ¬ (d = false ∧ sLt b en = false) from fun h => by rw [g2] at h; exact Bool.noConfusion h.2), if_pos f, g1, g2]; simp
        · (simp (disch := first | omega | (simp only [LN, numOk, verOk, List.map_append, List.map_cons, List.map_nil, List.length_append, List.length_cons, List.length_nil] <;> omega) | exact Ck.mk rfl) only [SB, EQ, Nat.reduceMul, Nat.reduceAdd, Nat.reduceSub, Nat.reduceLT, Nat.reduceEqDiff, Nat.reduceLeDiff, Nat.reduceBEq, reduceCtorEq, Int.reduceToNat, ↓reduceIte, List.map_append, List.map_cons, List.map_nil, List.length_append, List.length_cons, List.length_nil]; try omega)
      · rename_i g1 g2
        have g2 : sLt b en = true := g2
        refine hN (i + 1, M ++ [(b, c)], false) _ ⟨by simp only; omega, ?_⟩ (by simp only; omega) ?_
        · rw [hqq, hst, if_neg (show ¬ (d = false ∧ sLt b en = false) from fun h => by rw [g2] at h; exact Bool.noConfusion h.2), if_neg f, g1, g2]; simp
        · (simp (disch := first | omega | (simp only [LN, numOk, verOk, List.map_append, List.map_cons, List.map_nil, List.length_append, List.length_cons, List.length_nil] <;> omega) | exact Ck.mk rfl) only [SB, EQ, Nat.reduceMul, Nat.reduceAdd, Nat.reduceSub, Nat.reduceLT, Nat.reduceEqDiff, Nat.reduceLeDiff, Nat.reduceBEq, reduceCtorEq, Int.reduceToNat, ↓reduceIte, List.map_append, List.map_cons, List.map_nil, List.length_append, List.length_cons, List.length_nil]; try omega)
      · rename_i g1 g2
        have g2 : sLt b en = false := g2
        refine hN (i + 1, M ++ [(en, ei)], true) _ ⟨by simp only; omega, ?_⟩ (by simp only; omega) ?_
        · rw [hqq, hst, if_pos (show d = false ∧ sLt b en = false from ⟨g1, g2⟩), if_pos f, g1, g2]; simp
        · (simp (disch := first | omega | (simp only [LN, numOk, verOk, List.map_append, List.map_cons, List.map_nil, List.length_append, List.length_cons, List.length_nil] <;> omega) | exact Ck.mk rfl) only [SB, EQ, Nat.reduceMul, Nat.reduceAdd, Nat.reduceSub, Nat.reduceLT, Nat.reduceEqDiff, Nat.reduceLeDiff, Nat.reduceBEq, reduceCtorEq, Int.reduceToNat, ↓reduceIte, List.map_append, List.map_cons, List.map_nil, List.length_append, List.length_cons, List.length_nil]; try omega)
      · rename_i g1 g2
        have g2 : sLt b en = false := g2
        refine hN (i + 1, M ++ [(en, ei)] ++ [(b, c)], true) _ ⟨by simp only; omega, ?_⟩ (by simp only; omega) ?_
        · rw [hqq, hst, if_pos (show d = false ∧ sLt b en = false from ⟨g1, g2⟩), if_neg f, g1, g2]; simp
        · (simp (disch := first | omega | (simp only [LN, numOk, verOk, List.map_append, List.map_cons, List.map_nil, List.length_append, List.length_cons, List.length_nil] <;> omega) | exact Ck.mk rfl) only [SB, EQ, Nat.reduceMul, Nat.reduceAdd, Nat.reduceSub, Nat.reduceLT, Nat.reduceEqDiff, Nat.reduceLeDiff, Nat.reduceBEq, reduceCtorEq, Int.reduceToNat, ↓reduceIte, List.map_append, List.map_cons, List.map_nil, List.length_append, List.length_cons, List.length_nil]; try omega)
    · rw [List.drop_eq_nil_of_le (by omega), hen] at hqq
      refine Wr.go ?_
      repeat' ((first | (have ee := True.intro; refine Wr.mk ?_) | ((first | refine br_go ?_ ?_ | refine pick_go ?_ ?_) <;> intro ee f <;> (try simp only [BB] at f) <;> (try simp only [numOk, verOk] at f))) <;> (try simp (maxSteps := 1000000) (disch := first | omega | (simp only [LN, numOk, verOk, rfP, rvP, rhP, frP] <;> omega) | exact Ck.mk rfl) only [ee, VC, T, Nat.reduceMul, Nat.reduceAdd, Nat.reduceSub, Nat.reduceLT, Nat.reduceEqDiff, Nat.reduceLeDiff, Nat.reduceBEq, reduceCtorEq, Int.reduceToNat, ↓reduceIte, rfP, rvP, rhP, frP]) <;> (try clear ee))
      · rw [f, if_pos rfl, List.append_nil] at hqq
        subst hqq
        exact fin_t [some 576] (⟨rfl, rfl⟩) rfl (by simp [RV, RV2, RVl, RV1, tau, tget, hget, data1, oneOf]) (by simp [RH, RVl, RV1, tau, hget, data1]) (by simp [Taus, hget])
      · rw [f, if_neg (by decide)] at hqq
        subst hqq
        exact fin_t [some 576] (⟨rfl, rfl⟩) rfl (by simp [RV, RV2, RVl, RV1, tau, tget, hget, data1, oneOf, List.map_append, List.map_cons, List.map_nil, List.length_append, List.length_cons, List.length_nil]) (by simp [RH, RVl, RV1, tau, hget, data1, List.map_append, List.map_cons, List.map_nil, List.length_append, List.length_cons, List.length_nil]) (by simp [Taus, hget, List.map_append, List.map_cons, List.map_nil, List.length_append, List.length_cons, List.length_nil])
end Go.Pv
