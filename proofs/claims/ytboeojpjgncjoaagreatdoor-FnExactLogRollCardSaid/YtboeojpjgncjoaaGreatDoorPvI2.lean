/- The texts of this claim, part 2: a small logic of plain values for the model's runs, what it says of the functions, in plain values. -/
import Derived.Test.YtboeojpjgncjoaaGreatDoorProg
import Derived.KernelRfl
import Derived.Test.YtboeojpjgncjoaaGreatDoorPvI0
import Derived.Test.YtboeojpjgncjoaaGreatDoorPvI1
/- The table of types. -/
namespace Go.Pv
open Go.Proofs
def T : Tab
  | 2 => some ⟨.int .i64, 1, 8, [.int .i64 0]⟩
  | 3 => some ⟨.int .i64, 1, 8, [.int .i64 0]⟩
  | 4 => some ⟨.bool, 1, 1, [.bool false]⟩
  | 5 => some ⟨.int .u8, 1, 1, [.int .u8 0]⟩
  | 6 => some ⟨.int .u8, 1, 1, [.int .u8 0]⟩
  | 7 => some ⟨.struct [(0, 2), (1, 3), (2, 4), (3, 6)], 4, 24, [.int .i64 0, .int .i64 0, .bool false, .int .u8 0]⟩
  | 8 => some ⟨.struct [(0, 2), (1, 3), (2, 4), (3, 6)], 4, 24, [.int .i64 0, .int .i64 0, .bool false, .int .u8 0]⟩
  | 9 => some ⟨.str, 1, 16, [.str ByteArray.empty]⟩
  | 10 => some ⟨.str, 1, 16, [.str ByteArray.empty]⟩
  | 11 => some ⟨.str, 1, 16, [.str ByteArray.empty]⟩
  | 12 => some ⟨.int .u64, 1, 8, [.int .u64 0]⟩
  | 15 => some ⟨.ptr 211, 1, 8, [.nilp]⟩
  | 16 => some ⟨.ptr 214, 1, 8, [.nilp]⟩
  | 17 => some ⟨.ptr 221, 1, 8, [.nilp]⟩
  | 18 => some ⟨.struct [(0, 17)], 1, 8, [.nilp]⟩
  | 19 => some ⟨.struct [(0, 17)], 1, 8, [.nilp]⟩
  | 21 => some ⟨.int .i32, 1, 4, [.int .i32 0]⟩
  | 22 => some ⟨.slice 76, 1, 24, [.nils]⟩
  | 23 => some ⟨.slice 79, 1, 24, [.nils]⟩
  | 24 => some ⟨.slice 9, 1, 24, [.nils]⟩
  | 25 => some ⟨.struct [(0, 22), (1, 23), (2, 23), (3, 24), (4, 3), (5, 3)], 6, 112, [.nils, .nils, .nils, .nils, .int .i64 0, .int .i64 0]⟩
  | 26 => some ⟨.struct [(0, 22), (1, 23), (2, 23), (3, 24), (4, 3), (5, 3)], 6, 112, [.nils, .nils, .nils, .nils, .int .i64 0, .int .i64 0]⟩
  | 27 => some ⟨.slice 3, 1, 24, [.nils]⟩
  | 28 => some ⟨.struct [(0, 3), (1, 3), (2, 3), (3, 3), (4, 3), (5, 27), (6, 3), (7, 4), (8, 3)], 9, 88, [.int .i64 0, .int .i64 0, .int .i64 0, .int .i64 0, .int .i64 0, .nils, .int .i64 0, .bool false, .int .i64 0]⟩
  | 29 => some ⟨.struct [(0, 3), (1, 3), (2, 3), (3, 3), (4, 3), (5, 27), (6, 3), (7, 4), (8, 3)], 9, 88, [.int .i64 0, .int .i64 0, .int .i64 0, .int .i64 0, .int .i64 0, .nils, .int .i64 0, .bool false, .int .i64 0]⟩
  | 32 => some ⟨.slice 93, 1, 24, [.nils]⟩
  | 33 => some ⟨.slice 101, 1, 24, [.nils]⟩
  | 34 => some ⟨.struct [(0, 32), (1, 33), (2, 33), (3, 24), (4, 3), (5, 3)], 6, 112, [.nils, .nils, .nils, .nils, .int .i64 0, .int .i64 0]⟩
  | 35 => some ⟨.struct [(0, 32), (1, 33), (2, 33), (3, 24), (4, 3), (5, 3)], 6, 112, [.nils, .nils, .nils, .nils, .int .i64 0, .int .i64 0]⟩
  | 36 => some ⟨.struct [(0, 3), (1, 3), (2, 3), (3, 3), (4, 3), (5, 27), (6, 3), (7, 4), (8, 3)], 9, 88, [.int .i64 0, .int .i64 0, .int .i64 0, .int .i64 0, .int .i64 0, .nils, .int .i64 0, .bool false, .int .i64 0]⟩
  | 59 => some ⟨.struct [(0, 3), (1, 3), (2, 3), (3, 3)], 4, 32, [.int .i64 0, .int .i64 0, .int .i64 0, .int .i64 0]⟩
  | 60 => some ⟨.struct [(0, 3), (1, 3), (2, 3), (3, 3)], 4, 32, [.int .i64 0, .int .i64 0, .int .i64 0, .int .i64 0]⟩
  | 75 => some ⟨.struct [(0, 3), (1, 9), (2, 3)], 3, 32, [.int .i64 0, .str ByteArray.empty, .int .i64 0]⟩
  | 76 => some ⟨.struct [(0, 3), (1, 9), (2, 3)], 3, 32, [.int .i64 0, .str ByteArray.empty, .int .i64 0]⟩
  | 78 => some ⟨.struct [(0, 9), (1, 3)], 2, 24, [.str ByteArray.empty, .int .i64 0]⟩
  | 79 => some ⟨.struct [(0, 9), (1, 3)], 2, 24, [.str ByteArray.empty, .int .i64 0]⟩
  | 81 => some ⟨.slice 5, 1, 24, [.nils]⟩
  | 82 => some ⟨.int .u64, 1, 8, [.int .u64 0]⟩
  | 83 => some ⟨.struct [(0, 4), (1, 60), (5, 24), (6, 27), (7, 3), (8, 4)], 9, 104, [.bool false, .int .i64 0, .int .i64 0, .int .i64 0, .int .i64 0, .nils, .nils, .int .i64 0, .bool false]⟩
  | 84 => some ⟨.struct [(0, 4), (1, 60), (5, 24), (6, 27), (7, 3), (8, 4)], 9, 104, [.bool false, .int .i64 0, .int .i64 0, .int .i64 0, .int .i64 0, .nils, .nils, .int .i64 0, .bool false]⟩
  | 93 => some ⟨.struct [(0, 3), (1, 9), (2, 3)], 3, 32, [.int .i64 0, .str ByteArray.empty, .int .i64 0]⟩
  | 97 => some ⟨.slice 122, 1, 24, [.nils]⟩
  | 101 => some ⟨.struct [(0, 9), (1, 3)], 2, 24, [.str ByteArray.empty, .int .i64 0]⟩
  | 121 => some ⟨.struct [(0, 3), (1, 3)], 2, 16, [.int .i64 0, .int .i64 0]⟩
  | 122 => some ⟨.struct [(0, 3), (1, 3)], 2, 16, [.int .i64 0, .int .i64 0]⟩
  | 127 => some ⟨.ptr 129, 1, 8, [.nilp]⟩
  | 128 => some ⟨.struct [(0, 127), (1, 81)], 2, 32, [.nilp, .nils]⟩
  | 129 => some ⟨.struct [(0, 127), (1, 81)], 2, 32, [.nilp, .nils]⟩
  | 132 => some ⟨.iface, 1, 16, [.raw .nilIface]⟩
  | 153 => some ⟨.arr 24 5, 24, 24, [.int .u8 0, .int .u8 0, .int .u8 0, .int .u8 0, .int .u8 0, .int .u8 0, .int .u8 0, .int .u8 0, .int .u8 0, .int .u8 0, .int .u8 0, .int .u8 0, .int .u8 0, .int .u8 0, .int .u8 0, .int .u8 0, .int .u8 0, .int .u8 0, .int .u8 0, .int .u8 0, .int .u8 0, .int .u8 0, .int .u8 0, .int .u8 0]⟩
  | 154 => some ⟨.int .u64, 1, 8, [.int .u64 0]⟩
  | 159 => some ⟨.int .u32, 1, 4, [.int .u32 0]⟩
  | 164 => some ⟨.ptr 5, 1, 8, [.nilp]⟩
  | 176 => some ⟨.arr 20 154, 20, 160, [.int .u64 0, .int .u64 0, .int .u64 0, .int .u64 0, .int .u64 0, .int .u64 0, .int .u64 0, .int .u64 0, .int .u64 0, .int .u64 0, .int .u64 0, .int .u64 0, .int .u64 0, .int .u64 0, .int .u64 0, .int .u64 0, .int .u64 0, .int .u64 0, .int .u64 0, .int .u64 0]⟩
  | 177 => some ⟨.arr 65 5, 65, 65, [.int .u8 0, .int .u8 0, .int .u8 0, .int .u8 0, .int .u8 0, .int .u8 0, .int .u8 0, .int .u8 0, .int .u8 0, .int .u8 0, .int .u8 0, .int .u8 0, .int .u8 0, .int .u8 0, .int .u8 0, .int .u8 0, .int .u8 0, .int .u8 0, .int .u8 0, .int .u8 0, .int .u8 0, .int .u8 0, .int .u8 0, .int .u8 0, .int .u8 0, .int .u8 0, .int .u8 0, .int .u8 0, .int .u8 0, .int .u8 0, .int .u8 0, .int .u8 0, .int .u8 0, .int .u8 0, .int .u8 0, .int .u8 0, .int .u8 0, .int .u8 0, .int .u8 0, .int .u8 0, .int .u8 0, .int .u8 0, .int .u8 0, .int .u8 0, .int .u8 0, .int .u8 0, .int .u8 0, .int .u8 0, .int .u8 0, .int .u8 0, .int .u8 0, .int .u8 0, .int .u8 0, .int .u8 0, .int .u8 0, .int .u8 0, .int .u8 0, .int .u8 0, .int .u8 0, .int .u8 0, .int .u8 0, .int .u8 0, .int .u8 0, .int .u8 0, .int .u8 0]⟩
  | 189 => some ⟨.arr 32 5, 32, 32, [.int .u8 0, .int .u8 0, .int .u8 0, .int .u8 0, .int .u8 0, .int .u8 0, .int .u8 0, .int .u8 0, .int .u8 0, .int .u8 0, .int .u8 0, .int .u8 0, .int .u8 0, .int .u8 0, .int .u8 0, .int .u8 0, .int .u8 0, .int .u8 0, .int .u8 0, .int .u8 0, .int .u8 0, .int .u8 0, .int .u8 0, .int .u8 0, .int .u8 0, .int .u8 0, .int .u8 0, .int .u8 0, .int .u8 0, .int .u8 0, .int .u8 0, .int .u8 0]⟩
  | 190 => some ⟨.arr 64 5, 64, 64, [.int .u8 0, .int .u8 0, .int .u8 0, .int .u8 0, .int .u8 0, .int .u8 0, .int .u8 0, .int .u8 0, .int .u8 0, .int .u8 0, .int .u8 0, .int .u8 0, .int .u8 0, .int .u8 0, .int .u8 0, .int .u8 0, .int .u8 0, .int .u8 0, .int .u8 0, .int .u8 0, .int .u8 0, .int .u8 0, .int .u8 0, .int .u8 0, .int .u8 0, .int .u8 0, .int .u8 0, .int .u8 0, .int .u8 0, .int .u8 0, .int .u8 0, .int .u8 0, .int .u8 0, .int .u8 0, .int .u8 0, .int .u8 0, .int .u8 0, .int .u8 0, .int .u8 0, .int .u8 0, .int .u8 0, .int .u8 0, .int .u8 0, .int .u8 0, .int .u8 0, .int .u8 0, .int .u8 0, .int .u8 0, .int .u8 0, .int .u8 0, .int .u8 0, .int .u8 0, .int .u8 0, .int .u8 0, .int .u8 0, .int .u8 0, .int .u8 0, .int .u8 0, .int .u8 0, .int .u8 0, .int .u8 0, .int .u8 0, .int .u8 0, .int .u8 0]⟩
  | 192 => some ⟨.int .i64, 1, 8, [.int .i64 0]⟩
  | 195 => some ⟨.ptr 203, 1, 8, [.nilp]⟩
  | 202 => some ⟨.struct [(0, 9), (1, 9), (2, 132)], 3, 48, [.str ByteArray.empty, .str ByteArray.empty, .raw .nilIface]⟩
  | 203 => some ⟨.struct [(0, 9), (1, 9), (2, 132)], 3, 48, [.str ByteArray.empty, .str ByteArray.empty, .raw .nilIface]⟩
  | 207 => some ⟨.ptr 209, 1, 8, [.nilp]⟩
  | 208 => some ⟨.struct [(0, 9)], 1, 16, [.str ByteArray.empty]⟩
  | 209 => some ⟨.struct [(0, 9)], 1, 16, [.str ByteArray.empty]⟩
  | 210 => some ⟨.struct [(0, 17), (1, 17), (2, 17), (3, 9)], 4, 40, [.nilp, .nilp, .nilp, .str ByteArray.empty]⟩
  | 211 => some ⟨.struct [(0, 17), (1, 17), (2, 17), (3, 9)], 4, 40, [.nilp, .nilp, .nilp, .str ByteArray.empty]⟩
  | 212 => some ⟨.arr 0 16, 0, 0, []⟩
  | 215 => some ⟨.int .u8, 1, 1, [.int .u8 0]⟩
  | 216 => some ⟨.int .u8, 1, 1, [.int .u8 0]⟩
  | 218 => some ⟨.int .i32, 1, 4, [.int .i32 0]⟩
  | 219 => some ⟨.int .i32, 1, 4, [.int .i32 0]⟩
  | 220 => some ⟨.struct [(0, 12), (1, 12), (2, 159), (3, 215), (4, 5), (5, 5), (6, 216), (7, 217), (8, 164), (9, 218), (10, 219)], 11, 48, [.int .u64 0, .int .u64 0, .int .u32 0, .int .u8 0, .int .u8 0, .int .u8 0, .int .u8 0, .raw .nilFunc, .nilp, .int .i32 0, .int .i32 0]⟩
  | 221 => some ⟨.struct [(0, 12), (1, 12), (2, 159), (3, 215), (4, 5), (5, 5), (6, 216), (7, 217), (8, 164), (9, 218), (10, 219)], 11, 48, [.int .u64 0, .int .u64 0, .int .u32 0, .int .u8 0, .int .u8 0, .int .u8 0, .int .u8 0, .raw .nilFunc, .nilp, .int .i32 0, .int .i32 0]⟩
  | _ => none
theorem tok2 : TEok Tryz.prog 2 ⟨.int .i64, 1, 8, [.int .i64 0]⟩ := ⟨by kernel_rfl, ⟨rfl, by decide⟩, (fun _ => rfl), (show Tryz.prog.underlying 2 = some (.int .i64) by kernel_rfl), (fun h => by cases h)⟩
theorem tok3 : TEok Tryz.prog 3 ⟨.int .i64, 1, 8, [.int .i64 0]⟩ := ⟨by kernel_rfl, ⟨rfl, by decide⟩, (fun _ => rfl), (show Tryz.prog.underlying 3 = some (.int .i64) by kernel_rfl), (fun h => by cases h)⟩
theorem tok4 : TEok Tryz.prog 4 ⟨.bool, 1, 1, [.bool false]⟩ := ⟨by kernel_rfl, ⟨rfl, by decide⟩, (fun _ => rfl), (show Tryz.prog.underlying 4 = some (.bool) by kernel_rfl), (fun h => by cases h)⟩
theorem tok5 : TEok Tryz.prog 5 ⟨.int .u8, 1, 1, [.int .u8 0]⟩ := ⟨by kernel_rfl, ⟨rfl, by decide⟩, (fun _ => rfl), (show Tryz.prog.underlying 5 = some (.int .u8) by kernel_rfl), (fun h => by cases h)⟩
theorem tok6 : TEok Tryz.prog 6 ⟨.int .u8, 1, 1, [.int .u8 0]⟩ := ⟨by kernel_rfl, ⟨rfl, by decide⟩, (fun _ => rfl), (show Tryz.prog.underlying 6 = some (.int .u8) by kernel_rfl), (fun h => by cases h)⟩
theorem tok7 : TEok Tryz.prog 7 ⟨.struct [(0, 2), (1, 3), (2, 4), (3, 6)], 4, 24, [.int .i64 0, .int .i64 0, .bool false, .int .u8 0]⟩ := ⟨by kernel_rfl, ⟨rfl, by decide⟩, (fun h => by cases h), und_struct (by kernel_rfl), (fun _ => by kernel_rfl)⟩
theorem tok8 : TEok Tryz.prog 8 ⟨.struct [(0, 2), (1, 3), (2, 4), (3, 6)], 4, 24, [.int .i64 0, .int .i64 0, .bool false, .int .u8 0]⟩ := ⟨by kernel_rfl, ⟨rfl, by decide⟩, (fun h => by cases h), und_struct (by kernel_rfl), (fun _ => by kernel_rfl)⟩
theorem tok9 : TEok Tryz.prog 9 ⟨.str, 1, 16, [.str ByteArray.empty]⟩ := ⟨by kernel_rfl, ⟨rfl, by decide⟩, (fun _ => rfl), (show Tryz.prog.underlying 9 = some (.string) by kernel_rfl), (fun h => by cases h)⟩
theorem tok10 : TEok Tryz.prog 10 ⟨.str, 1, 16, [.str ByteArray.empty]⟩ := ⟨by kernel_rfl, ⟨rfl, by decide⟩, (fun _ => rfl), (show Tryz.prog.underlying 10 = some (.string) by kernel_rfl), (fun h => by cases h)⟩
theorem tok11 : TEok Tryz.prog 11 ⟨.str, 1, 16, [.str ByteArray.empty]⟩ := ⟨by kernel_rfl, ⟨rfl, by decide⟩, (fun _ => rfl), (show Tryz.prog.underlying 11 = some (.string) by kernel_rfl), (fun h => by cases h)⟩
theorem tok12 : TEok Tryz.prog 12 ⟨.int .u64, 1, 8, [.int .u64 0]⟩ := ⟨by kernel_rfl, ⟨rfl, by decide⟩, (fun _ => rfl), (show Tryz.prog.underlying 12 = some (.int .u64) by kernel_rfl), (fun h => by cases h)⟩
theorem tok15 : TEok Tryz.prog 15 ⟨.ptr 211, 1, 8, [.nilp]⟩ := ⟨by kernel_rfl, ⟨rfl, by decide⟩, (fun _ => rfl), (show Tryz.prog.underlying 15 = some (.pointer 211) by kernel_rfl), (fun h => by cases h)⟩
theorem tok16 : TEok Tryz.prog 16 ⟨.ptr 214, 1, 8, [.nilp]⟩ := ⟨by kernel_rfl, ⟨rfl, by decide⟩, (fun _ => rfl), (show Tryz.prog.underlying 16 = some (.pointer 214) by kernel_rfl), (fun h => by cases h)⟩
theorem tok17 : TEok Tryz.prog 17 ⟨.ptr 221, 1, 8, [.nilp]⟩ := ⟨by kernel_rfl, ⟨rfl, by decide⟩, (fun _ => rfl), (show Tryz.prog.underlying 17 = some (.pointer 221) by kernel_rfl), (fun h => by cases h)⟩
theorem tok18 : TEok Tryz.prog 18 ⟨.struct [(0, 17)], 1, 8, [.nilp]⟩ := ⟨by kernel_rfl, ⟨rfl, by decide⟩, (fun h => by cases h), und_struct (by kernel_rfl), (fun h => by cases h)⟩
theorem tok19 : TEok Tryz.prog 19 ⟨.struct [(0, 17)], 1, 8, [.nilp]⟩ := ⟨by kernel_rfl, ⟨rfl, by decide⟩, (fun h => by cases h), und_struct (by kernel_rfl), (fun h => by cases h)⟩
theorem tok21 : TEok Tryz.prog 21 ⟨.int .i32, 1, 4, [.int .i32 0]⟩ := ⟨by kernel_rfl, ⟨rfl, by decide⟩, (fun _ => rfl), (show Tryz.prog.underlying 21 = some (.int .i32) by kernel_rfl), (fun h => by cases h)⟩
theorem tok22 : TEok Tryz.prog 22 ⟨.slice 76, 1, 24, [.nils]⟩ := ⟨by kernel_rfl, ⟨rfl, by decide⟩, (fun _ => rfl), (show Tryz.prog.underlying 22 = some (.slice 76) by kernel_rfl), (fun h => by cases h)⟩
theorem tok23 : TEok Tryz.prog 23 ⟨.slice 79, 1, 24, [.nils]⟩ := ⟨by kernel_rfl, ⟨rfl, by decide⟩, (fun _ => rfl), (show Tryz.prog.underlying 23 = some (.slice 79) by kernel_rfl), (fun h => by cases h)⟩
theorem tok24 : TEok Tryz.prog 24 ⟨.slice 9, 1, 24, [.nils]⟩ := ⟨by kernel_rfl, ⟨rfl, by decide⟩, (fun _ => rfl), (show Tryz.prog.underlying 24 = some (.slice 9) by kernel_rfl), (fun h => by cases h)⟩
theorem tok25 : TEok Tryz.prog 25 ⟨.struct [(0, 22), (1, 23), (2, 23), (3, 24), (4, 3), (5, 3)], 6, 112, [.nils, .nils, .nils, .nils, .int .i64 0, .int .i64 0]⟩ := ⟨by kernel_rfl, ⟨rfl, by decide⟩, (fun h => by cases h), und_struct (by kernel_rfl), (fun h => by cases h)⟩
theorem tok26 : TEok Tryz.prog 26 ⟨.struct [(0, 22), (1, 23), (2, 23), (3, 24), (4, 3), (5, 3)], 6, 112, [.nils, .nils, .nils, .nils, .int .i64 0, .int .i64 0]⟩ := ⟨by kernel_rfl, ⟨rfl, by decide⟩, (fun h => by cases h), und_struct (by kernel_rfl), (fun h => by cases h)⟩
theorem tok27 : TEok Tryz.prog 27 ⟨.slice 3, 1, 24, [.nils]⟩ := ⟨by kernel_rfl, ⟨rfl, by decide⟩, (fun _ => rfl), (show Tryz.prog.underlying 27 = some (.slice 3) by kernel_rfl), (fun h => by cases h)⟩
theorem tok28 : TEok Tryz.prog 28 ⟨.struct [(0, 3), (1, 3), (2, 3), (3, 3), (4, 3), (5, 27), (6, 3), (7, 4), (8, 3)], 9, 88, [.int .i64 0, .int .i64 0, .int .i64 0, .int .i64 0, .int .i64 0, .nils, .int .i64 0, .bool false, .int .i64 0]⟩ := ⟨by kernel_rfl, ⟨rfl, by decide⟩, (fun h => by cases h), und_struct (by kernel_rfl), (fun h => by cases h)⟩
theorem tok29 : TEok Tryz.prog 29 ⟨.struct [(0, 3), (1, 3), (2, 3), (3, 3), (4, 3), (5, 27), (6, 3), (7, 4), (8, 3)], 9, 88, [.int .i64 0, .int .i64 0, .int .i64 0, .int .i64 0, .int .i64 0, .nils, .int .i64 0, .bool false, .int .i64 0]⟩ := ⟨by kernel_rfl, ⟨rfl, by decide⟩, (fun h => by cases h), und_struct (by kernel_rfl), (fun h => by cases h)⟩
theorem tok32 : TEok Tryz.prog 32 ⟨.slice 93, 1, 24, [.nils]⟩ := ⟨by kernel_rfl, ⟨rfl, by decide⟩, (fun _ => rfl), (show Tryz.prog.underlying 32 = some (.slice 93) by kernel_rfl), (fun h => by cases h)⟩
theorem tok33 : TEok Tryz.prog 33 ⟨.slice 101, 1, 24, [.nils]⟩ := ⟨by kernel_rfl, ⟨rfl, by decide⟩, (fun _ => rfl), (show Tryz.prog.underlying 33 = some (.slice 101) by kernel_rfl), (fun h => by cases h)⟩
theorem tok34 : TEok Tryz.prog 34 ⟨.struct [(0, 32), (1, 33), (2, 33), (3, 24), (4, 3), (5, 3)], 6, 112, [.nils, .nils, .nils, .nils, .int .i64 0, .int .i64 0]⟩ := ⟨by kernel_rfl, ⟨rfl, by decide⟩, (fun h => by cases h), und_struct (by kernel_rfl), (fun h => by cases h)⟩
theorem tok35 : TEok Tryz.prog 35 ⟨.struct [(0, 32), (1, 33), (2, 33), (3, 24), (4, 3), (5, 3)], 6, 112, [.nils, .nils, .nils, .nils, .int .i64 0, .int .i64 0]⟩ := ⟨by kernel_rfl, ⟨rfl, by decide⟩, (fun h => by cases h), und_struct (by kernel_rfl), (fun h => by cases h)⟩
theorem tok36 : TEok Tryz.prog 36 ⟨.struct [(0, 3), (1, 3), (2, 3), (3, 3), (4, 3), (5, 27), (6, 3), (7, 4), (8, 3)], 9, 88, [.int .i64 0, .int .i64 0, .int .i64 0, .int .i64 0, .int .i64 0, .nils, .int .i64 0, .bool false, .int .i64 0]⟩ := ⟨by kernel_rfl, ⟨rfl, by decide⟩, (fun h => by cases h), und_struct (by kernel_rfl), (fun h => by cases h)⟩
theorem tok59 : TEok Tryz.prog 59 ⟨.struct [(0, 3), (1, 3), (2, 3), (3, 3)], 4, 32, [.int .i64 0, .int .i64 0, .int .i64 0, .int .i64 0]⟩ := ⟨by kernel_rfl, ⟨rfl, by decide⟩, (fun h => by cases h), und_struct (by kernel_rfl), (fun _ => by kernel_rfl)⟩
theorem tok60 : TEok Tryz.prog 60 ⟨.struct [(0, 3), (1, 3), (2, 3), (3, 3)], 4, 32, [.int .i64 0, .int .i64 0, .int .i64 0, .int .i64 0]⟩ := ⟨by kernel_rfl, ⟨rfl, by decide⟩, (fun h => by cases h), und_struct (by kernel_rfl), (fun _ => by kernel_rfl)⟩
theorem tok75 : TEok Tryz.prog 75 ⟨.struct [(0, 3), (1, 9), (2, 3)], 3, 32, [.int .i64 0, .str ByteArray.empty, .int .i64 0]⟩ := ⟨by kernel_rfl, ⟨rfl, by decide⟩, (fun h => by cases h), und_struct (by kernel_rfl), (fun _ => by kernel_rfl)⟩
theorem tok76 : TEok Tryz.prog 76 ⟨.struct [(0, 3), (1, 9), (2, 3)], 3, 32, [.int .i64 0, .str ByteArray.empty, .int .i64 0]⟩ := ⟨by kernel_rfl, ⟨rfl, by decide⟩, (fun h => by cases h), und_struct (by kernel_rfl), (fun _ => by kernel_rfl)⟩
theorem tok78 : TEok Tryz.prog 78 ⟨.struct [(0, 9), (1, 3)], 2, 24, [.str ByteArray.empty, .int .i64 0]⟩ := ⟨by kernel_rfl, ⟨rfl, by decide⟩, (fun h => by cases h), und_struct (by kernel_rfl), (fun _ => by kernel_rfl)⟩
theorem tok79 : TEok Tryz.prog 79 ⟨.struct [(0, 9), (1, 3)], 2, 24, [.str ByteArray.empty, .int .i64 0]⟩ := ⟨by kernel_rfl, ⟨rfl, by decide⟩, (fun h => by cases h), und_struct (by kernel_rfl), (fun _ => by kernel_rfl)⟩
theorem tok81 : TEok Tryz.prog 81 ⟨.slice 5, 1, 24, [.nils]⟩ := ⟨by kernel_rfl, ⟨rfl, by decide⟩, (fun _ => rfl), (show Tryz.prog.underlying 81 = some (.slice 5) by kernel_rfl), (fun h => by cases h)⟩
theorem tok82 : TEok Tryz.prog 82 ⟨.int .u64, 1, 8, [.int .u64 0]⟩ := ⟨by kernel_rfl, ⟨rfl, by decide⟩, (fun _ => rfl), (show Tryz.prog.underlying 82 = some (.int .u64) by kernel_rfl), (fun h => by cases h)⟩
theorem tok83 : TEok Tryz.prog 83 ⟨.struct [(0, 4), (1, 60), (5, 24), (6, 27), (7, 3), (8, 4)], 9, 104, [.bool false, .int .i64 0, .int .i64 0, .int .i64 0, .int .i64 0, .nils, .nils, .int .i64 0, .bool false]⟩ := ⟨by kernel_rfl, ⟨rfl, by decide⟩, (fun h => by cases h), und_struct (by kernel_rfl), (fun h => by cases h)⟩
theorem tok84 : TEok Tryz.prog 84 ⟨.struct [(0, 4), (1, 60), (5, 24), (6, 27), (7, 3), (8, 4)], 9, 104, [.bool false, .int .i64 0, .int .i64 0, .int .i64 0, .int .i64 0, .nils, .nils, .int .i64 0, .bool false]⟩ := ⟨by kernel_rfl, ⟨rfl, by decide⟩, (fun h => by cases h), und_struct (by kernel_rfl), (fun h => by cases h)⟩
theorem tok93 : TEok Tryz.prog 93 ⟨.struct [(0, 3), (1, 9), (2, 3)], 3, 32, [.int .i64 0, .str ByteArray.empty, .int .i64 0]⟩ := ⟨by kernel_rfl, ⟨rfl, by decide⟩, (fun h => by cases h), und_struct (by kernel_rfl), (fun _ => by kernel_rfl)⟩
theorem tok97 : TEok Tryz.prog 97 ⟨.slice 122, 1, 24, [.nils]⟩ := ⟨by kernel_rfl, ⟨rfl, by decide⟩, (fun _ => rfl), (show Tryz.prog.underlying 97 = some (.slice 122) by kernel_rfl), (fun h => by cases h)⟩
theorem tok101 : TEok Tryz.prog 101 ⟨.struct [(0, 9), (1, 3)], 2, 24, [.str ByteArray.empty, .int .i64 0]⟩ := ⟨by kernel_rfl, ⟨rfl, by decide⟩, (fun h => by cases h), und_struct (by kernel_rfl), (fun _ => by kernel_rfl)⟩
theorem tok121 : TEok Tryz.prog 121 ⟨.struct [(0, 3), (1, 3)], 2, 16, [.int .i64 0, .int .i64 0]⟩ := ⟨by kernel_rfl, ⟨rfl, by decide⟩, (fun h => by cases h), und_struct (by kernel_rfl), (fun _ => by kernel_rfl)⟩
theorem tok122 : TEok Tryz.prog 122 ⟨.struct [(0, 3), (1, 3)], 2, 16, [.int .i64 0, .int .i64 0]⟩ := ⟨by kernel_rfl, ⟨rfl, by decide⟩, (fun h => by cases h), und_struct (by kernel_rfl), (fun _ => by kernel_rfl)⟩
theorem tok127 : TEok Tryz.prog 127 ⟨.ptr 129, 1, 8, [.nilp]⟩ := ⟨by kernel_rfl, ⟨rfl, by decide⟩, (fun _ => rfl), (show Tryz.prog.underlying 127 = some (.pointer 129) by kernel_rfl), (fun h => by cases h)⟩
theorem tok128 : TEok Tryz.prog 128 ⟨.struct [(0, 127), (1, 81)], 2, 32, [.nilp, .nils]⟩ := ⟨by kernel_rfl, ⟨rfl, by decide⟩, (fun h => by cases h), und_struct (by kernel_rfl), (fun h => by cases h)⟩
theorem tok129 : TEok Tryz.prog 129 ⟨.struct [(0, 127), (1, 81)], 2, 32, [.nilp, .nils]⟩ := ⟨by kernel_rfl, ⟨rfl, by decide⟩, (fun h => by cases h), und_struct (by kernel_rfl), (fun h => by cases h)⟩
theorem tok132 : TEok Tryz.prog 132 ⟨.iface, 1, 16, [.raw .nilIface]⟩ := ⟨by kernel_rfl, ⟨rfl, by decide⟩, (fun _ => rfl), ⟨_, Tryz.underlying132⟩, (fun h => by cases h)⟩
theorem tok153 : TEok Tryz.prog 153 ⟨.arr 24 5, 24, 24, [.int .u8 0, .int .u8 0, .int .u8 0, .int .u8 0, .int .u8 0, .int .u8 0, .int .u8 0, .int .u8 0, .int .u8 0, .int .u8 0, .int .u8 0, .int .u8 0, .int .u8 0, .int .u8 0, .int .u8 0, .int .u8 0, .int .u8 0, .int .u8 0, .int .u8 0, .int .u8 0, .int .u8 0, .int .u8 0, .int .u8 0, .int .u8 0]⟩ := ⟨by kernel_rfl, ⟨rfl, by decide⟩, (fun h => by cases h), (show Tryz.prog.underlying 153 = some (.array 24 5) by kernel_rfl), (fun h => by cases h)⟩
theorem tok154 : TEok Tryz.prog 154 ⟨.int .u64, 1, 8, [.int .u64 0]⟩ := ⟨by kernel_rfl, ⟨rfl, by decide⟩, (fun _ => rfl), (show Tryz.prog.underlying 154 = some (.int .u64) by kernel_rfl), (fun h => by cases h)⟩
theorem tok159 : TEok Tryz.prog 159 ⟨.int .u32, 1, 4, [.int .u32 0]⟩ := ⟨by kernel_rfl, ⟨rfl, by decide⟩, (fun _ => rfl), (show Tryz.prog.underlying 159 = some (.int .u32) by kernel_rfl), (fun h => by cases h)⟩
theorem tok164 : TEok Tryz.prog 164 ⟨.ptr 5, 1, 8, [.nilp]⟩ := ⟨by kernel_rfl, ⟨rfl, by decide⟩, (fun _ => rfl), (show Tryz.prog.underlying 164 = some (.pointer 5) by kernel_rfl), (fun h => by cases h)⟩
theorem tok176 : TEok Tryz.prog 176 ⟨.arr 20 154, 20, 160, [.int .u64 0, .int .u64 0, .int .u64 0, .int .u64 0, .int .u64 0, .int .u64 0, .int .u64 0, .int .u64 0, .int .u64 0, .int .u64 0, .int .u64 0, .int .u64 0, .int .u64 0, .int .u64 0, .int .u64 0, .int .u64 0, .int .u64 0, .int .u64 0, .int .u64 0, .int .u64 0]⟩ := ⟨by kernel_rfl, ⟨rfl, by decide⟩, (fun h => by cases h), (show Tryz.prog.underlying 176 = some (.array 20 154) by kernel_rfl), (fun h => by cases h)⟩
theorem tok177 : TEok Tryz.prog 177 ⟨.arr 65 5, 65, 65, [.int .u8 0, .int .u8 0, .int .u8 0, .int .u8 0, .int .u8 0, .int .u8 0, .int .u8 0, .int .u8 0, .int .u8 0, .int .u8 0, .int .u8 0, .int .u8 0, .int .u8 0, .int .u8 0, .int .u8 0, .int .u8 0, .int .u8 0, .int .u8 0, .int .u8 0, .int .u8 0, .int .u8 0, .int .u8 0, .int .u8 0, .int .u8 0, .int .u8 0, .int .u8 0, .int .u8 0, .int .u8 0, .int .u8 0, .int .u8 0, .int .u8 0, .int .u8 0, .int .u8 0, .int .u8 0, .int .u8 0, .int .u8 0, .int .u8 0, .int .u8 0, .int .u8 0, .int .u8 0, .int .u8 0, .int .u8 0, .int .u8 0, .int .u8 0, .int .u8 0, .int .u8 0, .int .u8 0, .int .u8 0, .int .u8 0, .int .u8 0, .int .u8 0, .int .u8 0, .int .u8 0, .int .u8 0, .int .u8 0, .int .u8 0, .int .u8 0, .int .u8 0, .int .u8 0, .int .u8 0, .int .u8 0, .int .u8 0, .int .u8 0, .int .u8 0, .int .u8 0]⟩ := ⟨by kernel_rfl, ⟨rfl, by decide⟩, (fun h => by cases h), (show Tryz.prog.underlying 177 = some (.array 65 5) by kernel_rfl), (fun h => by cases h)⟩
theorem tok189 : TEok Tryz.prog 189 ⟨.arr 32 5, 32, 32, [.int .u8 0, .int .u8 0, .int .u8 0, .int .u8 0, .int .u8 0, .int .u8 0, .int .u8 0, .int .u8 0, .int .u8 0, .int .u8 0, .int .u8 0, .int .u8 0, .int .u8 0, .int .u8 0, .int .u8 0, .int .u8 0, .int .u8 0, .int .u8 0, .int .u8 0, .int .u8 0, .int .u8 0, .int .u8 0, .int .u8 0, .int .u8 0, .int .u8 0, .int .u8 0, .int .u8 0, .int .u8 0, .int .u8 0, .int .u8 0, .int .u8 0, .int .u8 0]⟩ := ⟨by kernel_rfl, ⟨rfl, by decide⟩, (fun h => by cases h), (show Tryz.prog.underlying 189 = some (.array 32 5) by kernel_rfl), (fun h => by cases h)⟩
theorem tok190 : TEok Tryz.prog 190 ⟨.arr 64 5, 64, 64, [.int .u8 0, .int .u8 0, .int .u8 0, .int .u8 0, .int .u8 0, .int .u8 0, .int .u8 0, .int .u8 0, .int .u8 0, .int .u8 0, .int .u8 0, .int .u8 0, .int .u8 0, .int .u8 0, .int .u8 0, .int .u8 0, .int .u8 0, .int .u8 0, .int .u8 0, .int .u8 0, .int .u8 0, .int .u8 0, .int .u8 0, .int .u8 0, .int .u8 0, .int .u8 0, .int .u8 0, .int .u8 0, .int .u8 0, .int .u8 0, .int .u8 0, .int .u8 0, .int .u8 0, .int .u8 0, .int .u8 0, .int .u8 0, .int .u8 0, .int .u8 0, .int .u8 0, .int .u8 0, .int .u8 0, .int .u8 0, .int .u8 0, .int .u8 0, .int .u8 0, .int .u8 0, .int .u8 0, .int .u8 0, .int .u8 0, .int .u8 0, .int .u8 0, .int .u8 0, .int .u8 0, .int .u8 0, .int .u8 0, .int .u8 0, .int .u8 0, .int .u8 0, .int .u8 0, .int .u8 0, .int .u8 0, .int .u8 0, .int .u8 0, .int .u8 0]⟩ := ⟨by kernel_rfl, ⟨rfl, by decide⟩, (fun h => by cases h), (show Tryz.prog.underlying 190 = some (.array 64 5) by kernel_rfl), (fun h => by cases h)⟩
theorem tok192 : TEok Tryz.prog 192 ⟨.int .i64, 1, 8, [.int .i64 0]⟩ := ⟨by kernel_rfl, ⟨rfl, by decide⟩, (fun _ => rfl), (show Tryz.prog.underlying 192 = some (.int .i64) by kernel_rfl), (fun h => by cases h)⟩
theorem tok195 : TEok Tryz.prog 195 ⟨.ptr 203, 1, 8, [.nilp]⟩ := ⟨by kernel_rfl, ⟨rfl, by decide⟩, (fun _ => rfl), (show Tryz.prog.underlying 195 = some (.pointer 203) by kernel_rfl), (fun h => by cases h)⟩
theorem tok202 : TEok Tryz.prog 202 ⟨.struct [(0, 9), (1, 9), (2, 132)], 3, 48, [.str ByteArray.empty, .str ByteArray.empty, .raw .nilIface]⟩ := ⟨by kernel_rfl, ⟨rfl, by decide⟩, (fun h => by cases h), und_struct (by kernel_rfl), (fun h => by cases h)⟩
theorem tok203 : TEok Tryz.prog 203 ⟨.struct [(0, 9), (1, 9), (2, 132)], 3, 48, [.str ByteArray.empty, .str ByteArray.empty, .raw .nilIface]⟩ := ⟨by kernel_rfl, ⟨rfl, by decide⟩, (fun h => by cases h), und_struct (by kernel_rfl), (fun h => by cases h)⟩
theorem tok207 : TEok Tryz.prog 207 ⟨.ptr 209, 1, 8, [.nilp]⟩ := ⟨by kernel_rfl, ⟨rfl, by decide⟩, (fun _ => rfl), (show Tryz.prog.underlying 207 = some (.pointer 209) by kernel_rfl), (fun h => by cases h)⟩
theorem tok208 : TEok Tryz.prog 208 ⟨.struct [(0, 9)], 1, 16, [.str ByteArray.empty]⟩ := ⟨by kernel_rfl, ⟨rfl, by decide⟩, (fun h => by cases h), und_struct (by kernel_rfl), (fun _ => by kernel_rfl)⟩
theorem tok209 : TEok Tryz.prog 209 ⟨.struct [(0, 9)], 1, 16, [.str ByteArray.empty]⟩ := ⟨by kernel_rfl, ⟨rfl, by decide⟩, (fun h => by cases h), und_struct (by kernel_rfl), (fun _ => by kernel_rfl)⟩
theorem tok210 : TEok Tryz.prog 210 ⟨.struct [(0, 17), (1, 17), (2, 17), (3, 9)], 4, 40, [.nilp, .nilp, .nilp, .str ByteArray.empty]⟩ := ⟨by kernel_rfl, ⟨rfl, by decide⟩, (fun h => by cases h), und_struct (by kernel_rfl), (fun h => by cases h)⟩
theorem tok211 : TEok Tryz.prog 211 ⟨.struct [(0, 17), (1, 17), (2, 17), (3, 9)], 4, 40, [.nilp, .nilp, .nilp, .str ByteArray.empty]⟩ := ⟨by kernel_rfl, ⟨rfl, by decide⟩, (fun h => by cases h), und_struct (by kernel_rfl), (fun h => by cases h)⟩
theorem tok212 : TEok Tryz.prog 212 ⟨.arr 0 16, 0, 0, []⟩ := ⟨by kernel_rfl, ⟨rfl, by decide⟩, (fun h => by cases h), (show Tryz.prog.underlying 212 = some (.array 0 16) by kernel_rfl), (fun h => by cases h)⟩
theorem tok215 : TEok Tryz.prog 215 ⟨.int .u8, 1, 1, [.int .u8 0]⟩ := ⟨by kernel_rfl, ⟨rfl, by decide⟩, (fun _ => rfl), (show Tryz.prog.underlying 215 = some (.int .u8) by kernel_rfl), (fun h => by cases h)⟩
theorem tok216 : TEok Tryz.prog 216 ⟨.int .u8, 1, 1, [.int .u8 0]⟩ := ⟨by kernel_rfl, ⟨rfl, by decide⟩, (fun _ => rfl), (show Tryz.prog.underlying 216 = some (.int .u8) by kernel_rfl), (fun h => by cases h)⟩
theorem tok218 : TEok Tryz.prog 218 ⟨.int .i32, 1, 4, [.int .i32 0]⟩ := ⟨by kernel_rfl, ⟨rfl, by decide⟩, (fun _ => rfl), (show Tryz.prog.underlying 218 = some (.int .i32) by kernel_rfl), (fun h => by cases h)⟩
theorem tok219 : TEok Tryz.prog 219 ⟨.int .i32, 1, 4, [.int .i32 0]⟩ := ⟨by kernel_rfl, ⟨rfl, by decide⟩, (fun _ => rfl), (show Tryz.prog.underlying 219 = some (.int .i32) by kernel_rfl), (fun h => by cases h)⟩
theorem tok220 : TEok Tryz.prog 220 ⟨.struct [(0, 12), (1, 12), (2, 159), (3, 215), (4, 5), (5, 5), (6, 216), (7, 217), (8, 164), (9, 218), (10, 219)], 11, 48, [.int .u64 0, .int .u64 0, .int .u32 0, .int .u8 0, .int .u8 0, .int .u8 0, .int .u8 0, .raw .nilFunc, .nilp, .int .i32 0, .int .i32 0]⟩ := ⟨by kernel_rfl, ⟨rfl, by decide⟩, (fun h => by cases h), und_struct (by kernel_rfl), (fun h => by cases h)⟩
theorem tok221 : TEok Tryz.prog 221 ⟨.struct [(0, 12), (1, 12), (2, 159), (3, 215), (4, 5), (5, 5), (6, 216), (7, 217), (8, 164), (9, 218), (10, 219)], 11, 48, [.int .u64 0, .int .u64 0, .int .u32 0, .int .u8 0, .int .u8 0, .int .u8 0, .int .u8 0, .raw .nilFunc, .nilp, .int .i32 0, .int .i32 0]⟩ := ⟨by kernel_rfl, ⟨rfl, by decide⟩, (fun h => by cases h), und_struct (by kernel_rfl), (fun h => by cases h)⟩
theorem tok : Tok Tryz.prog T := fun t e h => by
  unfold T at h
  split at h <;> first
    | contradiction
    | (cases h; first | exact tok2 | exact tok3 | exact tok4 | exact tok5 | exact tok6 | exact tok7 | exact tok8 | exact tok9 | exact tok10 | exact tok11 | exact tok12 | exact tok15 | exact tok16 | exact tok17 | exact tok18 | exact tok19 | exact tok21 | exact tok22 | exact tok23 | exact tok24 | exact tok25 | exact tok26 | exact tok27 | exact tok28 | exact tok29 | exact tok32 | exact tok33 | exact tok34 | exact tok35 | exact tok36 | exact tok59 | exact tok60 | exact tok75 | exact tok76 | exact tok78 | exact tok79 | exact tok81 | exact tok82 | exact tok83 | exact tok84 | exact tok93 | exact tok97 | exact tok101 | exact tok121 | exact tok122 | exact tok127 | exact tok128 | exact tok129 | exact tok132 | exact tok153 | exact tok154 | exact tok159 | exact tok164 | exact tok176 | exact tok177 | exact tok189 | exact tok190 | exact tok192 | exact tok195 | exact tok202 | exact tok203 | exact tok207 | exact tok208 | exact tok209 | exact tok210 | exact tok211 | exact tok212 | exact tok215 | exact tok216 | exact tok218 | exact tok219 | exact tok220 | exact tok221)
theorem mixed : Tryz.prog.follows .mixedOrders = true := by kernel_rfl
theorem GV : gev 0 = .fel glob0 ∧ gev 1 = .raw (.pointer (some ⟨1, 0, none⟩)) ∧ gev 2 = .raw (.pointer (some ⟨2, 0, none⟩)) ∧ gev 3 = .fel glob3 ∧ gev 4 = .fel glob4 ∧ gev 5 = .fel glob5 := ⟨rfl, rfl, rfl, rfl, rfl, rfl⟩
end Go.Pv

/- What functions of the program and of the reference do, in plain values. -/
namespace Go.Pv
open Go.Proofs Go.Mth
set_option linter.unusedSimpArgs false
set_option linter.unusedVariables false
set_option maxHeartbeats 4000000
set_option maxRecDepth 4000

def bkd (κ R : List Nat) (key : Nat) (hp ha : Hp) (K : PV → Hp → Prop) (res : PV) (hr : Hp) : Prop :=
  Ck (resOk res && hpB hr) ∧ KeysOk hp (ln κ) key hr ∧ Mn ha hr (ln κ) ∧ K (rk (sg κ key) res) (rkH (sg κ key) hr ++ gone hr κ 0 ++ R.map fun k => (k, HC.dead))
end Go.Pv

/- Plain mathematics for this seat's laws: rounds, sums of 32 bits, numbers in bytes. No program in it.
   Conditions: none beyond those that each lemma names. -/
namespace Go.Mth
open Go.RowKit
set_option linter.unusedVariables false
set_option linter.unusedSimpArgs false

theorem wr64 (n : Int) (h0 : 0 ≤ n) (h1 : n < 2 ^ 32) : IntKind.i64.wrap n = n := by rw [IntKind.wrap_i64]; omega
theorem wr32 (n : Int) (h0 : 0 ≤ n) (h1 : n < 2 ^ 32) : IntKind.u32.wrap n = n := by rw [IntKind.wrap_u32]; omega
theorem xor_nat (k : IntKind) (hj : 32 ≤ k.bits) (hk : ∀ n : Int, 0 ≤ n → n < 2 ^ 32 → k.wrap n = n) (a b : Nat) (ha : a < 4294967296) (hb : b < 4294967296) :
    Go.bits .xor k a b = ((a ^^^ b : Nat) : Int) := by
  have hp : 2 ^ 32 ≤ 2 ^ k.bits := Nat.pow_le_pow_right (by decide) hj
  have ha' : a % 2 ^ k.bits = a := Nat.mod_eq_of_lt (by omega)
  have hb' : b % 2 ^ k.bits = b := Nat.mod_eq_of_lt (by omega)
  simp only [Go.bits, BitVec.ofInt_natCast, BitVec.toNat_xor, BitVec.toNat_ofNat, ha', hb']
  have h1 : a ^^^ b < 2 ^ 32 := Nat.xor_lt_two_pow (by omega) (by omega)
  exact hk _ (Int.natCast_nonneg _) (by exact_mod_cast h1)
theorem xor64 (a b : Nat) (ha : a < 4294967296) (hb : b < 4294967296) : Go.bits .xor .i64 a b = ((a ^^^ b : Nat) : Int) := xor_nat .i64 (by decide) wr64 a b ha hb
theorem xor32 (a b : Nat) (ha : a < 4294967296) (hb : b < 4294967296) : Go.bits .xor .u32 a b = ((a ^^^ b : Nat) : Int) := xor_nat .u32 (by decide) wr32 a b ha hb
theorem and_mask64 (s : Int) (i : Nat) (hi : i ≤ 32) : Go.bits .and .i64 s (2 ^ i - 1) = s % 2 ^ i := by
  have hpos : 0 < 2 ^ i := Nat.two_pow_pos i
  have hc : ((2 : Int) ^ i - 1) = ((2 ^ i - 1 : Nat) : Int) := by rw [Int.natCast_sub hpos]; simp
  have hle : 2 ^ i ≤ 2 ^ 32 := Nat.pow_le_pow_right (by decide) hi
  have hm : (2 ^ i - 1) % 2 ^ 64 = 2 ^ i - 1 := Nat.mod_eq_of_lt (by omega)
  have hd : ((s % ((2 ^ 64 : Nat) : Int)).toNat % 2 ^ i : Nat) = (s % ((2 ^ i : Nat) : Int)) := by
    have h1 : ((s % ((2 ^ 64 : Nat) : Int)).toNat : Int) = s % ((2 ^ 64 : Nat) : Int) := Int.toNat_of_nonneg (Int.emod_nonneg _ (by decide))
    rw [Int.natCast_emod, h1]
    exact Int.emod_emod_of_dvd _ (by exact_mod_cast Nat.pow_dvd_pow 2 (by omega : i ≤ 64))
  have e : ((BitVec.ofInt 64 s &&& BitVec.ofInt 64 (2 ^ i - 1)).toNat : Int) = s % ((2 ^ i : Nat) : Int) := by
    rw [hc, BitVec.ofInt_natCast, BitVec.toNat_and, BitVec.toNat_ofNat, hm, Nat.and_two_pow_sub_one_eq_mod, BitVec.toNat_ofInt]
    exact hd
  have h0 : 0 ≤ s % ((2 ^ i : Nat) : Int) := Int.emod_nonneg _ (by exact_mod_cast (by omega : 2 ^ i ≠ 0))
  have h1 : s % ((2 ^ i : Nat) : Int) < ((2 ^ i : Nat) : Int) := Int.emod_lt_of_pos _ (by exact_mod_cast hpos)
  have h2 : ((2 ^ i : Nat) : Int) ≤ ((2 ^ 32 : Nat) : Int) := by exact_mod_cast hle
  have h3 : IntKind.i64.wrap (s % ((2 ^ i : Nat) : Int)) = s % ((2 ^ i : Nat) : Int) := wr64 _ h0 (by omega)
  have h4 : Go.bits .and .i64 s (2 ^ i - 1) = IntKind.i64.wrap ((BitVec.ofInt 64 s &&& BitVec.ofInt 64 (2 ^ i - 1)).toNat : Int) := rfl
  rw [h4, e, h3]
  simp
theorem and_all (s : Int) : Go.bits .and .i64 s 4294967295 = s % 4294967296 := and_mask64 s 32 (by decide)
theorem and_255 (s : Int) : Go.bits .and .i64 s 255 = s % 256 := and_mask64 s 8 (by decide)
theorem and_127 (s : Int) : Go.bits .and .i64 s 127 = s % 128 := and_mask64 s 7 (by decide)
theorem and_1 (s : Int) : Go.bits .and .i64 s 1 = s % 2 := and_mask64 s 1 (by decide)
theorem and32_1 (n : Nat) (hn : n < 4294967296) : Go.bits .and .u32 n 1 = ((n % 2 : Nat) : Int) := by
  have h := (bits_nat .u32 32 (by decide) wr32 n 1 hn (by decide)).1
  rw [show ((1 : Nat) : Int) = 1 from rfl] at h
  rw [h, Nat.and_one_is_mod]

/-! ### sums of 32 bits -/
def stp (n : Nat) : Nat := if n % 2 = 1 then (n / 2) ^^^ 2197175160 else n / 2
def stps : Nat → Nat → Nat
  | 0, n => n
  | d + 1, n => stps d (stp n)
/-- A sum behind a byte. -/
def sb (s b : Nat) : Nat := stps 8 (s ^^^ b)
def sm (s : Nat) (l : List Nat) : Nat := l.foldl sb s
theorem xlt {a b : Nat} (ha : a < 4294967296) (hb : b < 4294967296) : a ^^^ b < 4294967296 := by
  have := Nat.xor_lt_two_pow (n := 32) (x := a) (y := b) (by omega) (by omega)
  omega
theorem stp_lt {n : Nat} (h : n < 4294967296) : stp n < 4294967296 := by
  unfold stp
  split
  · exact xlt (by omega) (by decide)
  · omega
theorem stps_lt : ∀ (d : Nat) {n : Nat}, n < 4294967296 → stps d n < 4294967296
  | 0, _, h => h
  | d + 1, _, h => stps_lt d (stp_lt h)
theorem sb_lt {s b : Nat} (hs : s < 4294967296) (hb : b < 4294967296) : sb s b < 4294967296 := stps_lt 8 (xlt hs hb)
theorem sm_lt : ∀ (l : List Nat) {s : Nat}, s < 4294967296 → (∀ x ∈ l, x < 256) → sm s l < 4294967296
  | [], _, h, _ => h
  | x :: l, s, h, hl => sm_lt l (s := sb s x) (sb_lt h (by have := hl x (by simp); omega)) (fun y hy => hl y (by simp [hy]))

/-! ### texts as lists of numbers -/
def bl (t : ByteArray) : List Nat := t.data.toList.map UInt8.toNat
theorem bl_length (t : ByteArray) : (bl t).length = t.size := by
  unfold bl
  rw [List.length_map, Array.length_toList]
  rfl
theorem bl_lt (t : ByteArray) : ∀ x ∈ bl t, x < 256 := by
  intro x hx
  obtain ⟨u, _, rfl⟩ := List.mem_map.1 hx
  exact u.toNat_lt
theorem bt_bl (t : ByteArray) (i : Nat) (h : i < t.size) : bt t (i : Int) = ((bl t).getD i 0 : Int) := by
  unfold bt b8 bl
  rw [Int.toNat_natCast, List.getD_eq_getElem?_getD, List.getD_eq_getElem?_getD, List.getElem?_map]
  cases t.data.toList[i]? <;> rfl
theorem bl_drop (t : ByteArray) (i : Nat) (h : i < t.size) : (bl t).drop i = (bl t).getD i 0 :: (bl t).drop (i + 1) := by
  have hl : i < (bl t).length := by rw [bl_length]; exact h
  rw [List.drop_eq_getElem_cons hl, List.getD_eq_getElem?_getD, List.getElem?_eq_getElem hl]
  rfl
theorem bl_getD_lt (t : ByteArray) (i : Nat) : (bl t).getD i 0 < 256 := by
  rcases Nat.lt_or_ge i (bl t).length with h | h
  · rw [List.getD_eq_getElem?_getD, List.getElem?_eq_getElem h]
    exact bl_lt t _ (List.getElem_mem h)
  · rw [List.getD_eq_getElem?_getD, List.getElem?_eq_none h]
    decide
/-- SumMore of any s and a text. -/
def sumMore (s : Int) (t : ByteArray) : Int := ((sm ((s % 4294967296).toNat ^^^ 4294967295) (bl t) ^^^ 4294967295 : Nat) : Int)
def sumOf (t : ByteArray) : Int := sumMore 0 t
theorem sumMore_range (s : Int) (t : ByteArray) : 0 ≤ sumMore s t ∧ sumMore s t < 4294967296 := by
  refine ⟨Int.natCast_nonneg _, ?_⟩
  have h0 : (s % 4294967296).toNat < 4294967296 := by omega
  have := xlt (sm_lt (bl t) (xlt h0 (by decide : 4294967295 < 4294967296)) (bl_lt t)) (by decide : 4294967295 < 4294967296)
  unfold sumMore
  omega

/-! ### numbers in so many bytes -/
def fixL : Nat → Int → List Int
  | 0, _ => []
  | d + 1, n => n % 256 :: fixL d (n / 256)
theorem fixL_length : ∀ (d : Nat) (n : Int), (fixL d n).length = d
  | 0, _ => rfl
  | d + 1, n => by simp [fixL, fixL_length d]
theorem div_div (n : Int) (d : Nat) : n / 256 / 256 ^ d = n / 256 ^ (d + 1) := by
  rw [Int.ediv_ediv_of_nonneg (by decide), Int.pow_succ, Int.mul_comm]
theorem fixL_snoc : ∀ (d : Nat) (n : Int), fixL (d + 1) n = fixL d n ++ [n / 256 ^ d % 256]
  | 0, n => by simp [fixL]
  | d + 1, n => by
    rw [show fixL (d + 1 + 1) n = n % 256 :: fixL (d + 1) (n / 256) from rfl, fixL_snoc d (n / 256), div_div]
    rfl
def fixT (n w : Int) : ByteArray := if n < 0 ∨ w < 1 ∨ 8 < w ∨ n / 256 ^ w.toNat > 0 then ⟨#[]⟩ else strOf (fixL w.toNat n)

theorem strOf_size (l : List Int) : (strOf l).size = l.length := by simp [strOf, ByteArray.size]
theorem mkE_size : (⟨#[]⟩ : ByteArray).size = 0 := rfl
theorem fixT_le (n w : Int) : (fixT n w).size ≤ 8 := by
  unfold fixT
  split
  · exact Nat.zero_le _
  · rename_i h
    rw [strOf_size, fixL_length]
    omega
theorem fixT_size (n w : Int) (h0 : 0 ≤ n) (h1 : 1 ≤ w) (h8 : w ≤ 8) (hn : n < 256 ^ w.toNat) : (fixT n w).size = w.toNat := by
  unfold fixT
  rw [if_neg (by
    have : n / 256 ^ w.toNat = 0 := Int.ediv_eq_zero_of_lt h0 hn
    omega), strOf_size, fixL_length]
theorem fixT4_size (n : Int) (h0 : 0 ≤ n) (hn : n < 4294967296) : (fixT n 4).size = 4 := fixT_size n 4 h0 (by decide) (by decide) hn
/-! ### numbers in as few bytes as can be -/
def varL : Nat → Int → List Int
  | 0, n => [n % 256]
  | d + 1, n => if n > 127 then (n % 128 + 128) :: varL d (n / 128) else [n % 256]
def varT (n : Int) : ByteArray := if n < 0 ∨ 1000000000 < n then ⟨#[]⟩ else strOf (varL 4 n)
theorem varL_gt (d : Nat) (n : Int) (h : n > 127) : varL (d + 1) n = (n % 128 + 128) :: varL d (n / 128) := if_pos h
theorem varL_ngt (d : Nat) (n : Int) (h : ¬ n > 127) : varL (d + 1) n = [n % 256] := if_neg h
theorem varL_le : ∀ (d : Nat) (n : Int), (varL d n).length ≤ d + 1
  | 0, _ => by simp [varL]
  | d + 1, n => by
    unfold varL
    split
    · have := varL_le d (n / 128)
      simp; omega
    · simp
theorem varL_pos : ∀ (d : Nat) (n : Int), 0 < (varL d n).length
  | 0, _ => by simp [varL]
  | d + 1, n => by unfold varL; split <;> simp
theorem varT_le (n : Int) : (varT n).size ≤ 5 := by
  unfold varT
  split
  · exact Nat.zero_le _
  · rw [strOf_size]; exact varL_le 4 n
theorem varT_pos (n : Int) (h0 : 0 ≤ n) (h1 : n ≤ 1000000000) : 0 < (varT n).size := by
  unfold varT
  rw [if_neg (by omega), strOf_size]
  exact varL_pos 4 n
theorem or128 (m : Nat) (h : m < 256) : m ||| 128 = m % 128 + 128 := by
  have : ∀ m : Fin 256, m.val ||| 128 = m.val % 128 + 128 := by decide +kernel
  exact this ⟨m, h⟩
theorem orU8 (x : Int) : Go.bits .or .u8 (x % 256) 128 = x % 128 + 128 := by
  have h0 : x % 256 = (((x % 256).toNat : Nat) : Int) := by omega
  have h := (bits_nat .u8 8 (by decide) wraps_u8 (x % 256).toNat 128 (by omega) (by decide)).2
  rw [show ((128 : Nat) : Int) = 128 from rfl] at h
  rw [h0, h, or128 _ (by omega)]
  omega
theorem or64 (x : Int) : Go.bits .or .i64 (Go.bits .and .i64 x 127) 128 % 256 = x % 128 + 128 := by
  rw [and_127]
  have h0 : x % 128 = (((x % 128).toNat : Nat) : Int) := by omega
  have h := (bits_nat .i64 32 (by decide) wr64 (x % 128).toNat 128 (by omega) (by decide)).2
  rw [show ((128 : Nat) : Int) = 128 from rfl] at h
  rw [h0, h, or128 _ (by omega)]
  omega

def sizedT (p n : Int) : ByteArray := fixT n 4 ++ fixT (sumOf (fixT p 8 ++ fixT n 4)) 4
def verOk (v : Int) : Prop := v = 1 ∨ v = 2
instance (v : Int) : Decidable (verOk v) := by unfold verOk; infer_instance
def numOk (n : Int) : Prop := 0 ≤ n ∧ n ≤ 1000000000
instance (v : Int) : Decidable (numOk v) := by unfold numOk; infer_instance
def endMark (v p : Int) : ByteArray := if verOk v ∧ numOk p then (if v = 1 then ⟨#[255, 255, 255, 255, 15]⟩ else sizedT p 4294967295) else ⟨#[]⟩
def frameT (v p : Int) (r : ByteArray) : ByteArray :=
  if verOk v ∧ numOk p ∧ r.size ≤ 60 then (if v = 1 then varT r.size else sizedT p r.size) ++ r ++ fixT (sumOf r) 4 else ⟨#[]⟩
theorem sizedT_le (p n : Int) : (sizedT p n).size ≤ 16 := by
  unfold sizedT
  have h1 := fixT_le n 4
  have h2 := fixT_le (sumOf (fixT p 8 ++ fixT n 4)) 4
  rw [ByteArray.size_append]; omega
theorem endMark_le (v p : Int) : (endMark v p).size ≤ 16 := by
  unfold endMark
  split
  · split
    · decide
    · exact sizedT_le _ _
  · exact Nat.zero_le _
/-- Whether a text stands at a place. -/
def hasAt (b : ByteArray) (a : Int) (t : ByteArray) : Bool := decide (0 ≤ a ∧ a + t.size ≤ b.size ∧ b.extract a.toNat (a.toNat + t.size) = t)
def markAt (v p : Int) (b : ByteArray) (a : Int) : Bool := decide ((endMark v p).size ≠ 0) && hasAt b a (endMark v p)

/-! ### what stands at the end -/
def trailGo (acc : ByteArray) : List Int → ByteArray
  | [] => acc ++ ⟨#[73, 68, 88, 33]⟩
  | n :: l => if (fixT n 4).size = 0 then ⟨#[]⟩ else trailGo (acc ++ fixT n 4) l
def trailT (a b c d : Int) : ByteArray := trailGo ⟨#[]⟩ [a, b, c, d]

theorem rd_get (xs : List Int) (i : Nat) (h : i < xs.length) : rd xs (i : Int) = xs[i] := by
  unfold rd
  rw [Int.toNat_natCast, List.getD_eq_getElem?_getD, List.getElem?_eq_getElem h]
  rfl

/-! ### links -/
def linkMore (l : Int) (r : ByteArray) : Int := sumMore l (fixT r.size 4 ++ r)
def linkAll (l : Int) (rs : List ByteArray) : Int := rs.foldl linkMore l

/-! ### rows that are marked, copied, compared -/
def seqL : Nat → Int → List Int
  | 0, _ => []
  | d + 1, m => m :: seqL d (m + 1)
theorem seqL_length : ∀ (d : Nat) (m : Int), (seqL d m).length = d
  | 0, _ => rfl
  | d + 1, m => by simp [seqL, seqL_length d]
theorem seqL_snoc : ∀ (d : Nat) (m : Int), seqL (d + 1) m = seqL d m ++ [m + d]
  | 0, m => by simp [seqL]
  | d + 1, m => by
    rw [show seqL (d + 1 + 1) m = m :: seqL (d + 1) (m + 1) from rfl, seqL_snoc d (m + 1)]
    rw [show seqL (d + 1) m = m :: seqL d (m + 1) from rfl]
    simp only [List.cons_append, Int.natCast_add]
    congr 3
    omega
theorem seqL_get : ∀ (d : Nat) (m : Int) (i : Nat), i < d → rd (seqL d m) i = m + i
  | d + 1, m, 0, _ => by simp [rd, seqL]
  | d + 1, m, i + 1, h => by
    have := seqL_get d (m + 1) i (by omega)
    unfold rd at this ⊢
    rw [Int.toNat_natCast] at this ⊢
    rw [show seqL (d + 1) m = m :: seqL d (m + 1) from rfl, List.getD_cons_succ, this]
    omega
theorem take_snoc {α : Type} (d : α) (xs : List α) (i : Nat) (h : i < xs.length) : xs.take (i + 1) = xs.take i ++ [rdOf d xs (i : Int)] := by
  unfold rdOf
  rw [List.take_succ_eq_append_getElem h, Int.toNat_natCast, List.getD_eq_getElem?_getD, List.getElem?_eq_getElem h]
  rfl

/-! ### places of every so many-eth -/
def plc {α : Type} (mk : Int → Int → α) (s : Int) : List Int → Nat → List α
  | [], _ => []
  | x :: l, i => if (i : Int) % s = 0 then mk i x :: plc mk s l (i + 1) else plc mk s l (i + 1)
theorem plc_skip {α : Type} (mk : Int → Int → α) (s : Int) (l : List Int) : ∀ (m j : Nat), (∀ t : Nat, j ≤ t → t < j + m → (t : Int) % s ≠ 0) → plc mk s (l.drop j) j = plc mk s (l.drop (j + m)) (j + m)
  | 0, j, _ => rfl
  | m + 1, j, h => by
    rcases Nat.lt_or_ge j l.length with hj | hj
    · rw [List.drop_eq_getElem_cons hj]
      have h0 := h j (Nat.le_refl _) (by omega)
      rw [show plc mk s (l[j] :: l.drop (j + 1)) j = plc mk s (l.drop (j + 1)) (j + 1) by unfold plc; rw [if_neg h0]; cases l.drop (j + 1) <;> rfl]
      rw [plc_skip mk s l m (j + 1) (fun t h1 h2 => h t (by omega) (by omega)), show j + 1 + m = j + (m + 1) by omega]
    · rw [List.drop_of_length_le hj, List.drop_of_length_le (by omega)]
      rfl
theorem plc_length {α : Type} (mk : Int → Int → α) (s : Int) : ∀ (l : List Int) (i : Nat), (plc mk s l i).length ≤ l.length
  | [], _ => by simp [plc]
  | x :: l, i => by
    have := plc_length mk s l (i + 1)
    unfold plc
    split <;> simp <;> omega
def placesOf {α : Type} (mk : Int → Int → α) (s : Int) (l : List Int) : List α := if s < 1 then [] else plc mk s l 0

end Go.Mth

/- Plain mathematics for this seat's laws, second part: numbers read from bytes, heads, frames, scans. No program in it.
   Conditions: none beyond those that each lemma names. -/
namespace Go.Mth
open Go.RowKit
set_option linter.unusedVariables false
set_option linter.unusedSimpArgs false

/-! ### texts and their numbers -/
theorem bytesOf_length (t : ByteArray) : (bytesOf t).length = t.size := by
  unfold bytesOf
  rw [List.length_map, Array.length_toList]
  rfl
theorem bytesOf_range (t : ByteArray) : ∀ x ∈ bytesOf t, 0 ≤ x ∧ x ≤ 255 := by
  intro x hx
  obtain ⟨u, _, rfl⟩ := List.mem_map.1 hx
  have := u.toNat_lt
  omega
theorem bytesOf_append (a b : ByteArray) : bytesOf (a ++ b) = bytesOf a ++ bytesOf b := by
  unfold bytesOf
  rw [ByteArray.data_append, Array.toList_append, List.map_append]
theorem bytesOf_extract (t : ByteArray) (i j : Nat) : bytesOf (t.extract i j) = ((bytesOf t).take j).drop i := by
  unfold bytesOf
  rw [ByteArray.data_extract, Array.toList_extract, List.extract_eq_take_drop, ← List.map_take, ← List.map_drop, List.drop_take]
theorem bytesOf_strOf (l : List Int) (h : ∀ x ∈ l, 0 ≤ x ∧ x ≤ 255) : bytesOf (strOf l) = l := by
  unfold bytesOf strOf
  rw [List.map_map]
  refine (List.map_congr_left (fun x hx => ?_)).trans (List.map_id l)
  have := h x hx
  simp only [Function.comp, id]
  rw [UInt8.toNat_ofNat']
  omega
theorem strOf_bytesOf (t : ByteArray) : strOf (bytesOf t) = t := by
  unfold bytesOf strOf
  rw [List.map_map]
  have e : t.data.toList.map ((fun n : Int => UInt8.ofNat n.toNat) ∘ fun b : UInt8 => (b.toNat : Int)) = t.data.toList := by
    refine (List.map_congr_left (fun x hx => ?_)).trans (List.map_id _)
    simp only [Function.comp, Int.toNat_natCast, id]
    exact UInt8.ofNat_toNat
  rw [e]
theorem bytesOf_inj {a b : ByteArray} (h : bytesOf a = bytesOf b) : a = b := by
  rw [← strOf_bytesOf a, ← strOf_bytesOf b, h]
theorem bt_rd (t : ByteArray) (i : Int) : bt t i = rd (bytesOf t) i := (rd_bytesOf t i).symm

theorem pow_mono (a : Nat) (ha : 0 < a) {i j : Nat} (h : i ≤ j) : ((a : Int)) ^ i ≤ (a : Int) ^ j := by
  have := Nat.pow_le_pow_right ha h
  exact_mod_cast this
/-! ### joining bits -/
theorem wr63 (n : Int) (h0 : 0 ≤ n) (h1 : n < 2 ^ 63) : IntKind.i64.wrap n = n := by rw [IntKind.wrap_i64]; omega
theorem or_comm64 (a b : Int) : Go.bits .or .i64 a b = Go.bits .or .i64 b a := by
  have h : ∀ x y : Int, Go.bits .or .i64 x y = IntKind.i64.wrap ((BitVec.ofInt 64 x ||| BitVec.ofInt 64 y).toNat : Int) := fun _ _ => rfl
  rw [h, h, BitVec.or_comm]
/-- A part below 2^i and one above it. -/
theorem or_low (i : Nat) (n h : Int) (hn0 : 0 ≤ n) (hn : n < 2 ^ i) (hh0 : 0 ≤ h) (hh : h * 2 ^ i < 2 ^ 63) (hi : i ≤ 62) : Go.bits .or .i64 n (h * 2 ^ i) = n + h * 2 ^ i := by
  rw [or_comm64]
  have hp : (2 : Int) ^ i ≤ 2 ^ 62 := by exact_mod_cast Nat.pow_le_pow_right (by decide : 0 < 2) hi
  rw [bits_join .i64 63 (by decide) wr63 i (h * 2 ^ i) n (Int.mul_nonneg hh0 (Int.pow_nonneg (by decide))) (Int.mul_emod_left _ _) hh hn0 hn (by omega)]
  omega
theorem or_high (n x : Int) (hn0 : 0 ≤ n) (hx0 : 0 ≤ x) (hx : x < 256) (hn : n * 256 < 2 ^ 63) : Go.bits .or .i64 (n * 256) x = n * 256 + x := by
  have := or_low 8 x n hx0 (by omega) hn0 (by omega) (by decide)
  rw [or_comm64]
  rw [show (2 : Int) ^ 8 = 256 by decide] at this
  rw [this]
  omega
theorem shl7 (x : Int) (i : Nat) (hi : i ≤ 4) (hx0 : 0 ≤ x) (hx : x < 128) : shl .i64 x (7 * (i : Int)) = x * 2 ^ (7 * i) := by
  unfold shl
  rw [show (7 * (i : Int)).toNat = 7 * i by omega, show IntKind.bits .i64 = 64 from rfl, Nat.min_eq_left (by omega)]
  have h2 : (2 : Int) ^ (7 * i) ≤ 2 ^ 28 := by exact_mod_cast Nat.pow_le_pow_right (by decide : 0 < 2) (by omega : 7 * i ≤ 28)
  have h3 : (0 : Int) ≤ 2 ^ (7 * i) := Int.pow_nonneg (by decide)
  have h4 : x * 2 ^ (7 * i) ≤ 127 * 2 ^ 28 := Int.mul_le_mul (by omega) h2 h3 (by decide)
  exact wr63 _ (Int.mul_nonneg hx0 h3) (by omega)
theorem shl8 (x : Int) (i : Nat) (hi : i ≤ 6) (hx0 : 0 ≤ x) (hx : x < 256) : shl .i64 x (8 * (i : Int)) = x * 2 ^ (8 * i) := by
  unfold shl
  rw [show (8 * (i : Int)).toNat = 8 * i by omega, show IntKind.bits .i64 = 64 from rfl, Nat.min_eq_left (by omega)]
  have h2 : (2 : Int) ^ (8 * i) ≤ 2 ^ 48 := by exact_mod_cast Nat.pow_le_pow_right (by decide : 0 < 2) (by omega : 8 * i ≤ 48)
  have h3 : (0 : Int) ≤ 2 ^ (8 * i) := Int.pow_nonneg (by decide)
  have h4 : x * 2 ^ (8 * i) ≤ 255 * 2 ^ 48 := Int.mul_le_mul (by omega) h2 h3 (by decide)
  exact wr63 _ (Int.mul_nonneg hx0 h3) (by omega)
/-- The eighth byte: as it is where its top bit is clear, and below 0 where it is set. -/
theorem or_top (n x : Int) (hn0 : 0 ≤ n) (hn : n < 2 ^ 56) (hx0 : 0 ≤ x) (hx : x < 256) :
    Go.bits .or .i64 n (shl .i64 x 56) = if x < 128 then n + x * 2 ^ 56 else n + x * 2 ^ 56 - 2 ^ 64 := by
  obtain ⟨a, rfl⟩ := Int.eq_ofNat_of_zero_le hn0
  obtain ⟨c, rfl⟩ := Int.eq_ofNat_of_zero_le hx0
  have hs : shl .i64 (c : Int) 56 = IntKind.i64.wrap ((c * 2 ^ 56 : Nat) : Int) := by
    unfold shl
    rw [show (56 : Int).toNat = 56 by decide, show IntKind.bits .i64 = 64 from rfl, Nat.min_eq_left (by decide)]
    congr 1
  have h1 : BitVec.ofInt 64 (shl .i64 (c : Int) 56) = BitVec.ofNat 64 (c * 2 ^ 56) := by
    rw [hs, IntKind.wrap_i64]
    apply BitVec.eq_of_toNat_eq
    rw [BitVec.toNat_ofInt, BitVec.toNat_ofNat]
    omega
  have h : Go.bits .or .i64 (a : Int) (shl .i64 (c : Int) 56) = IntKind.i64.wrap ((BitVec.ofInt 64 (a : Int) ||| BitVec.ofInt 64 (shl .i64 (c : Int) 56)).toNat : Int) := rfl
  rw [h, h1, BitVec.ofInt_natCast, BitVec.toNat_or, BitVec.toNat_ofNat, BitVec.toNat_ofNat, Nat.mod_eq_of_lt (by omega), Nat.mod_eq_of_lt (by omega), Nat.or_comm, Nat.mul_comm c,
    ← Nat.two_pow_add_eq_or_of_lt (by omega : a < 2 ^ 56) c, IntKind.wrap_i64]
  split <;> omega

/-! ### numbers read from so many bytes -/
/-- The number of these bytes, the lowest first. -/
def le : List Int → Int
  | [] => 0
  | x :: l => x + 256 * le l
theorem le_range : ∀ (l : List Int), (∀ x ∈ l, 0 ≤ x ∧ x ≤ 255) → 0 ≤ le l ∧ le l < 256 ^ l.length
  | [], _ => by simp [le]
  | x :: l, h => by
    have h1 := h x (by simp)
    have h2 := le_range l (fun y hy => h y (by simp [hy]))
    simp only [le, List.length_cons, Int.pow_succ]
    omega
theorem le_snoc : ∀ (l : List Int) (x : Int), le (l ++ [x]) = le l + x * 256 ^ l.length
  | [], x => by simp [le]
  | y :: l, x => by
    simp only [List.cons_append, le, List.length_cons, Int.pow_succ, le_snoc l x]
    rw [Int.mul_add, Int.mul_left_comm (256 : Int) x, Int.mul_comm (256 : Int) (256 ^ l.length)]
    omega
theorem fixL_range : ∀ (d : Nat) (n : Int), ∀ x ∈ fixL d n, 0 ≤ x ∧ x ≤ 255
  | 0, n, x, h => by simp [fixL] at h
  | d + 1, n, x, h => by
    rcases List.mem_cons.1 h with rfl | h
    · omega
    · exact fixL_range d _ x h
/-- The bytes of a text from a place on, so many. -/
def seg (b : ByteArray) (a n : Nat) : List Int := ((bytesOf b).drop a).take n
theorem seg_length (b : ByteArray) (a n : Nat) (h : a + n ≤ b.size) : (seg b a n).length = n := by
  unfold seg
  rw [List.length_take, List.length_drop, bytesOf_length]
  omega
theorem seg_range (b : ByteArray) (a n : Nat) : ∀ x ∈ seg b a n, 0 ≤ x ∧ x ≤ 255 := fun x hx => bytesOf_range b x (List.mem_of_mem_drop (List.mem_of_mem_take hx))
theorem seg_snoc (b : ByteArray) (a n : Nat) (h : a + n < b.size) : seg b a (n + 1) = seg b a n ++ [bt b ((a + n : Nat) : Int)] := by
  unfold seg
  have hl : n < ((bytesOf b).drop a).length := by rw [List.length_drop, bytesOf_length]; omega
  have hl2 : a + n < (bytesOf b).length := by rw [bytesOf_length]; omega
  rw [List.take_succ_eq_append_getElem hl, bt_rd, rd_get _ _ hl2, List.getElem_drop]
theorem seg_cons (b : ByteArray) (a n : Nat) (h : a < b.size) : seg b a (n + 1) = bt b (a : Int) :: seg b (a + 1) n := by
  unfold seg
  have hl2 : a < (bytesOf b).length := by rw [bytesOf_length]; omega
  rw [List.drop_eq_getElem_cons hl2, List.take_succ_cons, bt_rd, rd_get _ _ hl2]
theorem extract_seg (b : ByteArray) (a n : Nat) : bytesOf (b.extract a (a + n)) = seg b a n := by
  unfold seg
  rw [bytesOf_extract, List.drop_take]
  congr 1
  omega
def rfix (b : ByteArray) (a w : Int) : Int × Bool :=
  if (1 ≤ w ∧ w ≤ 8) ∧ 0 ≤ a ∧ a ≤ b.size - w then (if le (seg b a.toNat w.toNat) < 2 ^ 63 then (le (seg b a.toNat w.toNat), true) else (0, false)) else (0, false)
theorem rfix_range (b : ByteArray) (a w : Int) : 0 ≤ (rfix b a w).1 ∧ (rfix b a w).1 < 2 ^ 63 := by
  unfold rfix
  split
  · split
    · exact ⟨(le_range _ (seg_range _ _ _)).1, by assumption⟩
    · exact ⟨by decide, by decide⟩
  · exact ⟨by decide, by decide⟩
end Go.Mth

/- Plain mathematics for this seat's laws, third part: numbers in as few bytes as can be, read; heads; frames; scans. No program in it.
   Conditions: none beyond those that each lemma names. -/
namespace Go.Mth
open Go.RowKit
set_option linter.unusedVariables false
set_option linter.unusedSimpArgs false

/-! ### numbers in as few bytes as can be, read -/
def acc : List Int → Int
  | [] => 0
  | x :: l => x % 128 + 128 * acc l
theorem acc_range : ∀ (l : List Int), 0 ≤ acc l ∧ acc l < 128 ^ l.length
  | [] => by simp [acc]
  | x :: l => by
    have := acc_range l
    simp only [acc, List.length_cons, Int.pow_succ]
    omega
theorem acc_snoc : ∀ (l : List Int) (x : Int), acc (l ++ [x]) = acc l + x % 128 * 128 ^ l.length
  | [], x => by simp [acc]
  | y :: l, x => by
    simp only [List.cons_append, acc, List.length_cons, Int.pow_succ, acc_snoc l x]
    rw [Int.mul_add, Int.mul_left_comm (128 : Int) (x % 128), Int.mul_comm (128 : Int) (128 ^ l.length)]
    omega
theorem acc_pos : ∀ (l : List Int) (x : Int), 0 < x → x < 128 → 0 < acc (l ++ [x])
  | [], x, h0, h1 => by simp only [List.nil_append, acc]; omega
  | y :: l, x, h0, h1 => by
    have := acc_pos l x h0 h1
    simp only [List.cons_append, acc]
    omega
theorem varL_acc : ∀ (l : List Int) (d : Nat) (x : Int), l.length ≤ d → (∀ y ∈ l, 128 ≤ y ∧ y ≤ 255) → 0 ≤ x → x < 128 → (l = [] ∨ x ≠ 0) → varL d (acc (l ++ [x])) = l ++ [x]
  | [], d, x, _, _, h0, h1, _ => by
    have e : acc ([] ++ [x]) = x := by simp only [List.nil_append, acc]; omega
    rw [e]
    cases d with
    | zero => simp only [varL, List.nil_append]; rw [Int.emod_eq_of_lt h0 (by omega)]
    | succ d => rw [varL_ngt d x (by omega), Int.emod_eq_of_lt h0 (by omega)]; rfl
  | y :: l, 0, x, hd, _, _, _, _ => by simp at hd
  | y :: l, d + 1, x, hd, hl, h0, h1, hx => by
    have hx' : x ≠ 0 := hx.resolve_left (by simp)
    have hp := acc_pos l x (by omega) h1
    have hy := hl y (by simp)
    have e : acc (y :: l ++ [x]) = y % 128 + 128 * acc (l ++ [x]) := rfl
    have hd' : l.length ≤ d := by simpa using hd
    rw [e, varL_gt _ _ (by omega), show (y % 128 + 128 * acc (l ++ [x])) / 128 = acc (l ++ [x]) by omega, show (y % 128 + 128 * acc (l ++ [x])) % 128 + 128 = y by omega,
      varL_acc l d x hd' (fun z hz => hl z (by simp [hz])) h0 h1 (.inr hx')]
    rfl
theorem varL_last : ∀ (d : Nat) (n : Int), 1 ≤ n → n < 128 ^ (d + 1) → (varL d n).getLast? ≠ some 0
  | 0, n, h1, h2 => by
    simp only [varL, List.getLast?_singleton]
    intro h
    injection h with h
    omega
  | d + 1, n, h1, h2 => by
    by_cases h : n > 127
    · rw [varL_gt d n h]
      have hp : n / 128 < 128 ^ (d + 1) := by rw [Int.pow_succ] at h2; omega
      have := varL_last d (n / 128) (by omega) hp
      have hne : varL d (n / 128) ≠ [] := fun e => by have := varL_pos d (n / 128); rw [e] at this; simp at this
      rw [List.getLast?_cons_of_ne_nil hne]
      exact this
    · rw [varL_ngt d n h]
      simp only [List.getLast?_singleton]
      intro h
      injection h with h
      omega
theorem varL_canon (l : List Int) (x : Int) (hl4 : l.length ≤ 4) (hl : ∀ y ∈ l, 128 ≤ y ∧ y ≤ 255) (h0 : 0 ≤ x) (h1 : x < 128) : varL 4 (acc (l ++ [x])) = l ++ [x] ↔ ¬ (0 < l.length ∧ x = 0) := by
  constructor
  · rintro h ⟨h2, rfl⟩
    have hr := acc_range (l ++ [0])
    by_cases hz : acc (l ++ [0]) = 0
    · rw [hz] at h
      have := congrArg List.length h
      rw [varL_ngt 3 0 (by decide), List.length_append, List.length_singleton, List.length_singleton] at this
      omega
    · refine varL_last 4 (acc (l ++ [0])) (by omega) ?_ ?_
      · have h6 : (128 : Nat) ^ (l ++ [(0 : Int)]).length ≤ 128 ^ (4 + 1) := Nat.pow_le_pow_right (by decide) (by rw [List.length_append, List.length_singleton]; omega)
        have h7 : (128 : Int) ^ (l ++ [(0 : Int)]).length ≤ 128 ^ (4 + 1) := by exact_mod_cast h6
        exact Int.lt_of_lt_of_le hr.2 h7
      · rw [h]
        exact List.getLast?_concat
  · intro h
    refine varL_acc l 4 x hl4 hl h0 h1 ?_
    cases l with
    | nil => exact .inl rfl
    | cons y l => exact .inr (fun e => h ⟨by simp, e⟩)
theorem varL_range : ∀ (d : Nat) (n : Int), 0 ≤ n → ∀ x ∈ varL d n, 0 ≤ x ∧ x ≤ 255
  | 0, n, h, x, hx => by
    simp only [varL, List.mem_singleton] at hx
    omega
  | d + 1, n, h, x, hx => by
    by_cases h1 : n > 127
    · rw [varL_gt d n h1] at hx
      rcases List.mem_cons.1 hx with rfl | hx
      · omega
      · exact varL_range d _ (by omega) x hx
    · rw [varL_ngt d n h1, List.mem_singleton] at hx
      omega
def rvI (b : ByteArray) (a : Nat) : Nat → Nat → Int × Int × Bool
  | 0, _ => (0, 0, false)
  | d + 1, i => if a + i < b.size then
      (if bt b ((a + i : Nat) : Int) ≥ 128 then rvI b a d (i + 1)
       else if (0 < i ∧ bt b ((a + i : Nat) : Int) = 0) ∨ 1000000000 < acc (seg b a (i + 1)) then (0, 0, false) else (acc (seg b a (i + 1)), ((a + i + 1 : Nat) : Int), true))
      else (0, 0, false)
/-- The number whose VarText stands there. -/
def rv (b : ByteArray) (a : Int) : Int × Int × Bool := if 0 ≤ a then rvI b a.toNat 5 0 else (0, 0, false)
theorem rvI_range (b : ByteArray) (a : Nat) : ∀ (d i : Nat), (rvI b a d i).2.2 = true → 0 ≤ (rvI b a d i).1 ∧ (rvI b a d i).1 ≤ 1000000000 ∧ (a : Int) < (rvI b a d i).2.1 ∧ (rvI b a d i).2.1 ≤ b.size
  | 0, i, h => by simp [rvI] at h
  | d + 1, i, h => by
    unfold rvI at h ⊢
    split at h
    · rename_i h1
      rw [if_pos h1]
      split at h
      · rename_i h2
        rw [if_pos h2]
        exact rvI_range b a d (i + 1) h
      · rename_i h2
        rw [if_neg h2]
        split at h
        · simp at h
        · rename_i h3
          rw [if_neg h3]
          have := acc_range (seg b a (i + 1))
          refine ⟨this.1, by omega, ?_, ?_⟩
          · show (a : Int) < ((a + i + 1 : Nat) : Int)
            omega
          · show ((a + i + 1 : Nat) : Int) ≤ b.size
            omega
    · simp at h
theorem rv_range (b : ByteArray) (a : Int) (h : (rv b a).2.2 = true) : 0 ≤ a ∧ 0 ≤ (rv b a).1 ∧ (rv b a).1 ≤ 1000000000 ∧ a < (rv b a).2.1 ∧ (rv b a).2.1 ≤ b.size := by
  unfold rv at h ⊢
  split at h
  · rename_i h1
    rw [if_pos h1]
    have := rvI_range b a.toNat 5 0 h
    exact ⟨h1, this.1, this.2.1, by omega, this.2.2.2⟩
  · simp at h
/-! ### heads -/
def headOk (v s b l : Int) : Prop := verOk v ∧ (1 ≤ s ∧ s ≤ 20) ∧ numOk b ∧ (0 ≤ l ∧ l ≤ 4294967295)
instance (v s b l : Int) : Decidable (headOk v s b l) := by unfold headOk; infer_instance
def hdBody (v s b l : Int) : ByteArray := ⟨#[83, 69, 71, 77]⟩ ++ fixT v 1 ++ fixT s 1 ++ ⟨#[0, 0]⟩ ++ fixT b 8 ++ fixT l 4
def headT (v s b l : Int) : ByteArray := if headOk v s b l then hdBody v s b l ++ fixT (sumOf (hdBody v s b l)) 4 else ⟨#[]⟩
theorem fixT0 : fixT 0 2 = ⟨#[0, 0]⟩ := by decide +kernel
theorem hdBody_le (v s b l : Int) : (hdBody v s b l).size ≤ 38 := by
  unfold hdBody
  have h1 := fixT_le v 1
  have h2 := fixT_le s 1
  have h3 := fixT_le b 8
  have h4 := fixT_le l 4
  simp only [ByteArray.size_append]
  have h5 : (⟨#[83, 69, 71, 77]⟩ : ByteArray).size = 4 := rfl
  have h6 : (⟨#[0, 0]⟩ : ByteArray).size = 2 := rfl
  omega
/-- The head whose HeadText the first bytes are. -/
def rHead (b : ByteArray) : Int × Int × Int × Int × Bool :=
  if b.size < 24 then (0, 0, 0, 0, false)
  else if (rfix b 8 8).2 = true ∧ headT (bt b 4) (bt b 5) (rfix b 8 8).1 (rfix b 16 4).1 = b.extract 0 24 then (bt b 4, bt b 5, (rfix b 8 8).1, (rfix b 16 4).1, true) else (0, 0, 0, 0, false)
theorem rHead_ok (b : ByteArray) (h : (rHead b).2.2.2.2 = true) : 24 ≤ b.size ∧ headOk (rHead b).1 (rHead b).2.1 (rHead b).2.2.1 (rHead b).2.2.2.1 ∧ headT (rHead b).1 (rHead b).2.1 (rHead b).2.2.1 (rHead b).2.2.2.1 = b.extract 0 24 := by
  unfold rHead at h ⊢
  split at h
  · simp at h
  · rename_i h1
    rw [if_neg h1]
    split at h
    · rename_i h2
      rw [if_pos h2]
      refine ⟨by omega, ?_, h2.2⟩
      have hs := congrArg ByteArray.size h2.2
      rw [ByteArray.size_extract] at hs
      by_cases hk : headOk (bt b 4) (bt b 5) (rfix b 8 8).1 (rfix b 16 4).1
      · exact hk
      · unfold headT at hs
        rw [if_neg hk, mkE_size] at hs
        omega
    · simp at h
/-! ### frames -/
theorem frameT_le (v p : Int) (r : ByteArray) : (frameT v p r).size ≤ 84 := by
  unfold frameT
  split
  · rename_i h
    have h1 := sizedT_le p r.size
    have h2 := varT_le r.size
    have h3 := fixT_le (sumOf r) 4
    simp only [ByteArray.size_append]
    split <;> omega
  · exact Nat.zero_le _
/-- How long the record is, and where it begins. -/
def fq (v : Int) (b : ByteArray) (a : Int) : Int × Int × Bool := if v = 2 then ((rfix b a 4).1, a + 8, (rfix b a 4).2) else rv b a
def rFrameQ (v p : Int) (b : ByteArray) (a : Int) (q : Int × Int × Bool) : ByteArray × Int × Bool :=
  if (verOk v ∧ numOk p ∧ 0 ≤ a ∧ a ≤ b.size) ∧ q.2.2 = true ∧ q.1 ≤ 60 ∧ q.2.1 + q.1 ≤ b.size ∧ hasAt b a (frameT v p (b.extract q.2.1.toNat (q.2.1 + q.1).toNat)) = true
  then (b.extract q.2.1.toNat (q.2.1 + q.1).toNat, a + ((frameT v p (b.extract q.2.1.toNat (q.2.1 + q.1).toNat)).size : Int), true) else (⟨#[]⟩, 0, false)
/-- The record whose FrameText stands there. -/
def rFrame (v p : Int) (b : ByteArray) (a : Int) : ByteArray × Int × Bool := rFrameQ v p b a (fq v b a)
theorem hasAt_iff (b : ByteArray) (a : Int) (t : ByteArray) : hasAt b a t = true ↔ 0 ≤ a ∧ a + t.size ≤ b.size ∧ b.extract a.toNat (a.toNat + t.size) = t := by
  unfold hasAt
  rw [decide_eq_true_iff]
theorem frameT_pos (v p : Int) (r : ByteArray) (hv : verOk v) (hp : numOk p) (hr : r.size ≤ 60) : 5 ≤ (frameT v p r).size := by
  unfold frameT
  rw [if_pos ⟨hv, hp, hr⟩]
  have h7 := sumMore_range 0 r
  have h8 := fixT4_size (sumOf r) h7.1 h7.2
  simp only [ByteArray.size_append, h8]
  split
  · have := varT_pos r.size (by omega) (by omega)
    omega
  · unfold sizedT
    have := fixT4_size r.size (by omega) (by omega)
    rw [ByteArray.size_append]
    omega
theorem rFrame_ok (v p : Int) (b : ByteArray) (a : Int) (h : (rFrame v p b a).2.2 = true) :
    verOk v ∧ numOk p ∧ 0 ≤ a ∧ (rFrame v p b a).1.size ≤ 60 ∧ (rFrame v p b a).2.1 = a + ((frameT v p (rFrame v p b a).1).size : Int) ∧ hasAt b a (frameT v p (rFrame v p b a).1) = true ∧ a + 5 ≤ (rFrame v p b a).2.1 ∧ (rFrame v p b a).2.1 ≤ b.size := by
  unfold rFrame at h ⊢
  generalize fq v b a = q at h ⊢
  unfold rFrameQ at h ⊢
  split at h
  · rename_i h1
    rw [if_pos h1]
    have h2 := (hasAt_iff _ _ _).1 h1.2.2.2.2
    have hsz : (b.extract q.2.1.toNat (q.2.1 + q.1).toNat).size ≤ 60 := by
      rw [ByteArray.size_extract]
      have := h1.2.2.1
      omega
    have h3 := frameT_pos v p _ h1.1.1 h1.1.2.1 hsz
    refine ⟨h1.1.1, h1.1.2.1, h1.1.2.2.1, hsz, rfl, h1.2.2.2.2, ?_, ?_⟩
    · show a + 5 ≤ a + ((frameT v p _).size : Int)
      omega
    · exact h2.2.1
  · simp at h
/-! ### scans -/
def scanGo (v base : Int) (b : ByteArray) : Nat → List ByteArray → List Int → Int → List ByteArray × List Int × Int × Bool
  | 0, rs, os, e => (rs, os, e, false)
  | d + 1, rs, os, e =>
    if markAt v (base + rs.length) b e = true then (rs, os, e, true)
    else if (rFrame v (base + rs.length) b e).2.2 = true then scanGo v base b d (rs ++ [(rFrame v (base + rs.length) b e).1]) (os ++ [e]) (rFrame v (base + rs.length) b e).2.1
    else (rs, os, e, false)
/-- What is told of a file: its head's numbers, its records, where they begin, where the last one ends, whether it is marked. -/
def scan (b : ByteArray) : Bool × Int × Int × Int × Int × List ByteArray × List Int × Int × Bool :=
  if (rHead b).2.2.2.2 = true then (true, (rHead b).1, (rHead b).2.1, (rHead b).2.2.1, (rHead b).2.2.2.1, scanGo (rHead b).1 (rHead b).2.2.1 b (b.size + 1) [] [] 24)
  else (false, 0, 0, 0, 0, [], [], 0, false)
/-- What holds of a scan's state. -/
def ScInv (b : ByteArray) (rs : List ByteArray) (os : List Int) (e : Int) : Prop :=
  rs.length = os.length ∧ 24 ≤ e ∧ e ≤ b.size ∧ 24 + 5 * (rs.length : Int) ≤ e ∧ (∀ r ∈ rs, r.size ≤ 60) ∧ ∀ o ∈ os, 0 ≤ o ∧ o ≤ b.size
theorem scInv_step (v base : Int) (b : ByteArray) (rs : List ByteArray) (os : List Int) (e : Int) (h : ScInv b rs os e) (hf : (rFrame v (base + rs.length) b e).2.2 = true) :
    ScInv b (rs ++ [(rFrame v (base + rs.length) b e).1]) (os ++ [e]) (rFrame v (base + rs.length) b e).2.1 := by
  obtain ⟨h1, h2, h3, h4, h5, h6⟩ := h
  obtain ⟨_, _, _, k1, _, _, k2, k3⟩ := rFrame_ok _ _ _ _ hf
  refine ⟨by simp [h1], by omega, k3, by simp only [List.length_append, List.length_singleton]; omega, ?_, ?_⟩
  · intro r hr
    rcases List.mem_append.1 hr with hr | hr
    · exact h5 r hr
    · rw [List.mem_singleton.1 hr]; exact k1
  · intro o ho
    rcases List.mem_append.1 ho with ho | ho
    · exact h6 o ho
    · rw [List.mem_singleton.1 ho]; omega
theorem scanGo_inv (v base : Int) (b : ByteArray) : ∀ (d : Nat) (rs : List ByteArray) (os : List Int) (e : Int), ScInv b rs os e →
    ScInv b (scanGo v base b d rs os e).1 (scanGo v base b d rs os e).2.1 (scanGo v base b d rs os e).2.2.1
  | 0, rs, os, e, h => h
  | d + 1, rs, os, e, h => by
    unfold scanGo
    split
    · exact h
    · split
      · rename_i hf
        exact scanGo_inv v base b d _ _ _ (scInv_step v base b rs os e h hf)
      · exact h
theorem scan_inv (b : ByteArray) (h : (scan b).1 = true) : ScInv b (scan b).2.2.2.2.2.1 (scan b).2.2.2.2.2.2.1 (scan b).2.2.2.2.2.2.2.1 := by
  unfold scan at h ⊢
  split at h
  · rename_i h1
    rw [if_pos h1]
    have := (rHead_ok b h1).1
    exact scanGo_inv _ _ _ _ _ _ _ ⟨rfl, by omega, by omega, by simp, by simp, by simp⟩
  · simp at h
theorem scan_no (b : ByteArray) (h : ¬ (scan b).1 = true) : scan b = (false, 0, 0, 0, 0, [], [], 0, false) := by
  unfold scan at h ⊢
  split at h
  · simp at h
  · rename_i h1
    rw [if_neg h1]
theorem scan_head (b : ByteArray) (h : (scan b).1 = true) : (rHead b).2.2.2.2 = true ∧ (scan b).2.1 = (rHead b).1 ∧ (scan b).2.2.1 = (rHead b).2.1 ∧ (scan b).2.2.2.1 = (rHead b).2.2.1 ∧ (scan b).2.2.2.2.1 = (rHead b).2.2.2.1 := by
  unfold scan at h ⊢
  split at h
  · rename_i h1
    rw [if_pos h1]
    exact ⟨h1, rfl, rfl, rfl, rfl⟩
  · simp at h
end Go.Mth

/- Plain mathematics for this seat's laws, fourth part: lists of places, what stands behind the frames, sealed files. No program in it.
   Conditions: none beyond those that each lemma names. -/
namespace Go.Mth
open Go.RowKit
set_option linter.unusedVariables false
set_option linter.unusedSimpArgs false

/-! ### lists of places -/
/-- How much a is above b, as text. -/
def upT (a b : Int) : ByteArray := if b ≤ a ∧ a - b ≤ 1000000000 then varT (a - b) else ⟨#[]⟩
theorem stepT_le (a b : Int) : (upT a b).size ≤ 5 := by
  unfold upT
  split
  · exact varT_le _
  · exact Nat.zero_le _
def plGo : ByteArray → Int → Int → List (Int × Int) → ByteArray
  | o, _, _, [] => o
  | o, lc, la, p :: l => if (upT p.1 lc).size = 0 ∨ (upT p.2 la).size = 0 then ⟨#[]⟩ else plGo (o ++ upT p.1 lc ++ upT p.2 la) p.1 p.2 l
def placesT (l : List (Int × Int)) : ByteArray := plGo (varT l.length) 0 0 l
theorem plGo_le : ∀ (l : List (Int × Int)) (o : ByteArray) (lc la : Int), (plGo o lc la l).size ≤ o.size + 10 * l.length
  | [], o, _, _ => by simp [plGo]
  | p :: l, o, lc, la => by
    unfold plGo
    split
    · exact Nat.zero_le _
    · have := plGo_le l (o ++ upT p.1 lc ++ upT p.2 la) p.1 p.2
      have h1 := stepT_le p.1 lc
      have h2 := stepT_le p.2 la
      rw [ByteArray.size_append, ByteArray.size_append] at this
      rw [List.length_cons]
      omega
theorem placesT_le (l : List (Int × Int)) : (placesT l).size ≤ 5 + 10 * l.length := by
  have := plGo_le l (varT l.length) 0 0
  have := varT_le l.length
  unfold placesT
  omega
theorem placesOf_le {α : Type} (mk : Int → Int → α) (s : Int) (l : List Int) : (placesOf mk s l).length ≤ l.length := by
  unfold placesOf
  split
  · exact Nat.zero_le _
  · exact plc_length mk s l 0

/-! ### what stands behind the frames -/
theorem fixT4_full (n : Int) (h : (fixT n 4).size ≠ 0) : (fixT n 4).size = 4 ∧ 0 ≤ n ∧ n < 4294967296 := by
  have h256 : (256 : Int) ^ (4 : Int).toNat = 4294967296 := by decide
  unfold fixT at h ⊢
  split at h
  · exact absurd rfl h
  · rename_i h1
    rw [if_neg h1, strOf_size, fixL_length]
    rw [h256] at h1
    exact ⟨rfl, by omega, by omega⟩
theorem trailGo_le : ∀ (l : List Int) (acc : ByteArray), (trailGo acc l).size ≤ acc.size + 8 * l.length + 4
  | [], acc => by
    unfold trailGo
    rw [ByteArray.size_append]
    have : (⟨#[73, 68, 88, 33]⟩ : ByteArray).size = 4 := rfl
    simp only [List.length_nil]
    omega
  | n :: l, acc => by
    unfold trailGo
    split
    · exact Nat.zero_le _
    · have := trailGo_le l (acc ++ fixT n 4)
      have h := fixT_le n 4
      rw [ByteArray.size_append] at this
      rw [List.length_cons]
      omega
theorem trailT_le (a b c d : Int) : (trailT a b c d).size ≤ 36 := by
  have := trailGo_le [a, b, c, d] ⟨#[]⟩
  have h0 : (⟨#[]⟩ : ByteArray).size = 0 := rfl
  unfold trailT
  simp only [List.length_cons, List.length_nil] at this
  omega
theorem trailT_size (a b c d : Int) (h : (trailT a b c d).size ≠ 0) : (fixT a 4).size ≠ 0 ∧ (fixT b 4).size ≠ 0 ∧ (fixT c 4).size ≠ 0 ∧ (fixT d 4).size ≠ 0 ∧ trailT a b c d = fixT a 4 ++ fixT b 4 ++ fixT c 4 ++ fixT d 4 ++ ⟨#[73, 68, 88, 33]⟩ := by
  unfold trailT trailGo at h ⊢
  split at h
  · exact absurd rfl h
  · rename_i h1
    rw [if_neg h1]
    unfold trailGo at h ⊢
    split at h
    · exact absurd rfl h
    · rename_i h2
      rw [if_neg h2]
      unfold trailGo at h ⊢
      split at h
      · exact absurd rfl h
      · rename_i h3
        rw [if_neg h3]
        unfold trailGo at h ⊢
        split at h
        · exact absurd rfl h
        · rename_i h4
          rw [if_neg h4]
          refine ⟨h1, h2, h3, h4, ?_⟩
          unfold trailGo
          rw [show (⟨#[]⟩ : ByteArray) ++ fixT a 4 = fixT a 4 from ByteArray.empty_append]
/-- The places, in plain pairs. -/
def placesP (s : Int) (os : List Int) : List (Int × Int) := placesOf (fun a b => (a, b)) s os
def footT (v s b l : Int) (os : List Int) (e : Int) : ByteArray :=
  if headOk v s b l then
    (if (endMark v (b + os.length)).size = 0 ∨ (placesT (placesP s os)).size = 0 ∨ (trailT e os.length s 0).size = 0 then ⟨#[]⟩
     else endMark v (b + os.length) ++ placesT (placesP s os) ++ trailT e os.length s (sumOf (endMark v (b + os.length) ++ placesT (placesP s os) ++ (trailT e os.length s 0).extract 0 12)))
  else ⟨#[]⟩
theorem footT_le (v s b l : Int) (os : List Int) (e : Int) : (footT v s b l os e).size ≤ 57 + 10 * os.length := by
  unfold footT
  split
  · split
    · exact Nat.zero_le _
    · have h1 := endMark_le v (b + os.length)
      have h2 := placesT_le (placesP s os)
      have h3 := trailT_le e os.length s (sumOf (endMark v (b + os.length) ++ placesT (placesP s os) ++ (trailT e os.length s 0).extract 0 12))
      have h4 : (placesP s os).length ≤ os.length := placesOf_le _ _ _
      rw [ByteArray.size_append, ByteArray.size_append]
      omega
  · exact Nat.zero_le _

def sealOk (v s b l : Int) (rs : List ByteArray) : Prop := headOk v s b l ∧ rs.length ≤ 1000 ∧ b + rs.length ≤ 1000000000 ∧ ∀ r ∈ rs, r.size ≤ 60
instance (v s b l : Int) (rs : List ByteArray) : Decidable (sealOk v s b l rs) := by unfold sealOk; infer_instance
end Go.Mth

/- What functions of the program and of the reference do, in plain values. -/
namespace Go.Pv
open Go.Proofs Go.Mth
set_option linter.unusedSimpArgs false
set_option linter.unusedVariables false
set_option maxHeartbeats 4000000
set_option maxRecDepth 4000

/-! ### bounds, sums, numbers in bytes -/
theorem spec_l01In (n lo hi : Int) : Fn Tryz.prog 59 [.int .i64 n, .int .i64 lo, .int .i64 hi] [] (.bool (decide (lo ≤ n ∧ n ≤ hi))) [] := by
  refine fn_x tok (n := 15) (rs := [.tmp 6]) Tryz.func59 (by decide) rfl rfl rfl rfl ?_
  refine Wr.go ?_
  repeat' ((first | (have ee := True.intro; refine Wr.mk ?_) | ((first | refine br_go ?_ ?_ | refine pick_go ?_ ?_) <;> intro ee f <;> (try simp only [BB] at f) <;> (try simp only [numOk, verOk] at f))) <;> (try simp (maxSteps := 1000000) (disch := first | omega | (simp only [LN, numOk, verOk] <;> omega) | exact Ck.mk rfl) only [ee, VC, T, Nat.reduceMul, Nat.reduceAdd, Nat.reduceSub, Nat.reduceLT, Nat.reduceEqDiff, Nat.reduceLeDiff, Nat.reduceBEq, reduceCtorEq, Int.reduceToNat, ↓reduceIte]) <;> (try clear ee))
  all_goals (simp [EQ, *] <;> omega)
theorem impl_within (n lo hi : Int) : Fn Tryz.prog 109 [.int .i64 n, .int .i64 lo, .int .i64 hi] [] (.bool (decide (lo ≤ n ∧ n ≤ hi))) [] := by
  refine fn_x tok (n := 15) (rs := [.tmp 6]) Tryz.func109 (by decide) rfl rfl rfl rfl ?_
  refine Wr.go ?_
  repeat' ((first | (have ee := True.intro; refine Wr.mk ?_) | ((first | refine br_go ?_ ?_ | refine pick_go ?_ ?_) <;> intro ee f <;> (try simp only [BB] at f) <;> (try simp only [numOk, verOk] at f))) <;> (try simp (maxSteps := 1000000) (disch := first | omega | (simp only [LN, numOk, verOk] <;> omega) | exact Ck.mk rfl) only [ee, VC, T, Nat.reduceMul, Nat.reduceAdd, Nat.reduceSub, Nat.reduceLT, Nat.reduceEqDiff, Nat.reduceLeDiff, Nat.reduceBEq, reduceCtorEq, Int.reduceToNat, ↓reduceIte]) <;> (try clear ee))
  all_goals (simp [EQ, *] <;> omega)
theorem impl_isNumber (n : Int) : Fn Tryz.prog 80 [.int .i64 n] [] (.bool (decide (numOk n))) [] := by
  refine fn_x tok (n := 5) (rs := [.tmp 2]) Tryz.func80 (by decide) rfl rfl rfl rfl ?_
  refine Wr.go ?_
  repeat' ((first | (have ee := True.intro; refine Wr.mk ?_) | ((first | refine br_go ?_ ?_ | refine pick_go ?_ ?_) <;> intro ee f <;> (try simp only [BB] at f) <;> (try simp only [numOk, verOk] at f)) | (have ee := True.intro; first | refine call_x (impl_within _ _ _) rfl ⟨rfl⟩ ?_)) <;> (try simp (maxSteps := 1000000) (disch := first | omega | (simp only [LN, numOk, verOk] <;> omega) | exact Ck.mk rfl) only [ee, VC, T, Nat.reduceMul, Nat.reduceAdd, Nat.reduceSub, Nat.reduceLT, Nat.reduceEqDiff, Nat.reduceLeDiff, Nat.reduceBEq, reduceCtorEq, Int.reduceToNat, ↓reduceIte]) <;> (try clear ee))
  all_goals rfl
theorem impl_isVersion (n : Int) : Fn Tryz.prog 128 [.int .i64 n] [] (.bool (decide (verOk n))) [] := by
  refine fn_x tok (n := 9) (rs := [.tmp 2]) Tryz.func128 (by decide) rfl rfl rfl rfl ?_
  refine Wr.go ?_
  repeat' ((first | (have ee := True.intro; refine Wr.mk ?_) | ((first | refine br_go ?_ ?_ | refine pick_go ?_ ?_) <;> intro ee f <;> (try simp only [BB] at f) <;> (try simp only [numOk, verOk] at f))) <;> (try simp (maxSteps := 1000000) (disch := first | omega | (simp only [LN, numOk, verOk] <;> omega) | exact Ck.mk rfl) only [ee, VC, T, Nat.reduceMul, Nat.reduceAdd, Nat.reduceSub, Nat.reduceLT, Nat.reduceEqDiff, Nat.reduceLeDiff, Nat.reduceBEq, reduceCtorEq, Int.reduceToNat, ↓reduceIte]) <;> (try clear ee))
  all_goals simp [EQ, verOk, *]

theorem xor64c (a c : Nat) (C : Int) (hc : C = (c : Int)) (ha : a < 4294967296) (h : c < 4294967296) : Go.bits .xor .i64 a C = ((a ^^^ c : Nat) : Int) := by rw [hc]; exact xor64 a c ha h
theorem xor32c (a c : Nat) (C : Int) (hc : C = (c : Int)) (ha : a < 4294967296) (h : c < 4294967296) : Go.bits .xor .u32 a C = ((a ^^^ c : Nat) : Int) := by rw [hc]; exact xor32 a c ha h
theorem sb_step (n d : Nat) : stps (d + 1) n = stps d (stp n) := rfl
theorem spec_SumByte (s b : Nat) (hs : s < 4294967296) (hb : b < 256) : Fn Tryz.prog 138 [.int .i64 s, .int .i64 b] [] (.int .i64 (sb s b : Nat)) [] := by
  have e0 : Go.bits .and .i64 (s : Int) 4294967295 = (s : Int) := by rw [and_all]; omega
  have e1 : Go.bits .and .i64 (b : Int) 255 = (b : Int) := by rw [and_255]; omega
  refine fn_x tok (n := 26) (rs := [.tmp 4]) Tryz.func138 (by decide) rfl rfl rfl rfl ?_
  refine Wr.go ?_
  repeat' ((first | (have ee := True.intro; refine Wr.mk ?_) | ((first | refine br_go ?_ ?_ | refine pick_go ?_ ?_) <;> intro ee f <;> (try simp only [BB] at f) <;> (try simp only [numOk, verOk] at f))) <;> (try simp (maxSteps := 1000000) (disch := first | omega | (simp only [LN, numOk, verOk, e0, e1, xor64 s b hs (by omega)] <;> omega) | exact Ck.mk rfl) only [ee, VC, T, Nat.reduceMul, Nat.reduceAdd, Nat.reduceSub, Nat.reduceLT, Nat.reduceEqDiff, Nat.reduceLeDiff, Nat.reduceBEq, reduceCtorEq, Int.reduceToNat, ↓reduceIte, e0, e1, xor64 s b hs (by omega)]) <;> (try clear ee))
  refine lp_go (fun x : Nat × Nat => ⟨26, [(5, .int .i64 x.1), (6, .int .i64 (8 - x.2 : Int))], []⟩) (fun x => x.1 < 4294967296 ∧ x.2 ≤ 8 ∧ stps x.2 x.1 = sb s b) (fun x => x.2) (s ^^^ b, 8) ?_ ⟨xlt hs (by omega), by omega, rfl⟩ ?_
  · (simp (disch := first | omega | (simp only [LN, numOk, verOk] <;> omega) | exact Ck.mk rfl) only [SB, EQ, Nat.reduceMul, Nat.reduceAdd, Nat.reduceSub, Nat.reduceLT, Nat.reduceEqDiff, Nat.reduceLeDiff, Nat.reduceBEq, reduceCtorEq, Int.reduceToNat, ↓reduceIte]; try omega)
  · rintro ⟨x, d⟩ ⟨h1, h2, h3⟩ N hN
    have hx := xor64c (x / 2) 2197175160 2197175160 rfl (by omega) (by decide)
    have hh : shr .i64 (x : Int) 1 = ((x / 2 : Nat) : Int) := by
      unfold shr
      rw [Int.fdiv_eq_ediv_of_nonneg _ (by decide)]
      show (x : Int) / 2 = _
      omega
    refine Wr.go ?_
    repeat' ((first | (have ee := True.intro; refine Wr.mk ?_) | ((first | refine br_go ?_ ?_ | refine pick_go ?_ ?_) <;> intro ee f <;> (try simp only [BB] at f) <;> (try simp only [numOk, verOk] at f))) <;> (try simp (maxSteps := 1000000) (disch := first | omega | (simp only [LN, numOk, verOk, and_1, hh, hx] <;> omega) | exact Ck.mk rfl) only [ee, VC, T, Nat.reduceMul, Nat.reduceAdd, Nat.reduceSub, Nat.reduceLT, Nat.reduceEqDiff, Nat.reduceLeDiff, Nat.reduceBEq, reduceCtorEq, Int.reduceToNat, ↓reduceIte, and_1, hh, hx]) <;> (try clear ee))
    · obtain ⟨d, rfl⟩ : ∃ e, d = e + 1 := ⟨d - 1, by omega⟩
      refine hN (stp x, d) _ ⟨stp_lt h1, by omega, by rw [← sb_step]; exact h3⟩ (by simp) ?_
      unfold stp
      rw [if_pos (by omega)]
      (simp (disch := first | omega | (simp only [LN, numOk, verOk] <;> omega) | exact Ck.mk rfl) only [SB, EQ, Nat.reduceMul, Nat.reduceAdd, Nat.reduceSub, Nat.reduceLT, Nat.reduceEqDiff, Nat.reduceLeDiff, Nat.reduceBEq, reduceCtorEq, Int.reduceToNat, ↓reduceIte]; try omega)
    · obtain ⟨d, rfl⟩ : ∃ e, d = e + 1 := ⟨d - 1, by omega⟩
      refine hN (stp x, d) _ ⟨stp_lt h1, by omega, by rw [← sb_step]; exact h3⟩ (by simp) ?_
      unfold stp
      rw [if_neg (by omega)]
      (simp (disch := first | omega | (simp only [LN, numOk, verOk] <;> omega) | exact Ck.mk rfl) only [SB, EQ, Nat.reduceMul, Nat.reduceAdd, Nat.reduceSub, Nat.reduceLT, Nat.reduceEqDiff, Nat.reduceLeDiff, Nat.reduceBEq, reduceCtorEq, Int.reduceToNat, ↓reduceIte]; try omega)
    · obtain rfl : d = 0 := by omega
      simp only [EQ]
      rw [← h3]; rfl
theorem spec_SumMore (s : Int) (t : ByteArray) (ht : t.size ≤ 140737488355328) : Fn Tryz.prog 101 [.int .i64 s, .str t] [] (.int .i64 (sumMore s t)) [] := by
  have h0 : (s % 4294967296).toNat < 4294967296 := by omega
  have e0 : Go.bits .and .i64 s 4294967295 = ((s % 4294967296).toNat : Nat) := by rw [and_all]; omega
  have e1 := xor64c _ 4294967295 4294967295 rfl h0 (by decide)
  refine fn_x tok (n := 24) (rs := [.tmp 4]) Tryz.func101 (by decide) rfl rfl rfl rfl ?_
  refine Wr.go ?_
  repeat' ((first | (have ee := True.intro; refine Wr.mk ?_) | ((first | refine br_go ?_ ?_ | refine pick_go ?_ ?_) <;> intro ee f <;> (try simp only [BB] at f) <;> (try simp only [numOk, verOk] at f))) <;> (try simp (maxSteps := 1000000) (disch := first | omega | (simp only [LN, numOk, verOk, e0, e1] <;> omega) | exact Ck.mk rfl) only [ee, VC, T, Nat.reduceMul, Nat.reduceAdd, Nat.reduceSub, Nat.reduceLT, Nat.reduceEqDiff, Nat.reduceLeDiff, Nat.reduceBEq, reduceCtorEq, Int.reduceToNat, ↓reduceIte, e0, e1]) <;> (try clear ee))
  refine lp_go (fun x : Nat × Nat => ⟨24, [(5, .int .i64 x.1), (1, .str t), (6, .int .i64 x.2)], []⟩) (fun x => x.1 < 4294967296 ∧ x.2 ≤ t.size ∧ sm x.1 ((bl t).drop x.2) = sm ((s % 4294967296).toNat ^^^ 4294967295) (bl t)) (fun x => t.size - x.2) (_, 0) ?_ ⟨xlt h0 (by decide), by omega, rfl⟩ ?_
  · (simp (disch := first | omega | (simp only [LN, numOk, verOk] <;> omega) | exact Ck.mk rfl) only [SB, EQ, Nat.reduceMul, Nat.reduceAdd, Nat.reduceSub, Nat.reduceLT, Nat.reduceEqDiff, Nat.reduceLeDiff, Nat.reduceBEq, reduceCtorEq, Int.reduceToNat, ↓reduceIte]; try omega)
  · rintro ⟨x, i⟩ ⟨h1, h2, h3⟩ N hN
    simp only at h1 h2 h3
    have hb := bl_getD_lt t i
    refine Wr.go ?_
    repeat' ((first | (have ee := True.intro; refine Wr.mk ?_) | ((first | refine br_go ?_ ?_ | refine pick_go ?_ ?_) <;> intro ee f <;> (try simp only [BB] at f) <;> (try simp only [numOk, verOk] at f)) | (have ee := True.intro; first | refine call_x (spec_SumByte x ((bl t).getD i 0) h1 hb) rfl ⟨rfl⟩ ?_)) <;> (try simp (maxSteps := 1000000) (disch := first | omega | (simp only [LN, numOk, verOk, bt_bl t] <;> omega) | exact Ck.mk rfl) only [ee, VC, T, Nat.reduceMul, Nat.reduceAdd, Nat.reduceSub, Nat.reduceLT, Nat.reduceEqDiff, Nat.reduceLeDiff, Nat.reduceBEq, reduceCtorEq, Int.reduceToNat, ↓reduceIte, bt_bl t]) <;> (try clear ee))
    · refine hN (sb x ((bl t).getD i 0), i + 1) _ ⟨sb_lt h1 (by omega), by simp; omega, ?_⟩ (by simp; omega) ?_
      · rw [← h3, bl_drop t i (by omega)]; rfl
      · (simp (disch := first | omega | (simp only [LN, numOk, verOk] <;> omega) | exact Ck.mk rfl) only [SB, EQ, Nat.reduceMul, Nat.reduceAdd, Nat.reduceSub, Nat.reduceLT, Nat.reduceEqDiff, Nat.reduceLeDiff, Nat.reduceBEq, reduceCtorEq, Int.reduceToNat, ↓reduceIte]; try omega)
    · obtain rfl : i = t.size := by omega
      rw [List.drop_of_length_le (by rw [bl_length]; omega)] at h3
      simp only [EQ]
      unfold sumMore
      rw [← h3]
      exact xor64c x 4294967295 4294967295 rfl h1 (by decide)
theorem spec_SumOf (t : ByteArray) (ht : t.size ≤ 140737488355328) : Fn Tryz.prog 73 [.str t] [] (.int .i64 (sumOf t)) [] := by
  refine fn_x tok (n := 5) (rs := [.tmp 2]) Tryz.func73 (by decide) rfl rfl rfl rfl ?_
  refine Wr.go ?_
  repeat' ((first | (have ee := True.intro; refine Wr.mk ?_) | ((first | refine br_go ?_ ?_ | refine pick_go ?_ ?_) <;> intro ee f <;> (try simp only [BB] at f) <;> (try simp only [numOk, verOk] at f)) | (have ee := True.intro; first | refine call_x (spec_SumMore _ _ ht) rfl ⟨rfl⟩ ?_)) <;> (try simp (maxSteps := 1000000) (disch := first | omega | (simp only [LN, numOk, verOk] <;> omega) | exact Ck.mk rfl) only [ee, VC, T, Nat.reduceMul, Nat.reduceAdd, Nat.reduceSub, Nat.reduceLT, Nat.reduceEqDiff, Nat.reduceLeDiff, Nat.reduceBEq, reduceCtorEq, Int.reduceToNat, ↓reduceIte]) <;> (try clear ee))
  all_goals rfl
theorem impl_sumByte (s b : Nat) (hs : s < 4294967296) (hb : b < 256) : Fn Tryz.prog 168 [.int .u32 s, .int .u8 b] [] (.int .u32 (sb s b : Nat)) [] := by
  have e1 : (b : Int) % 4294967296 = (b : Int) := by omega
  refine fn_x tok (n := 22) (rs := [.tmp 4]) Tryz.func168 (by decide) rfl rfl rfl rfl ?_
  refine Wr.go ?_
  repeat' ((first | (have ee := True.intro; refine Wr.mk ?_) | ((first | refine br_go ?_ ?_ | refine pick_go ?_ ?_) <;> intro ee f <;> (try simp only [BB] at f) <;> (try simp only [numOk, verOk] at f))) <;> (try simp (maxSteps := 1000000) (disch := first | omega | (simp only [LN, numOk, verOk, e1, xor32 s b hs (by omega)] <;> omega) | exact Ck.mk rfl) only [ee, VC, T, Nat.reduceMul, Nat.reduceAdd, Nat.reduceSub, Nat.reduceLT, Nat.reduceEqDiff, Nat.reduceLeDiff, Nat.reduceBEq, reduceCtorEq, Int.reduceToNat, ↓reduceIte, e1, xor32 s b hs (by omega)]) <;> (try clear ee))
  refine lp_go (fun x : Nat × Nat => ⟨22, [(0, .int .u32 x.1), (10, .int .i64 (8 - x.2 : Int))], []⟩) (fun x => x.1 < 4294967296 ∧ x.2 ≤ 8 ∧ stps x.2 x.1 = sb s b) (fun x => x.2) (s ^^^ b, 8) ?_ ⟨xlt hs (by omega), by omega, rfl⟩ ?_
  · (simp (disch := first | omega | (simp only [LN, numOk, verOk] <;> omega) | exact Ck.mk rfl) only [SB, EQ, Nat.reduceMul, Nat.reduceAdd, Nat.reduceSub, Nat.reduceLT, Nat.reduceEqDiff, Nat.reduceLeDiff, Nat.reduceBEq, reduceCtorEq, Int.reduceToNat, ↓reduceIte]; try omega)
  · rintro ⟨x, d⟩ ⟨h1, h2, h3⟩ N hN
    have hx := xor32c (x / 2) 2197175160 2197175160 rfl (by omega) (by decide)
    have hh : shr .u32 (x : Int) 1 = ((x / 2 : Nat) : Int) := by
      unfold shr
      rw [Int.fdiv_eq_ediv_of_nonneg _ (by decide)]
      show (x : Int) / 2 = _
      omega
    refine Wr.go ?_
    repeat' ((first | (have ee := True.intro; refine Wr.mk ?_) | ((first | refine br_go ?_ ?_ | refine pick_go ?_ ?_) <;> intro ee f <;> (try simp only [BB] at f) <;> (try simp only [numOk, verOk] at f))) <;> (try simp (maxSteps := 1000000) (disch := first | omega | (simp only [LN, numOk, verOk, and32_1 x h1, hh, hx] <;> omega) | exact Ck.mk rfl) only [ee, VC, T, Nat.reduceMul, Nat.reduceAdd, Nat.reduceSub, Nat.reduceLT, Nat.reduceEqDiff, Nat.reduceLeDiff, Nat.reduceBEq, reduceCtorEq, Int.reduceToNat, ↓reduceIte, and32_1 x h1, hh, hx]) <;> (try clear ee))
    · obtain ⟨d, rfl⟩ : ∃ e, d = e + 1 := ⟨d - 1, by omega⟩
      refine hN (stp x, d) _ ⟨stp_lt h1, by omega, by rw [← sb_step]; exact h3⟩ (by simp) ?_
      unfold stp
      rw [if_pos (by omega)]
      (simp (disch := first | omega | (simp only [LN, numOk, verOk] <;> omega) | exact Ck.mk rfl) only [SB, EQ, Nat.reduceMul, Nat.reduceAdd, Nat.reduceSub, Nat.reduceLT, Nat.reduceEqDiff, Nat.reduceLeDiff, Nat.reduceBEq, reduceCtorEq, Int.reduceToNat, ↓reduceIte]; try omega)
    · obtain ⟨d, rfl⟩ : ∃ e, d = e + 1 := ⟨d - 1, by omega⟩
      refine hN (stp x, d) _ ⟨stp_lt h1, by omega, by rw [← sb_step]; exact h3⟩ (by simp) ?_
      unfold stp
      rw [if_neg (by omega)]
      (simp (disch := first | omega | (simp only [LN, numOk, verOk] <;> omega) | exact Ck.mk rfl) only [SB, EQ, Nat.reduceMul, Nat.reduceAdd, Nat.reduceSub, Nat.reduceLT, Nat.reduceEqDiff, Nat.reduceLeDiff, Nat.reduceBEq, reduceCtorEq, Int.reduceToNat, ↓reduceIte]; try omega)
    · obtain rfl : d = 0 := by omega
      simp only [EQ]
      rw [← h3]; rfl
theorem impl_SumMore (s : Int) (t : ByteArray) (ht : t.size ≤ 140737488355328) : Fn Tryz.prog 133 [.int .i64 s, .str t] [] (.int .i64 (sumMore s t)) [] := by
  have h0 : (s % 4294967296).toNat < 4294967296 := by omega
  have e0 : s % 4294967296 = ((s % 4294967296).toNat : Nat) := by omega
  have e1 := xor32c _ 4294967295 4294967295 rfl h0 (by decide)
  rw [← e0] at e1
  refine fn_x tok (n := 24) (rs := [.tmp 4]) Tryz.func133 (by decide) rfl rfl rfl rfl ?_
  refine Wr.go ?_
  repeat' ((first | (have ee := True.intro; refine Wr.mk ?_) | ((first | refine br_go ?_ ?_ | refine pick_go ?_ ?_) <;> intro ee f <;> (try simp only [BB] at f) <;> (try simp only [numOk, verOk] at f))) <;> (try simp (maxSteps := 1000000) (disch := first | omega | (simp only [LN, numOk, verOk, e1] <;> omega) | exact Ck.mk rfl) only [ee, VC, T, Nat.reduceMul, Nat.reduceAdd, Nat.reduceSub, Nat.reduceLT, Nat.reduceEqDiff, Nat.reduceLeDiff, Nat.reduceBEq, reduceCtorEq, Int.reduceToNat, ↓reduceIte, e1]) <;> (try clear ee))
  refine lp_go (fun x : Nat × Nat => ⟨24, [(5, .int .u32 x.1), (1, .str t), (11, .int .i64 t.size), (12, .int .i64 x.2)], []⟩) (fun x => x.1 < 4294967296 ∧ x.2 ≤ t.size ∧ sm x.1 ((bl t).drop x.2) = sm ((s % 4294967296).toNat ^^^ 4294967295) (bl t)) (fun x => t.size - x.2) (_, 0) ?_ ⟨xlt h0 (by decide), by omega, rfl⟩ ?_
  · (simp (disch := first | omega | (simp only [LN, numOk, verOk] <;> omega) | exact Ck.mk rfl) only [SB, EQ, Nat.reduceMul, Nat.reduceAdd, Nat.reduceSub, Nat.reduceLT, Nat.reduceEqDiff, Nat.reduceLeDiff, Nat.reduceBEq, reduceCtorEq, Int.reduceToNat, ↓reduceIte]; try omega)
  · rintro ⟨x, i⟩ ⟨h1, h2, h3⟩ N hN
    simp only at h1 h2 h3
    have hb := bl_getD_lt t i
    refine Wr.go ?_
    repeat' ((first | (have ee := True.intro; refine Wr.mk ?_) | ((first | refine br_go ?_ ?_ | refine pick_go ?_ ?_) <;> intro ee f <;> (try simp only [BB] at f) <;> (try simp only [numOk, verOk] at f)) | (have ee := True.intro; first | refine call_x (impl_sumByte x ((bl t).getD i 0) h1 hb) rfl ⟨rfl⟩ ?_)) <;> (try simp (maxSteps := 1000000) (disch := first | omega | (simp only [LN, numOk, verOk, bt_bl t] <;> omega) | exact Ck.mk rfl) only [ee, VC, T, Nat.reduceMul, Nat.reduceAdd, Nat.reduceSub, Nat.reduceLT, Nat.reduceEqDiff, Nat.reduceLeDiff, Nat.reduceBEq, reduceCtorEq, Int.reduceToNat, ↓reduceIte, bt_bl t]) <;> (try clear ee))
    · refine hN (sb x ((bl t).getD i 0), i + 1) _ ⟨sb_lt h1 (by omega), by simp; omega, ?_⟩ (by simp; omega) ?_
      · rw [← h3, bl_drop t i (by omega)]; rfl
      · (simp (disch := first | omega | (simp only [LN, numOk, verOk] <;> omega) | exact Ck.mk rfl) only [SB, EQ, Nat.reduceMul, Nat.reduceAdd, Nat.reduceSub, Nat.reduceLT, Nat.reduceEqDiff, Nat.reduceLeDiff, Nat.reduceBEq, reduceCtorEq, Int.reduceToNat, ↓reduceIte]; try omega)
    · obtain rfl : i = t.size := by omega
      rw [List.drop_of_length_le (by rw [bl_length]; omega)] at h3
      simp only [EQ]
      have e2 := xor32c x 4294967295 4294967295 rfl h1 (by decide)
      have e3 := xlt h1 (by decide : 4294967295 < 4294967296)
      unfold sumMore
      rw [← h3]
      rw [e2, wr63 _ (by omega) (by omega)]
      rfl
theorem impl_SumOf (t : ByteArray) (ht : t.size ≤ 140737488355328) : Fn Tryz.prog 94 [.str t] [] (.int .i64 (sumOf t)) [] := by
  refine fn_x tok (n := 5) (rs := [.tmp 2]) Tryz.func94 (by decide) rfl rfl rfl rfl ?_
  refine Wr.go ?_
  repeat' ((first | (have ee := True.intro; refine Wr.mk ?_) | ((first | refine br_go ?_ ?_ | refine pick_go ?_ ?_) <;> intro ee f <;> (try simp only [BB] at f) <;> (try simp only [numOk, verOk] at f)) | (have ee := True.intro; first | refine call_x (impl_SumMore _ _ ht) rfl ⟨rfl⟩ ?_)) <;> (try simp (maxSteps := 1000000) (disch := first | omega | (simp only [LN, numOk, verOk] <;> omega) | exact Ck.mk rfl) only [ee, VC, T, Nat.reduceMul, Nat.reduceAdd, Nat.reduceSub, Nat.reduceLT, Nat.reduceEqDiff, Nat.reduceLeDiff, Nat.reduceBEq, reduceCtorEq, Int.reduceToNat, ↓reduceIte]) <;> (try clear ee))
  all_goals rfl
end Go.Pv

/- What functions of the program and of the reference do, in plain values. -/
namespace Go.Pv
open Go.Proofs Go.Mth
set_option linter.unusedSimpArgs false
set_option linter.unusedVariables false
set_option maxHeartbeats 4000000
set_option maxRecDepth 4000

/-! ### numbers in so many bytes, and in as few as can be -/
theorem shr8 (n : Int) : shr .i64 n 8 = n / 256 := by
  unfold shr
  rw [Int.fdiv_eq_ediv_of_nonneg _ (by decide)]; rfl
theorem shr7 (n : Int) : shr .i64 n 7 = n / 128 := by
  unfold shr
  rw [Int.fdiv_eq_ediv_of_nonneg _ (by decide)]; rfl
theorem shr_pow (n : Int) (d : Nat) (h : d ≤ 8) : shr .i64 n (8 * (d : Int)) = n / 256 ^ d := by
  unfold shr
  rw [show (8 * (d : Int)).toNat = 8 * d by omega, show IntKind.bits .i64 = 64 from rfl, Nat.min_eq_left (by omega), Int.pow_mul, Int.fdiv_eq_ediv_of_nonneg _ (Int.pow_nonneg (by decide))]
  rfl
theorem div_pow (n : Int) (i : Nat) : n / 256 ^ i / 256 = n / 256 ^ (i + 1) := by
  rw [Int.ediv_ediv_of_nonneg (Int.pow_nonneg (by decide)), Int.pow_succ]
def bytesOk (l : List Int) : Prop := ∀ x ∈ l, 0 ≤ x ∧ x < 256
theorem fixL_byte (d : Nat) (n : Int) : ∀ x ∈ fixL d n, 0 ≤ x ∧ x < 256 := fun x hx => by have := fixL_range d n x hx; omega
theorem spec_FixText (n wd : Int) (hn : n < 9223372036854775808) : Fn Tryz.prog 102 [.int .i64 n, .int .i64 wd] [] (.str (fixT n wd)) [] := by
  refine fn_x tok (n := 31) (rs := [.tmp 4]) Tryz.func102 (by decide) rfl rfl rfl rfl ?_
  refine Wr.go ?_
  repeat' ((first | (have ee := True.intro; refine Wr.mk ?_) | ((first | refine br_go ?_ ?_ | refine pick_go ?_ ?_) <;> intro ee f <;> (try simp only [BB] at f) <;> (try simp only [numOk, verOk] at f)) | (have ee := True.intro; first | refine call_x (spec_l01In _ _ _) rfl ⟨rfl⟩ ?_)) <;> (try simp (maxSteps := 1000000) (disch := first | omega | (simp only [LN, numOk, verOk] <;> omega) | exact Ck.mk rfl) only [ee, VC, T, Nat.reduceMul, Nat.reduceAdd, Nat.reduceSub, Nat.reduceLT, Nat.reduceEqDiff, Nat.reduceLeDiff, Nat.reduceBEq, reduceCtorEq, Int.reduceToNat, ↓reduceIte]) <;> (try clear ee))
  · exact congrArg PV.str (by unfold fixT; rw [if_pos (by omega)])
  · refine lp_go (fun i : Nat => ⟨31, [(0, .int .i64 (n / 256 ^ i)), (1, .int .i64 wd), (5, .row 960 i), (6, .int .i64 i)], [(960, .row ⟨1, 0⟩ ((fixL i n).map (.int .u8)))]⟩) (fun i => i ≤ wd.toNat) (fun i => wd.toNat - i) 0 ?_ (by omega) ?_
    · (simp (disch := first | omega | (simp only [LN, numOk, verOk] <;> omega) | exact Ck.mk rfl) only [SB, EQ, Nat.reduceMul, Nat.reduceAdd, Nat.reduceSub, Nat.reduceLT, Nat.reduceEqDiff, Nat.reduceLeDiff, Nat.reduceBEq, reduceCtorEq, Int.reduceToNat, ↓reduceIte]; try omega)
      simp [fixL]
    · intro i hi N hN
      refine Wr.go ?_
      repeat' ((first | (have ee := True.intro; refine Wr.mk ?_) | ((first | refine br_go ?_ ?_ | refine pick_go ?_ ?_) <;> intro ee f <;> (try simp only [BB] at f) <;> (try simp only [numOk, verOk] at f))) <;> (try simp (maxSteps := 1000000) (disch := first | omega | (simp only [LN, numOk, verOk, fixL_length, shr8] <;> omega) | exact Ck.mk rfl) only [ee, VC, T, Nat.reduceMul, Nat.reduceAdd, Nat.reduceSub, Nat.reduceLT, Nat.reduceEqDiff, Nat.reduceLeDiff, Nat.reduceBEq, reduceCtorEq, Int.reduceToNat, ↓reduceIte, fixL_length, shr8]) <;> (try clear ee))
      · refine hN (i + 1) _ (by omega) (by omega) ?_
        (simp (disch := first | omega | (simp only [LN, numOk, verOk] <;> omega) | exact Ck.mk rfl) only [SB, EQ, Nat.reduceMul, Nat.reduceAdd, Nat.reduceSub, Nat.reduceLT, Nat.reduceEqDiff, Nat.reduceLeDiff, Nat.reduceBEq, reduceCtorEq, Int.reduceToNat, ↓reduceIte]; try omega)
        rw [fixL_snoc, div_pow]
        simp
      · simp only [EQ]
        obtain rfl : i = wd.toNat := by omega
        unfold fixT
        rw [if_pos (by omega)]
      · refine ⟨fixL_byte _ _, ?_⟩
        simp only [EQ]
        obtain rfl : i = wd.toNat := by omega
        unfold fixT
        rw [if_neg (by omega)]
  · exact congrArg PV.str (by unfold fixT; rw [if_pos (by omega)])
theorem fix_row (n : Int) (i w : Nat) (h : i < w) : (fixL i n ++ List.replicate (w - i) 0).set i (n / 256 ^ i % 256) = fixL (i + 1) n ++ List.replicate (w - (i + 1)) 0 := by
  obtain ⟨d, e⟩ : ∃ d, w - i = d + 1 := ⟨w - i - 1, by omega⟩
  rw [e, show w - (i + 1) = d by omega, List.set_append_right _ _ (by rw [fixL_length]; omega), fixL_length, Nat.sub_self, List.replicate_succ, fixL_snoc]
  simp
theorem impl_FixText (n wd : Int) (hn : n < 9223372036854775808) : Fn Tryz.prog 132 [.int .i64 n, .int .i64 wd] [] (.str (fixT n wd)) [] := by
  have hsh : 1 ≤ wd → wd ≤ 8 → shr .i64 n (8 * wd) = n / 256 ^ wd.toNat := fun h1 h2 => by
    rw [← shr_pow n wd.toNat (by omega), show ((wd.toNat : Nat) : Int) = wd by omega]
  have h8 : wd = 8 → 0 ≤ n → n / 256 ^ wd.toNat = 0 := fun h h0 => by
    subst h
    rw [show (256 : Int) ^ (8 : Int).toNat = 18446744073709551616 by decide]
    omega
  have hnn : 0 ≤ n → 0 ≤ n / 256 ^ wd.toNat := fun h0 => Int.ediv_nonneg h0 (Int.pow_nonneg (by decide))
  refine fn_x tok (n := 43) (rs := [.tmp 4]) Tryz.func132 (by decide) rfl rfl rfl rfl ?_
  refine Wr.go ?_
  repeat' ((first | (have ee := True.intro; refine Wr.mk ?_) | ((first | refine br_go ?_ ?_ | refine pick_go ?_ ?_) <;> intro ee f <;> (try simp only [BB] at f) <;> (try simp only [numOk, verOk] at f)) | (have ee := True.intro; first | refine call_x (impl_within _ _ _) rfl ⟨rfl⟩ ?_)) <;> (try simp (maxSteps := 1000000) (disch := first | omega | (simp only [LN, numOk, verOk] <;> omega) | exact Ck.mk rfl) only [ee, VC, T, Nat.reduceMul, Nat.reduceAdd, Nat.reduceSub, Nat.reduceLT, Nat.reduceEqDiff, Nat.reduceLeDiff, Nat.reduceBEq, reduceCtorEq, Int.reduceToNat, ↓reduceIte]) <;> (try clear ee))
  all_goals first
    | exact congrArg PV.str (by unfold fixT; rw [if_pos (by omega)])
    | skip
  all_goals
    have hz : n / 256 ^ wd.toNat = 0 := by omega
    refine lp_go (fun i : Nat => ⟨43, [(0, .int .i64 n), (5, .row 1728 wd.toNat), (28, .int .i64 wd.toNat), (29, .int .i64 i)], [(1728, .row ⟨1, 0⟩ ((fixL i n ++ List.replicate (wd.toNat - i) 0).map (.int .u8)))]⟩) (fun i => i ≤ wd.toNat) (fun i => wd.toNat - i) 0 ?_ (by omega) ?_
    · (simp (disch := first | omega | (simp only [LN, numOk, verOk] <;> omega) | exact Ck.mk rfl) only [SB, EQ, Nat.reduceMul, Nat.reduceAdd, Nat.reduceSub, Nat.reduceLT, Nat.reduceEqDiff, Nat.reduceLeDiff, Nat.reduceBEq, reduceCtorEq, Int.reduceToNat, ↓reduceIte]; try omega)
      simp [fixL]
    · intro i hi N hN
      refine Wr.go ?_
      repeat' ((first | (have ee := True.intro; refine Wr.mk ?_) | ((first | refine br_go ?_ ?_ | refine pick_go ?_ ?_) <;> intro ee f <;> (try simp only [BB] at f) <;> (try simp only [numOk, verOk] at f))) <;> (try simp (maxSteps := 1000000) (disch := first | omega | (simp only [LN, numOk, verOk, fixL_length, shr_pow, fix_row] <;> omega) | exact Ck.mk rfl) only [ee, VC, T, Nat.reduceMul, Nat.reduceAdd, Nat.reduceSub, Nat.reduceLT, Nat.reduceEqDiff, Nat.reduceLeDiff, Nat.reduceBEq, reduceCtorEq, Int.reduceToNat, ↓reduceIte, fixL_length, shr_pow, fix_row]) <;> (try clear ee))
      · refine hN (i + 1) _ (by omega) (by omega) ?_
        (simp (disch := first | omega | (simp only [LN, numOk, verOk] <;> omega) | exact Ck.mk rfl) only [SB, EQ, Nat.reduceMul, Nat.reduceAdd, Nat.reduceSub, Nat.reduceLT, Nat.reduceEqDiff, Nat.reduceLeDiff, Nat.reduceBEq, reduceCtorEq, Int.reduceToNat, ↓reduceIte]; try omega)
      · obtain rfl : i = wd.toNat := by omega
        rw [Nat.sub_self, List.replicate_zero, List.append_nil]
        refine ⟨fixL_byte _ _, congrArg PV.str ?_⟩
        unfold fixT
        rw [if_neg (by omega)]
theorem spec_VarText (n : Int) : Fn Tryz.prog 107 [.int .i64 n] [] (.str (varT n)) [] := by
  refine fn_x tok (n := 25) (rs := [.tmp 2]) Tryz.func107 (by decide) rfl rfl rfl rfl ?_
  refine Wr.go ?_
  repeat' ((first | (have ee := True.intro; refine Wr.mk ?_) | ((first | refine br_go ?_ ?_ | refine pick_go ?_ ?_) <;> intro ee f <;> (try simp only [BB] at f) <;> (try simp only [numOk, verOk] at f)) | (have ee := True.intro; first | refine call_x (spec_l01In _ _ _) rfl ⟨rfl⟩ ?_)) <;> (try simp (maxSteps := 1000000) (disch := first | omega | (simp only [LN, numOk, verOk] <;> omega) | exact Ck.mk rfl) only [ee, VC, T, Nat.reduceMul, Nat.reduceAdd, Nat.reduceSub, Nat.reduceLT, Nat.reduceEqDiff, Nat.reduceLeDiff, Nat.reduceBEq, reduceCtorEq, Int.reduceToNat, ↓reduceIte]) <;> (try clear ee))
  · refine lp_go (fun x : Nat × Int × List Int => ⟨25, [(0, .int .i64 x.2.1), (3, .row 512 x.2.2.length)], [(512, .row ⟨1, 0⟩ (x.2.2.map (.int .u8)))]⟩) (fun x => 0 ≤ x.2.1 ∧ x.2.1 < 128 ^ (x.1 + 1) ∧ x.2.2.length + x.1 = 4 ∧ x.2.2 ++ varL x.1 x.2.1 = varL 4 n ∧ bytesOk x.2.2) (fun x => x.1) (4, n, []) ?_ ⟨(by simp only; omega), (by simp only; omega), rfl, rfl, fun _ h => absurd h (by simp)⟩ ?_
    · (simp (disch := first | omega | (simp only [LN, numOk, verOk] <;> omega) | exact Ck.mk rfl) only [SB, EQ, Nat.reduceMul, Nat.reduceAdd, Nat.reduceSub, Nat.reduceLT, Nat.reduceEqDiff, Nat.reduceLeDiff, Nat.reduceBEq, reduceCtorEq, Int.reduceToNat, ↓reduceIte]; try omega)
    · rintro ⟨d, m, l⟩ ⟨h1, h2, h3, h4, h5⟩ N hN
      simp only at h1 h2 h3 h4
      refine Wr.go ?_
      repeat' ((first | (have ee := True.intro; refine Wr.mk ?_) | ((first | refine br_go ?_ ?_ | refine pick_go ?_ ?_) <;> intro ee f <;> (try simp only [BB] at f) <;> (try simp only [numOk, verOk] at f))) <;> (try simp (maxSteps := 1000000) (disch := first | omega | (simp only [LN, numOk, verOk, or64, shr7] <;> omega) | exact Ck.mk rfl) only [ee, VC, T, Nat.reduceMul, Nat.reduceAdd, Nat.reduceSub, Nat.reduceLT, Nat.reduceEqDiff, Nat.reduceLeDiff, Nat.reduceBEq, reduceCtorEq, Int.reduceToNat, ↓reduceIte, or64, shr7]) <;> (try clear ee))
      · obtain ⟨d, rfl⟩ : ∃ e, d = e + 1 := by
          cases d with
          | zero => omega
          | succ d => exact ⟨d, rfl⟩
        refine hN (d, m / 128, l ++ [m % 128 + 128]) _ ⟨(by simp only; omega), (by rw [Int.pow_succ] at h2; simp only; omega), (by simp; omega), ?_, ?_⟩ (by simp) ?_
        · rw [← h4, varL_gt d m (by omega), List.append_assoc]; rfl
        · intro x hx
          rcases List.mem_append.1 hx with hx | hx
          · exact h5 x hx
          · rw [List.mem_singleton.1 hx]; omega
        · (simp (disch := first | omega | (simp only [LN, numOk, verOk] <;> omega) | exact Ck.mk rfl) only [SB, EQ, Nat.reduceMul, Nat.reduceAdd, Nat.reduceSub, Nat.reduceLT, Nat.reduceEqDiff, Nat.reduceLeDiff, Nat.reduceBEq, reduceCtorEq, Int.reduceToNat, ↓reduceIte]; try omega)
      · rw [show varL d m = [m % 256] by cases d with | zero => rfl | succ d => exact varL_ngt d m (by omega)] at h4
        refine ⟨fun x hx => ?_, congrArg PV.str ?_⟩
        · rcases List.mem_append.1 hx with hx | hx
          · exact h5 x hx
          · rw [List.mem_singleton.1 hx]; omega
        · unfold varT
          rw [if_neg (by omega), h4]
  · exact congrArg PV.str (by unfold varT; rw [if_pos (by omega)])
theorem impl_VarText (n : Int) : Fn Tryz.prog 130 [.int .i64 n] [] (.str (varT n)) [] := by
  refine fn_x tok (n := 24) (rs := [.tmp 2]) Tryz.func130 (by decide) rfl rfl rfl rfl ?_
  refine Wr.go ?_
  repeat' ((first | (have ee := True.intro; refine Wr.mk ?_) | ((first | refine br_go ?_ ?_ | refine pick_go ?_ ?_) <;> intro ee f <;> (try simp only [BB] at f) <;> (try simp only [numOk, verOk] at f)) | (have ee := True.intro; first | refine call_x (impl_isNumber _) rfl ⟨rfl⟩ ?_)) <;> (try simp (maxSteps := 1000000) (disch := first | omega | (simp only [LN, numOk, verOk] <;> omega) | exact Ck.mk rfl) only [ee, VC, T, Nat.reduceMul, Nat.reduceAdd, Nat.reduceSub, Nat.reduceLT, Nat.reduceEqDiff, Nat.reduceLeDiff, Nat.reduceBEq, reduceCtorEq, Int.reduceToNat, ↓reduceIte]) <;> (try clear ee))
  · refine lp_go (fun x : Nat × Int × List Int => ⟨24, [(0, .int .i64 x.2.1), (3, .row 512 x.2.2.length)], [(512, .row ⟨1, 0⟩ (x.2.2.map (.int .u8)))]⟩) (fun x => 0 ≤ x.2.1 ∧ x.2.1 < 128 ^ (x.1 + 1) ∧ x.2.2.length + x.1 = 4 ∧ x.2.2 ++ varL x.1 x.2.1 = varL 4 n ∧ bytesOk x.2.2) (fun x => x.1) (4, n, []) ?_ ⟨(by simp only; omega), (by simp only; omega), rfl, rfl, fun _ h => absurd h (by simp)⟩ ?_
    · (simp (disch := first | omega | (simp only [LN, numOk, verOk] <;> omega) | exact Ck.mk rfl) only [SB, EQ, Nat.reduceMul, Nat.reduceAdd, Nat.reduceSub, Nat.reduceLT, Nat.reduceEqDiff, Nat.reduceLeDiff, Nat.reduceBEq, reduceCtorEq, Int.reduceToNat, ↓reduceIte]; try omega)
    · rintro ⟨d, m, l⟩ ⟨h1, h2, h3, h4, h5⟩ N hN
      simp only at h1 h2 h3 h4
      refine Wr.go ?_
      repeat' ((first | (have ee := True.intro; refine Wr.mk ?_) | ((first | refine br_go ?_ ?_ | refine pick_go ?_ ?_) <;> intro ee f <;> (try simp only [BB] at f) <;> (try simp only [numOk, verOk] at f))) <;> (try simp (maxSteps := 1000000) (disch := first | omega | (simp only [LN, numOk, verOk, orU8, shr7] <;> omega) | exact Ck.mk rfl) only [ee, VC, T, Nat.reduceMul, Nat.reduceAdd, Nat.reduceSub, Nat.reduceLT, Nat.reduceEqDiff, Nat.reduceLeDiff, Nat.reduceBEq, reduceCtorEq, Int.reduceToNat, ↓reduceIte, orU8, shr7]) <;> (try clear ee))
      · obtain ⟨d, rfl⟩ : ∃ e, d = e + 1 := by
          cases d with
          | zero => omega
          | succ d => exact ⟨d, rfl⟩
        refine hN (d, m / 128, l ++ [m % 128 + 128]) _ ⟨(by simp only; omega), (by rw [Int.pow_succ] at h2; simp only; omega), (by simp; omega), ?_, ?_⟩ (by simp) ?_
        · rw [← h4, varL_gt d m (by omega), List.append_assoc]; rfl
        · intro x hx
          rcases List.mem_append.1 hx with hx | hx
          · exact h5 x hx
          · rw [List.mem_singleton.1 hx]; omega
        · (simp (disch := first | omega | (simp only [LN, numOk, verOk] <;> omega) | exact Ck.mk rfl) only [SB, EQ, Nat.reduceMul, Nat.reduceAdd, Nat.reduceSub, Nat.reduceLT, Nat.reduceEqDiff, Nat.reduceLeDiff, Nat.reduceBEq, reduceCtorEq, Int.reduceToNat, ↓reduceIte]; try omega)
      · rw [show varL d m = [m % 256] by cases d with | zero => rfl | succ d => exact varL_ngt d m (by omega)] at h4
        refine ⟨fun x hx => ?_, congrArg PV.str ?_⟩
        · rcases List.mem_append.1 hx with hx | hx
          · exact h5 x hx
          · rw [List.mem_singleton.1 hx]; omega
        · unfold varT
          rw [if_neg (by omega), h4]
  · exact congrArg PV.str (by unfold varT; rw [if_pos (by omega)])
end Go.Pv

/- What functions of the program and of the reference do, in plain values. -/
namespace Go.Pv
open Go.Proofs Go.Mth
set_option linter.unusedSimpArgs false
set_option linter.unusedVariables false
set_option maxHeartbeats 4000000
set_option maxRecDepth 4000

/-! ### numbers read -/
theorem wsmall (n : Int) (h0 : -9223372036854775808 ≤ n) (h1 : n < 9223372036854775808) : IntKind.i64.wrap n = n := by rw [IntKind.wrap_i64]; omega
theorem acc_or (b : ByteArray) (a i : Nat) (hi : i ≤ 4) (h : a + i < b.size) :
    Go.bits .or .i64 (acc (seg b a i)) (shl .i64 (bt b ((a : Int) + i) % 128) (7 * (i : Int))) = acc (seg b a (i + 1)) := by
  have hl := seg_length b a i (by omega)
  have hr := acc_range (seg b a i)
  rw [hl] at hr
  have hp : (128 : Int) ^ i = 2 ^ (7 * i) := by rw [Int.pow_mul]; rfl
  rw [hp] at hr
  have h28 : (2 : Int) ^ (7 * i) ≤ 2 ^ 28 := by exact_mod_cast Nat.pow_le_pow_right (by decide : 0 < 2) (by omega : 7 * i ≤ 28)
  rw [← Int.natCast_add, shl7 _ i hi (by omega) (by omega), or_low (7 * i) _ _ hr.1 hr.2 (by omega) (by
    have h4 : bt b ((a + i : Nat) : Int) % 128 * 2 ^ (7 * i) ≤ 127 * 2 ^ 28 := Int.mul_le_mul (by omega) h28 (Int.pow_nonneg (by decide)) (by decide)
    omega) (by omega), seg_snoc b a i h, acc_snoc, hl, hp]
def rvP (x : Int × Int × Bool) : PV := .tup [.int .i64 x.1, .int .i64 x.2.1, .bool x.2.2]
theorem impl_ReadVar (b : ByteArray) (hb : b.size ≤ 140737488355328) (a : Int) (ha0 : -9223372036854775808 ≤ a) (ha : a ≤ 9223372036854775807) : Fn Tryz.prog 156 [.str b, .int .i64 a] [] (rvP (rv b a)) [] := by
  refine fn_x tok (n := 53) (rs := [.tmp 4, .tmp 5, .tmp 6]) Tryz.func156 (by decide) rfl rfl rfl rfl ?_
  refine Wr.go ?_
  repeat' ((first | (have ee := True.intro; refine Wr.mk ?_) | ((first | refine br_go ?_ ?_ | refine pick_go ?_ ?_) <;> intro ee f <;> (try simp only [BB] at f) <;> (try simp only [numOk, verOk] at f))) <;> (try simp (maxSteps := 1000000) (disch := first | omega | (simp only [LN, numOk, verOk] <;> omega) | exact Ck.mk rfl) only [ee, VC, T, Nat.reduceMul, Nat.reduceAdd, Nat.reduceSub, Nat.reduceLT, Nat.reduceEqDiff, Nat.reduceLeDiff, Nat.reduceBEq, reduceCtorEq, Int.reduceToNat, ↓reduceIte]) <;> (try clear ee))
  refine lp_go (fun i : Nat => ⟨53, [(0, .str b), (1, .int .i64 a), (7, .int .i64 (if 0 ≤ a then acc (seg b a.toNat i) else 0)), (10, .int .i64 i)], []⟩) (fun i => i ≤ 5 ∧ (0 < i → 0 ≤ a ∧ a + i ≤ b.size) ∧ rv b a = if 0 ≤ a then rvI b a.toNat (5 - i) i else (0, 0, false)) (fun i => 5 - i) 0 ?_ ⟨by omega, fun h => by omega, by unfold rv; simp⟩ ?_
  · (simp (disch := first | omega | (simp only [LN, numOk, verOk] <;> omega) | exact Ck.mk rfl) only [SB, EQ, Nat.reduceMul, Nat.reduceAdd, Nat.reduceSub, Nat.reduceLT, Nat.reduceEqDiff, Nat.reduceLeDiff, Nat.reduceBEq, reduceCtorEq, Int.reduceToNat, ↓reduceIte]; try omega)
    split <;> simp [seg, acc]
  · rintro i ⟨h1, h2, h3⟩ N hN
    rw [h3]
    by_cases h0 : 0 ≤ a
    · obtain ⟨a, rfl⟩ := Int.eq_ofNat_of_zero_le h0
      simp only [Int.natCast_nonneg, if_true, Int.toNat_natCast] at *
      by_cases hi : i < 5
      · have he : rvI b a (5 - i) i = if a + i < b.size then (if bt b ((a : Int) + i) ≥ 128 then rvI b a (5 - (i + 1)) (i + 1) else if (0 < i ∧ bt b ((a : Int) + i) = 0) ∨ 1000000000 < acc (seg b a (i + 1)) then (0, 0, false) else (acc (seg b a (i + 1)), ((a + i + 1 : Nat) : Int), true)) else (0, 0, false) := by
          rw [show 5 - i = (5 - (i + 1)) + 1 by omega]; rfl
        rw [he]
        have hbr := bt_range b ((a : Int) + i)
        have hn0 := (acc_range (seg b a (i + 1))).1
        have hao := acc_or b a i (by omega)
        refine Wr.go ?_
        repeat' ((first | (have ee := True.intro; refine Wr.mk ?_) | ((first | refine br_go ?_ ?_ | refine pick_go ?_ ?_) <;> intro ee f <;> (try simp only [BB] at f) <;> (try simp only [numOk, verOk] at f)) | (have ee := True.intro; first | refine call_x (impl_within _ _ _) rfl ⟨rfl⟩ ?_ | refine call_x (impl_isNumber _) rfl ⟨rfl⟩ ?_)) <;> (try simp (maxSteps := 1000000) (disch := first | omega | (simp only [LN, numOk, verOk, and_127, wsmall, hao] <;> omega) | exact Ck.mk rfl) only [ee, VC, T, Nat.reduceMul, Nat.reduceAdd, Nat.reduceSub, Nat.reduceLT, Nat.reduceEqDiff, Nat.reduceLeDiff, Nat.reduceBEq, reduceCtorEq, Int.reduceToNat, ↓reduceIte, and_127, wsmall, hao]) <;> (try clear ee))
        · refine hN (i + 1) _ ⟨by omega, fun _ => ⟨trivial, by omega⟩, ?_⟩ (by omega) ?_
          · rw [h3, he, if_pos (by omega), if_pos (by omega)]
          · (simp (disch := first | omega | (simp only [LN, numOk, verOk] <;> omega) | exact Ck.mk rfl) only [SB, EQ, Nat.reduceMul, Nat.reduceAdd, Nat.reduceSub, Nat.reduceLT, Nat.reduceEqDiff, Nat.reduceLeDiff, Nat.reduceBEq, reduceCtorEq, Int.reduceToNat, ↓reduceIte]; try omega)
        all_goals (simp only [rvP]; (repeat' split) <;> first | (exfalso; omega) | (simp only [EQ] <;> omega))
      · obtain rfl : i = 5 := by omega
        refine Wr.go ?_
        repeat' ((first | (have ee := True.intro; refine Wr.mk ?_) | ((first | refine br_go ?_ ?_ | refine pick_go ?_ ?_) <;> intro ee f <;> (try simp only [BB] at f) <;> (try simp only [numOk, verOk] at f))) <;> (try simp (maxSteps := 1000000) (disch := first | omega | (simp only [LN, numOk, verOk] <;> omega) | exact Ck.mk rfl) only [ee, VC, T, Nat.reduceMul, Nat.reduceAdd, Nat.reduceSub, Nat.reduceLT, Nat.reduceEqDiff, Nat.reduceLeDiff, Nat.reduceBEq, reduceCtorEq, Int.reduceToNat, ↓reduceIte]) <;> (try clear ee))
        all_goals rfl
    · simp only [if_neg h0] at *
      obtain rfl : i = 0 := by omega
      refine Wr.go ?_
      repeat' ((first | (have ee := True.intro; refine Wr.mk ?_) | ((first | refine br_go ?_ ?_ | refine pick_go ?_ ?_) <;> intro ee f <;> (try simp only [BB] at f) <;> (try simp only [numOk, verOk] at f)) | (have ee := True.intro; first | refine call_x (impl_within _ _ _) rfl ⟨rfl⟩ ?_)) <;> (try simp (maxSteps := 1000000) (disch := first | omega | (simp only [LN, numOk, verOk] <;> omega) | exact Ck.mk rfl) only [ee, VC, T, Nat.reduceMul, Nat.reduceAdd, Nat.reduceSub, Nat.reduceLT, Nat.reduceEqDiff, Nat.reduceLeDiff, Nat.reduceBEq, reduceCtorEq, Int.reduceToNat, ↓reduceIte]) <;> (try clear ee))
      all_goals rfl
theorem spec_ReadVar (b : ByteArray) (hb : b.size ≤ 140737488355328) (a : Int) (ha0 : -9223372036854775808 ≤ a) (ha : a ≤ 9223372036854775807) : Fn Tryz.prog 136 [.str b, .int .i64 a] [] (rvP (rv b a)) [] := by
  refine fn_x tok (n := 64) (rs := [.tmp 4, .tmp 5, .tmp 6]) Tryz.func136 (by decide) rfl rfl rfl rfl ?_
  refine Wr.go ?_
  repeat' ((first | (have ee := True.intro; refine Wr.mk ?_) | ((first | refine br_go ?_ ?_ | refine pick_go ?_ ?_) <;> intro ee f <;> (try simp only [BB] at f) <;> (try simp only [numOk, verOk] at f)) | (have ee := True.intro; first | refine call_x (spec_l01In _ _ _) rfl ⟨rfl⟩ ?_)) <;> (try simp (maxSteps := 1000000) (disch := first | omega | (simp only [LN, numOk, verOk] <;> omega) | exact Ck.mk rfl) only [ee, VC, T, Nat.reduceMul, Nat.reduceAdd, Nat.reduceSub, Nat.reduceLT, Nat.reduceEqDiff, Nat.reduceLeDiff, Nat.reduceBEq, reduceCtorEq, Int.reduceToNat, ↓reduceIte]) <;> (try clear ee))
  · obtain ⟨a, rfl⟩ := Int.eq_ofNat_of_zero_le (show 0 ≤ a by omega)
    refine lp_go (fun i : Nat => ⟨64, [(0, .str b), (1, .int .i64 a), (7, .int .i64 (acc (seg b a i))), (8, .int .i64 i)], []⟩) (fun i => i ≤ 5 ∧ a + i ≤ b.size ∧ rv b a = rvI b a (5 - i) i ∧ (∀ y ∈ seg b a i, 128 ≤ y ∧ y ≤ 255)) (fun i => 5 - i) 0 ?_ ⟨by omega, by omega, by unfold rv; rw [if_pos (by omega)]; rfl, by unfold seg; simp⟩ ?_
    · (simp (disch := first | omega | (simp only [LN, numOk, verOk] <;> omega) | exact Ck.mk rfl) only [SB, EQ, Nat.reduceMul, Nat.reduceAdd, Nat.reduceSub, Nat.reduceLT, Nat.reduceEqDiff, Nat.reduceLeDiff, Nat.reduceBEq, reduceCtorEq, Int.reduceToNat, ↓reduceIte]; try omega)
      simp [seg, acc]
    · rintro i ⟨h1, h2, h3, h4⟩ N hN
      rw [h3]
      have hbr := bt_range b ((a : Int) + i)
      have hn0 := (acc_range (seg b a (i + 1))).1
      have hw : IntKind.u64.wrap (7 * (i : Int)) = 7 * (i : Int) := by rw [IntKind.wrap_u64]; omega
      have hao : i < 5 → a + i < b.size → _ := fun h5 hs => acc_or b a i (by omega) hs
      have he : i < 5 → rvI b a (5 - i) i = if a + i < b.size then (if bt b ((a : Int) + i) ≥ 128 then rvI b a (5 - (i + 1)) (i + 1) else if (0 < i ∧ bt b ((a : Int) + i) = 0) ∨ 1000000000 < acc (seg b a (i + 1)) then (0, 0, false) else (acc (seg b a (i + 1)), ((a + i + 1 : Nat) : Int), true)) else (0, 0, false) := fun h5 => by
        rw [show 5 - i = (5 - (i + 1)) + 1 by omega]; rfl
      have hz : (varT (acc (seg b a (i + 1)))).size = 0 ↔ 1000000000 < acc (seg b a (i + 1)) := by
        constructor
        · intro h
          rcases Int.lt_or_le 1000000000 (acc (seg b a (i + 1))) with h4 | h4
          · exact h4
          · have := varT_pos _ hn0 h4; omega
        · intro h
          unfold varT
          rw [if_pos (.inr h)]; rfl
      have hiff : i < 5 → a + i < b.size → bt b ((a : Int) + i) < 128 → acc (seg b a (i + 1)) ≤ 1000000000 → (varT (acc (seg b a (i + 1))) = b.extract a ((a : Int) + i + 1).toNat ↔ ¬ (0 < i ∧ bt b ((a : Int) + i) = 0)) := fun h5 hs hx hle => by
        rw [show ((a : Int) + i + 1).toNat = a + (i + 1) by omega]
        have hl := seg_length b a i (by omega)
        have hc := varL_canon (seg b a i) (bt b ((a : Int) + i)) (by omega) h4 hbr.1 (by omega)
        rw [← Int.natCast_add, ← seg_snoc b a i hs, hl] at hc
        rw [← Int.natCast_add, ← hc]
        have hv : varT (acc (seg b a (i + 1))) = strOf (varL 4 (acc (seg b a (i + 1)))) := by unfold varT; rw [if_neg (by omega)]
        constructor
        · intro h5
          have := congrArg bytesOf h5
          rw [hv, bytesOf_strOf _ (varL_range 4 _ hn0), extract_seg] at this
          exact this
        · intro h5
          apply bytesOf_inj
          rw [hv, bytesOf_strOf _ (varL_range 4 _ hn0), extract_seg]
          exact h5
      refine Wr.go ?_
      repeat' ((first | (have ee := True.intro; refine Wr.mk ?_) | ((first | refine br_go ?_ ?_ | refine pick_go ?_ ?_) <;> intro ee f <;> (try simp only [BB] at f) <;> (try simp only [numOk, verOk] at f)) | (have ee := True.intro; first | refine call_x (spec_VarText _) rfl ⟨rfl⟩ ?_)) <;> (try simp (maxSteps := 1000000) (disch := first | omega | (simp only [LN, numOk, verOk, and_127, wsmall, hao, hw] <;> omega) | exact Ck.mk rfl) only [ee, VC, T, Nat.reduceMul, Nat.reduceAdd, Nat.reduceSub, Nat.reduceLT, Nat.reduceEqDiff, Nat.reduceLeDiff, Nat.reduceBEq, reduceCtorEq, Int.reduceToNat, ↓reduceIte, and_127, wsmall, hao, hw]) <;> (try clear ee))
      · rw [he (by omega)]
        (simp only [rvP]; (repeat' split) <;> first | (exfalso; omega) | (simp only [EQ] <;> omega))
      · have h := f
        rw [hiff (by omega) (by omega) (by omega) (by omega)] at h
        rw [he (by omega)]
        (simp only [rvP]; (repeat' split) <;> first | (exfalso; omega) | (simp only [EQ] <;> omega))
      · have h := f
        rw [hiff (by omega) (by omega) (by omega) (by omega)] at h
        rw [he (by omega)]
        (simp only [rvP]; (repeat' split) <;> first | (exfalso; omega) | (simp only [EQ] <;> omega))
      · refine hN (i + 1) _ ⟨by omega, by omega, ?_, ?_⟩ (by omega) ?_
        · rw [h3, he (by omega), if_pos (by omega), if_pos (by omega)]
        · rw [seg_snoc b a i (by omega)]
          intro y hy
          rcases List.mem_append.1 hy with hy | hy
          · exact h4 y hy
          · rw [List.mem_singleton.1 hy, Int.natCast_add]; omega
        · (simp (disch := first | omega | (simp only [LN, numOk, verOk] <;> omega) | exact Ck.mk rfl) only [SB, EQ, Nat.reduceMul, Nat.reduceAdd, Nat.reduceSub, Nat.reduceLT, Nat.reduceEqDiff, Nat.reduceLeDiff, Nat.reduceBEq, reduceCtorEq, Int.reduceToNat, ↓reduceIte]; try omega)
      · rw [he (by omega)]
        (simp only [rvP]; (repeat' split) <;> first | (exfalso; omega) | (simp only [EQ] <;> omega))
      · obtain rfl : i = 5 := by omega
        rfl
  · unfold rv
    split
    · unfold rvI
      rw [if_neg (by omega)]; rfl
    · rfl
end Go.Pv

/- What functions of the program and of the reference do, in plain values. -/
namespace Go.Pv
open Go.Proofs Go.Mth
set_option linter.unusedSimpArgs false
set_option linter.unusedVariables false
set_option maxHeartbeats 4000000
set_option maxRecDepth 4000

/-! ### numbers of so many bytes, read -/
def rfP (x : Int × Bool) : PV := .tup [.int .i64 x.1, .bool x.2]
theorem shl_le (b : ByteArray) (a i w : Nat) (hi : i < w) (h8 : w ≤ 8) (ha : a + w ≤ b.size) :
    Go.bits .or .i64 (le (seg b a i)) (shl .i64 (bt b ((a : Int) + i)) (8 * (i : Int))) = if i < 7 ∨ bt b ((a : Int) + i) < 128 then le (seg b a (i + 1)) else le (seg b a (i + 1)) - 2 ^ 64 := by
  have hbr := bt_range b ((a : Int) + i)
  have hr := le_range (seg b a i) (seg_range _ _ _)
  have hl := seg_length b a i (by omega)
  rw [hl] at hr
  have hp : (256 : Int) ^ i = 2 ^ (8 * i) := by rw [Int.pow_mul]; rfl
  have hs : le (seg b a (i + 1)) = le (seg b a i) + bt b ((a : Int) + i) * 256 ^ i := by rw [seg_snoc b a i (by omega), le_snoc, hl, Int.natCast_add]
  by_cases h6 : i ≤ 6
  · rw [hp] at hr hs
    have h48 : (2 : Int) ^ (8 * i) ≤ 2 ^ 48 := by exact_mod_cast Nat.pow_le_pow_right (by decide : 0 < 2) (by omega : 8 * i ≤ 48)
    rw [shl8 _ i h6 (by omega) (by omega), or_low (8 * i) _ _ hr.1 hr.2 (by omega) (by
      have h4 : bt b ((a : Int) + i) * 2 ^ (8 * i) ≤ 255 * 2 ^ 48 := Int.mul_le_mul (by omega) h48 (Int.pow_nonneg (by decide)) (by decide)
      omega) (by omega), ← hs, if_pos (.inl (by omega))]
  · obtain rfl : i = 7 := by omega
    have h56 : (256 : Int) ^ 7 = 2 ^ 56 := by decide
    rw [h56] at hr hs
    rw [show (8 * ((7 : Nat) : Int)) = 56 by rfl, or_top _ _ hr.1 hr.2 hbr.1 (by omega), hs]
    by_cases h : bt b ((a : Int) + (7 : Nat)) < 128
    · rw [if_pos h, if_pos (.inr h)]
    · rw [if_neg h, if_neg (by omega)]
theorem le_lt (b : ByteArray) (a i : Nat) (ha : a + i ≤ b.size) (h : i ≤ 8) : 0 ≤ le (seg b a i) ∧ (i ≤ 7 → le (seg b a i) < 72057594037927936) ∧ le (seg b a i) < 18446744073709551616 := by
  have hr := le_range (seg b a i) (seg_range _ _ _)
  rw [seg_length b a i ha] at hr
  have h8 : (256 : Int) ^ i ≤ 256 ^ 8 := pow_mono 256 (by decide) h
  have e8 : (256 : Int) ^ 8 = 18446744073709551616 := by decide
  refine ⟨hr.1, fun h7 => ?_, by omega⟩
  have h7' : (256 : Int) ^ i ≤ 256 ^ 7 := pow_mono 256 (by decide) h7
  have e7 : (256 : Int) ^ 7 = 72057594037927936 := by decide
  omega
theorem le_top8 (b : ByteArray) (a : Nat) (ha : a + 8 ≤ b.size) : le (seg b a 8) = le (seg b a 7) + bt b ((a : Int) + 7) * 72057594037927936 := by
  rw [seg_snoc b a 7 (by omega), le_snoc, seg_length b a 7 (by omega), Int.natCast_add]; rfl
theorem impl_ReadFix (b : ByteArray) (hb : b.size ≤ 140737488355328) (a w : Int) (ha0 : -9223372036854775808 ≤ a) (ha : a ≤ 9223372036854775807) (hw0 : -9223372036854775808 ≤ w) (hw : w ≤ 9223372036854775807) :
    Fn Tryz.prog 153 [.str b, .int .i64 a, .int .i64 w] [] (rfP (rfix b a w)) [] := by
  refine fn_x tok (n := 41) (rs := [.tmp 6, .tmp 7]) Tryz.func153 (by decide) rfl rfl rfl rfl ?_
  refine Wr.go ?_
  repeat' ((first | (have ee := True.intro; refine Wr.mk ?_) | ((first | refine br_go ?_ ?_ | refine pick_go ?_ ?_) <;> intro ee f <;> (try simp only [BB] at f) <;> (try simp only [numOk, verOk] at f)) | (have ee := True.intro; first | refine call_x (impl_within _ _ _) rfl ⟨rfl⟩ ?_)) <;> (try simp (maxSteps := 1000000) (disch := first | omega | (simp only [LN, numOk, verOk] <;> omega) | exact Ck.mk rfl) only [ee, VC, T, Nat.reduceMul, Nat.reduceAdd, Nat.reduceSub, Nat.reduceLT, Nat.reduceEqDiff, Nat.reduceLeDiff, Nat.reduceBEq, reduceCtorEq, Int.reduceToNat, ↓reduceIte]) <;> (try clear ee))
  · obtain ⟨a, rfl⟩ := Int.eq_ofNat_of_zero_le (show 0 ≤ a by omega)
    obtain ⟨w, rfl⟩ := Int.eq_ofNat_of_zero_le (show 0 ≤ w by omega)
    rw [show rfix b a w = if le (seg b a w) < 9223372036854775808 then (le (seg b a w), true) else (0, false) by unfold rfix; rw [if_pos (by omega)]; rfl]
    have hlw := le_lt b a w (by omega) (by omega)
    refine lp_go (fun i : Nat => ⟨41, [(0, .str b), (1, .int .i64 a), (8, .int .i64 (if i < 8 ∨ le (seg b a i) < 9223372036854775808 then le (seg b a i) else le (seg b a i) - 2 ^ 64)), (22, .int .i64 w), (23, .int .i64 i)], []⟩) (fun i => i ≤ w) (fun i => w - i) 0 ?_ (by omega) ?_
    · (simp (disch := first | omega | (simp only [LN, numOk, verOk] <;> omega) | exact Ck.mk rfl) only [SB, EQ, Nat.reduceMul, Nat.reduceAdd, Nat.reduceSub, Nat.reduceLT, Nat.reduceEqDiff, Nat.reduceLeDiff, Nat.reduceBEq, reduceCtorEq, Int.reduceToNat, ↓reduceIte]; try omega)
      simp [seg, le]
    · intro i hi N hN
      have hbr := bt_range b ((a : Int) + i)
      have hso : i < w → _ := fun h => shl_le b a i w h (by omega) (by omega)
      have hli := le_lt b a i (by omega) (by omega)
      have h88 := le_top8 b a
      have e64 : (2 : Int) ^ 64 = 18446744073709551616 := by decide
      by_cases h8 : i < 8
      · simp only [h8, true_or, if_true]
        refine Wr.go ?_
        repeat' ((first | (have ee := True.intro; refine Wr.mk ?_) | ((first | refine br_go ?_ ?_ | refine pick_go ?_ ?_) <;> intro ee f <;> (try simp only [BB] at f) <;> (try simp only [numOk, verOk] at f))) <;> (try simp (maxSteps := 1000000) (disch := first | omega | (simp only [LN, numOk, verOk, wsmall, hso] <;> omega) | exact Ck.mk rfl) only [ee, VC, T, Nat.reduceMul, Nat.reduceAdd, Nat.reduceSub, Nat.reduceLT, Nat.reduceEqDiff, Nat.reduceLeDiff, Nat.reduceBEq, reduceCtorEq, Int.reduceToNat, ↓reduceIte, wsmall, hso]) <;> (try clear ee))
        · refine hN (i + 1) _ (by omega) (by omega) ?_
          have hl2 := le_lt b a (i + 1) (by omega) (by omega)
          (simp (disch := first | omega | (simp only [LN, numOk, verOk] <;> omega) | exact Ck.mk rfl) only [SB, EQ, Nat.reduceMul, Nat.reduceAdd, Nat.reduceSub, Nat.reduceLT, Nat.reduceEqDiff, Nat.reduceLeDiff, Nat.reduceBEq, reduceCtorEq, Int.reduceToNat, ↓reduceIte]; try omega)
          by_cases h7 : i = 7
          · subst h7
            have := h88 (by omega)
            have e7 : ((7 : Nat) : Int) = 7 := rfl
            simp only [Nat.reduceAdd, e7] at *
            (repeat' split) <;> first | rfl | (exfalso; omega)
          · rw [if_pos (by omega), if_pos (by omega)]
        all_goals
          obtain rfl : i = w := by omega
          (simp only [rfP]; (repeat' split) <;> first | (exfalso; omega) | (simp only [EQ] <;> omega))
      · obtain rfl : i = w := by omega
        refine Wr.go ?_
        repeat' ((first | (have ee := True.intro; refine Wr.mk ?_) | ((first | refine br_go ?_ ?_ | refine pick_go ?_ ?_) <;> intro ee f <;> (try simp only [BB] at f) <;> (try simp only [numOk, verOk] at f))) <;> (try simp (maxSteps := 1000000) (disch := first | omega | (simp only [LN, numOk, verOk, wsmall] <;> omega) | exact Ck.mk rfl) only [ee, VC, T, Nat.reduceMul, Nat.reduceAdd, Nat.reduceSub, Nat.reduceLT, Nat.reduceEqDiff, Nat.reduceLeDiff, Nat.reduceBEq, reduceCtorEq, Int.reduceToNat, ↓reduceIte, wsmall]) <;> (try clear ee))
        all_goals (simp only [rfP]; (repeat' split) <;> first | (exfalso; omega) | (simp only [EQ] <;> omega))
  all_goals (rw [show rfix b a w = (0, false) by unfold rfix; rw [if_neg (by omega)]]; rfl)
theorem le_top (b : ByteArray) (a w : Nat) (ha : a + w ≤ b.size) (i : Nat) (hi : i ≤ w) : le (seg b (a + i) (w - i)) ≤ le (seg b a w) := by
  induction i with
  | zero => exact Int.le_refl _
  | succ i ih =>
    have h1 := ih (by omega)
    have e : w - i = (w - (i + 1)) + 1 := by omega
    rw [e, seg_cons b (a + i) (w - (i + 1)) (by omega)] at h1
    have hbr := bt_range b ((a + i : Nat) : Int)
    have hr := le_range (seg b (a + i + 1) (w - (i + 1))) (seg_range _ _ _)
    simp only [le] at h1
    rw [show a + (i + 1) = a + i + 1 by omega]
    omega
theorem shl_1 (n : Int) (h0 : 0 ≤ n) (h1 : n * 256 < 9223372036854775808) : shl .i64 n 8 = n * 256 := by
  unfold shl
  rw [show min (8 : Int).toNat IntKind.i64.bits = 8 by rfl, wsmall _ (by omega) (by omega)]
  rfl
theorem spec_ReadFix (b : ByteArray) (hb : b.size ≤ 140737488355328) (a w : Int) (ha0 : -9223372036854775808 ≤ a) (ha : a ≤ 9223372036854775807) (hw0 : -9223372036854775808 ≤ w) (hw : w ≤ 9223372036854775807) :
    Fn Tryz.prog 134 [.str b, .int .i64 a, .int .i64 w] [] (rfP (rfix b a w)) [] := by
  refine fn_x tok (n := 47) (rs := [.tmp 6, .tmp 7]) Tryz.func134 (by decide) rfl rfl rfl rfl ?_
  refine Wr.go ?_
  repeat' ((first | (have ee := True.intro; refine Wr.mk ?_) | ((first | refine br_go ?_ ?_ | refine pick_go ?_ ?_) <;> intro ee f <;> (try simp only [BB] at f) <;> (try simp only [numOk, verOk] at f)) | (have ee := True.intro; first | refine call_x (spec_l01In _ _ _) rfl ⟨rfl⟩ ?_)) <;> (try simp (maxSteps := 1000000) (disch := first | omega | (simp only [LN, numOk, verOk, wsmall] <;> omega) | exact Ck.mk rfl) only [ee, VC, T, Nat.reduceMul, Nat.reduceAdd, Nat.reduceSub, Nat.reduceLT, Nat.reduceEqDiff, Nat.reduceLeDiff, Nat.reduceBEq, reduceCtorEq, Int.reduceToNat, ↓reduceIte, wsmall]) <;> (try clear ee))
  all_goals first
    | (rw [show rfix b a w = (0, false) by unfold rfix; rw [if_neg (by omega)]]; rfl)
    | skip
  all_goals
    obtain ⟨a, rfl⟩ := Int.eq_ofNat_of_zero_le (show 0 ≤ a by omega)
    obtain ⟨w, rfl⟩ := Int.eq_ofNat_of_zero_le (show 0 ≤ w by omega)
    rw [show rfix b a w = if le (seg b a w) < 9223372036854775808 then (le (seg b a w), true) else (0, false) by unfold rfix; rw [if_pos (by omega)]; rfl]
    have hlw := le_lt b a w (by omega) (by omega)
    have h88 := le_top8 b a
    have hl7 := fun h => le_lt b a 7 h (by decide)
    have hbr := bt_range b ((a : Int) + 7)
  · obtain rfl : w = 8 := by omega
    rw [if_neg (by omega)]; rfl
  all_goals
    have hlt : le (seg b a w) < 9223372036854775808 := by
      by_cases h8 : w = 8
      · subst h8; omega
      · omega
    rw [if_pos hlt]
    refine lp_go (fun i : Nat => ⟨47, [(0, .str b), (1, .int .i64 a), (8, .int .i64 (le (seg b (a + i) (w - i)))), (9, .int .i64 (i - 1))], []⟩) (fun i => i ≤ w) (fun i => i) w ?_ (by omega) ?_
    · (simp (disch := first | omega | (simp only [LN, numOk, verOk] <;> omega) | exact Ck.mk rfl) only [SB, EQ, Nat.reduceMul, Nat.reduceAdd, Nat.reduceSub, Nat.reduceLT, Nat.reduceEqDiff, Nat.reduceLeDiff, Nat.reduceBEq, reduceCtorEq, Int.reduceToNat, ↓reduceIte]; try omega)
      simp [seg, le]
    · intro i hi N hN
      have hbr := bt_range b ((a : Int) + (i - 1))
      have ht := le_top b a w (by omega) (i - 1) (by omega)
      have hr := (le_lt b (a + i) (w - i) (by omega) (by omega)).1
      have hs : 0 < i → le (seg b (a + (i - 1)) (w - (i - 1))) = bt b ((a : Int) + (i - 1)) + 256 * le (seg b (a + i) (w - i)) := fun h => by
        rw [show w - (i - 1) = (w - i) + 1 by omega, seg_cons b (a + (i - 1)) (w - i) (by omega), show a + (i - 1) + 1 = a + i by omega, show ((a + (i - 1) : Nat) : Int) = (a : Int) + (i - 1) by omega]
        rfl
      have ho : 0 < i → Go.bits .or .i64 (le (seg b (a + i) (w - i)) * 256) (bt b ((a : Int) + (i - 1))) = le (seg b (a + (i - 1)) (w - (i - 1))) := fun h => by
        rw [or_high _ _ hr hbr.1 (by omega) (by have := hs h; omega), hs h]; omega
      by_cases h0 : i = 0
      · subst h0
        refine Wr.go ?_
        repeat' ((first | (have ee := True.intro; refine Wr.mk ?_) | ((first | refine br_go ?_ ?_ | refine pick_go ?_ ?_) <;> intro ee f <;> (try simp only [BB] at f) <;> (try simp only [numOk, verOk] at f))) <;> (try simp (maxSteps := 1000000) (disch := first | omega | (simp only [LN, numOk, verOk, wsmall] <;> omega) | exact Ck.mk rfl) only [ee, VC, T, Nat.reduceMul, Nat.reduceAdd, Nat.reduceSub, Nat.reduceLT, Nat.reduceEqDiff, Nat.reduceLeDiff, Nat.reduceBEq, reduceCtorEq, Int.reduceToNat, ↓reduceIte, wsmall]) <;> (try clear ee))
        all_goals rfl
      · have hs' := hs (by omega)
        refine Wr.go ?_
        repeat' ((first | (have ee := True.intro; refine Wr.mk ?_) | ((first | refine br_go ?_ ?_ | refine pick_go ?_ ?_) <;> intro ee f <;> (try simp only [BB] at f) <;> (try simp only [numOk, verOk] at f))) <;> (try simp (maxSteps := 1000000) (disch := first | omega | (simp only [LN, numOk, verOk, wsmall, shl_1, ho] <;> omega) | exact Ck.mk rfl) only [ee, VC, T, Nat.reduceMul, Nat.reduceAdd, Nat.reduceSub, Nat.reduceLT, Nat.reduceEqDiff, Nat.reduceLeDiff, Nat.reduceBEq, reduceCtorEq, Int.reduceToNat, ↓reduceIte, wsmall, shl_1, ho]) <;> (try clear ee))
        refine hN (i - 1) _ (by omega) (by omega) ?_
        (simp (disch := first | omega | (simp only [LN, numOk, verOk] <;> omega) | exact Ck.mk rfl) only [SB, EQ, Nat.reduceMul, Nat.reduceAdd, Nat.reduceSub, Nat.reduceLT, Nat.reduceEqDiff, Nat.reduceLeDiff, Nat.reduceBEq, reduceCtorEq, Int.reduceToNat, ↓reduceIte]; try omega)
end Go.Pv

/- What functions of the program and of the reference do, in plain values. -/
namespace Go.Pv
open Go.Proofs Go.Mth
set_option linter.unusedSimpArgs false
set_option linter.unusedVariables false
set_option maxHeartbeats 4000000
set_option maxRecDepth 4000

/-! ### heads and links -/
def rhP (x : Int × Int × Int × Int × Bool) : PV := .tup [.agg [.int .i64 x.1, .int .i64 x.2.1, .int .i64 x.2.2.1, .int .i64 x.2.2.2.1], .bool x.2.2.2.2]
theorem spec_HeadOk (v s b l : Int) : Fn Tryz.prog 68 [.agg [.int .i64 v, .int .i64 s, .int .i64 b, .int .i64 l]] [] (.bool (decide (headOk v s b l))) [] := by
  refine fn_x tok (n := 21) (rs := [.tmp 2]) Tryz.func68 (by decide) rfl rfl rfl rfl ?_
  refine Wr.go ?_
  repeat' ((first | (have ee := True.intro; refine Wr.mk ?_) | ((first | refine br_go ?_ ?_ | refine pick_go ?_ ?_) <;> intro ee f <;> (try simp only [BB] at f) <;> (try simp only [numOk, verOk] at f)) | (have ee := True.intro; first | refine call_x (spec_l01In _ _ _) rfl ⟨rfl⟩ ?_)) <;> (try simp (maxSteps := 1000000) (disch := first | omega | (simp only [LN, numOk, verOk, rfP, rvP, rhP] <;> omega) | exact Ck.mk rfl) only [ee, VC, T, Nat.reduceMul, Nat.reduceAdd, Nat.reduceSub, Nat.reduceLT, Nat.reduceEqDiff, Nat.reduceLeDiff, Nat.reduceBEq, reduceCtorEq, Int.reduceToNat, ↓reduceIte, rfP, rvP, rhP]) <;> (try clear ee))
  all_goals (simp only [EQ]; rw [Bool.eq_iff_iff]; simp only [BB, EQ]; simp only [headOk, verOk, numOk, false_iff, true_iff, iff_false, iff_true]; omega)
theorem impl_HeadOk (v s b l : Int) : Fn Tryz.prog 89 [.agg [.int .i64 v, .int .i64 s, .int .i64 b, .int .i64 l]] [] (.bool (decide (headOk v s b l))) [] := by
  refine fn_x tok (n := 21) (rs := [.tmp 2]) Tryz.func89 (by decide) rfl rfl rfl rfl ?_
  refine Wr.go ?_
  repeat' ((first | (have ee := True.intro; refine Wr.mk ?_) | ((first | refine br_go ?_ ?_ | refine pick_go ?_ ?_) <;> intro ee f <;> (try simp only [BB] at f) <;> (try simp only [numOk, verOk] at f)) | (have ee := True.intro; first | refine call_x (impl_isVersion _) rfl ⟨rfl⟩ ?_ | refine call_x (impl_within _ _ _) rfl ⟨rfl⟩ ?_ | refine call_x (impl_isNumber _) rfl ⟨rfl⟩ ?_)) <;> (try simp (maxSteps := 1000000) (disch := first | omega | (simp only [LN, numOk, verOk, rfP, rvP, rhP] <;> omega) | exact Ck.mk rfl) only [ee, VC, T, Nat.reduceMul, Nat.reduceAdd, Nat.reduceSub, Nat.reduceLT, Nat.reduceEqDiff, Nat.reduceLeDiff, Nat.reduceBEq, reduceCtorEq, Int.reduceToNat, ↓reduceIte, rfP, rvP, rhP]) <;> (try clear ee))
  all_goals (simp only [EQ]; rw [Bool.eq_iff_iff]; simp only [BB, EQ]; simp only [headOk, verOk, numOk, false_iff, true_iff, iff_false, iff_true]; omega)
theorem sumOf_lt (t : ByteArray) : sumOf t < 9223372036854775808 := by have := (sumMore_range 0 t).2; unfold sumOf; omega
theorem size_mk (l : List UInt8) : ByteArray.size ⟨l.toArray⟩ = l.length := by simp [ByteArray.size]
theorem hdT_no {v s b l : Int} (h : ¬ headOk v s b l) : headT v s b l = ⟨#[]⟩ := if_neg h
theorem hdT_ok {v s b l : Int} (h : headOk v s b l) : headT v s b l = hdBody v s b l ++ fixT (sumOf (hdBody v s b l)) 4 := if_pos h
theorem spec_HeadText (v s b l : Int) : Fn Tryz.prog 135 [.agg [.int .i64 v, .int .i64 s, .int .i64 b, .int .i64 l]] [] (.str (headT v s b l)) [] := by
  have b1 := fixT_le v 1
  have b2 := fixT_le s 1
  have b3 := fixT_le b 8
  have b4 := fixT_le l 4
  have b5 := fixT_le (sumOf (hdBody v s b l)) 4
  have b6 := (sumMore_range 0 (hdBody v s b l))
  have b7 := hdBody_le v s b l
  refine fn_x tok (n := 29) (rs := [.tmp 2]) Tryz.func135 (by decide) rfl rfl rfl rfl ?_
  refine Wr.go ?_
  repeat' ((first | (have ee := True.intro; refine Wr.mk ?_) | ((first | refine br_go ?_ ?_ | refine pick_go ?_ ?_) <;> intro ee f <;> (try simp only [BB] at f) <;> (try simp only [numOk, verOk] at f)) | (have ee := True.intro; first | refine dr_go mixed (id := 3) [([], [1], []), ([0], [7], []), ([0, 1], [8], []), ([0, 1, 2], [9], []), ([], [1], []), ([4], [11], []), ([0, 1, 2, 4, 5], [12], []), ([0, 1, 2, 3, 4, 5, 6], [10, 13], []), ([0, 1, 2, 3, 4, 5, 6, 7], [14], []), ([], [1], []), ([9], [16], []), ([0, 1, 2, 4, 5, 6, 9, 10], [17], []), ([0, 1, 2, 3, 4, 5, 6, 7, 8, 9, 10, 11], [15, 18], []), ([], [1], []), ([13], [20], []), ([0, 1, 2, 4, 5, 6, 9, 10, 11, 13, 14], [21], []), ([0, 1, 2, 3, 4, 5, 6, 7, 8, 9, 10, 11, 12, 13, 14, 15], [19, 22], []), ([0, 1, 2, 3, 4, 5, 6, 7, 8, 9, 10, 11, 12, 13, 14, 15, 16], [23], [])] rfl rfl rfl ?_ | refine call_x (spec_HeadOk _ _ _ _) rfl ⟨rfl⟩ ?_ | refine call_x (spec_FixText _ _ (sumOf_lt _)) rfl ⟨rfl⟩ ?_ | refine call_x (spec_FixText _ _ (by unfold headOk verOk numOk at *; omega)) rfl ⟨rfl⟩ ?_ | refine call_x (spec_SumOf _ (by simp only [ByteArray.size_append, size_mk, List.length_cons, List.length_nil]; omega)) rfl ⟨rfl⟩ ?_)) <;> (try simp (maxSteps := 1000000) (disch := first | omega | (simp only [LN, numOk, verOk, rfP, rvP, rhP] <;> omega) | exact Ck.mk rfl) only [ee, VC, T, Nat.reduceMul, Nat.reduceAdd, Nat.reduceSub, Nat.reduceLT, Nat.reduceEqDiff, Nat.reduceLeDiff, Nat.reduceBEq, reduceCtorEq, Int.reduceToNat, ↓reduceIte, rfP, rvP, rhP]) <;> (try clear ee))
  · refine ⟨by unfold hdBody at b5; omega, ?_⟩
    rw [hdT_ok f]; rfl
  · rw [hdT_no f]
theorem impl_HeadText (v s b l : Int) : Fn Tryz.prog 154 [.agg [.int .i64 v, .int .i64 s, .int .i64 b, .int .i64 l]] [] (.str (headT v s b l)) [] := by
  have b1 := fixT_le v 1
  have b2 := fixT_le s 1
  have b3 := fixT_le b 8
  have b4 := fixT_le l 4
  have b5 := fixT_le (sumOf (hdBody v s b l)) 4
  have b7 := hdBody_le v s b l
  refine fn_x tok (n := 30) (rs := [.tmp 2]) Tryz.func154 (by decide) rfl rfl rfl rfl ?_
  refine Wr.go ?_
  repeat' ((first | (have ee := True.intro; refine Wr.mk ?_) | ((first | refine br_go ?_ ?_ | refine pick_go ?_ ?_) <;> intro ee f <;> (try simp only [BB] at f) <;> (try simp only [numOk, verOk] at f)) | (have ee := True.intro; first | refine dr_go mixed (id := 3) [([], [1], []), ([0], [7], []), ([0, 1], [8], []), ([0, 1, 2], [9], []), ([], [1], []), ([4], [11], []), ([0, 1, 2, 4, 5], [12], []), ([0, 1, 2, 3, 4, 5, 6], [10, 13], []), ([0, 1, 2, 4, 5, 6], [], []), ([0, 1, 2, 3, 4, 5, 6, 7, 8], [14, 15], []), ([], [1], []), ([10], [17], []), ([0, 1, 2, 4, 5, 6, 8, 10, 11], [18], []), ([0, 1, 2, 3, 4, 5, 6, 7, 8, 9, 10, 11, 12], [16, 19], []), ([], [1], []), ([14], [21], []), ([0, 1, 2, 4, 5, 6, 8, 10, 11, 12, 14, 15], [22], []), ([0, 1, 2, 3, 4, 5, 6, 7, 8, 9, 10, 11, 12, 13, 14, 15, 16], [20, 23], []), ([0, 1, 2, 3, 4, 5, 6, 7, 8, 9, 10, 11, 12, 13, 14, 15, 16, 17], [24], [])] rfl rfl rfl ?_ | refine call_x (impl_HeadOk _ _ _ _) rfl ⟨rfl⟩ ?_ | refine call_x (impl_FixText _ _ (sumOf_lt _)) rfl ⟨rfl⟩ ?_ | refine call_x (impl_FixText _ _ (by unfold headOk verOk numOk at *; omega)) rfl ⟨rfl⟩ ?_ | refine call_x (impl_SumOf _ (by simp only [ByteArray.size_append, size_mk, List.length_cons, List.length_nil]; omega)) rfl ⟨rfl⟩ ?_)) <;> (try simp (maxSteps := 1000000) (disch := first | omega | (simp only [LN, numOk, verOk, rfP, rvP, rhP, fixT0] <;> omega) | exact Ck.mk rfl) only [ee, VC, T, Nat.reduceMul, Nat.reduceAdd, Nat.reduceSub, Nat.reduceLT, Nat.reduceEqDiff, Nat.reduceLeDiff, Nat.reduceBEq, reduceCtorEq, Int.reduceToNat, ↓reduceIte, rfP, rvP, rhP, fixT0]) <;> (try clear ee))
  · refine ⟨by unfold hdBody at b5; omega, ?_⟩
    rw [hdT_ok f]; rfl
  · rw [hdT_no f]
theorem spec_ReadHead (b : ByteArray) (hb : b.size ≤ 140737488355328) : Fn Tryz.prog 98 [.str b] [] (rhP (rHead b)) [] := by
  have h1 := rfix_range b 8 8
  have h2 := rfix_range b 16 4
  have h3 := bt_range b 4
  have h4 := bt_range b 5
  refine fn_x tok (n := 43) (rs := [.cell 2 60, .tmp 3]) Tryz.func98 (by decide) rfl rfl rfl rfl ?_
  refine Wr.go ?_
  repeat' ((first | (have ee := True.intro; refine Wr.mk ?_) | ((first | refine br_go ?_ ?_ | refine pick_go ?_ ?_) <;> intro ee f <;> (try simp only [BB] at f) <;> (try simp only [numOk, verOk] at f)) | (have ee := True.intro; first | refine dr_go mixed (id := 5) [([], [0], []), ([0], [23], []), ([0, 1], [24], []), ([], [0], []), ([3], [26], []), ([3, 4], [27], []), ([], [4], []), ([], [6], []), ([0, 1, 2, 3, 4, 5, 6, 7], [25, 28, 29, 30], []), ([], [], []), ([0, 1, 2, 3, 4, 5, 6, 7, 8, 9], [8, 31], [])] rfl rfl rfl ?_ | refine dr_go mixed (id := 6) [([], [5], []), ([0], [32], []), ([0, 1], [33], []), ([0, 1, 2], [8, 34], []), ([0, 1, 2, 3], [34, 35], []), ([0, 1, 2], [0, 34], []), ([0, 1, 2, 5], [34, 37], []), ([0, 1, 2, 3, 4, 5, 6], [34, 36, 38], []), ([0, 1, 2, 3, 4, 5, 6, 7], [34, 39], [])] rfl rfl rfl ?_ | refine call_x (spec_ReadFix b hb _ _ (by omega) (by omega) (by omega) (by omega)) rfl ⟨rfl⟩ ?_ | refine call_x (spec_HeadText _ _ _ _) rfl ⟨rfl⟩ ?_)) <;> (try simp (maxSteps := 1000000) (disch := first | omega | (simp only [LN, numOk, verOk, rfP, rvP, rhP, wsmall] <;> omega) | exact Ck.mk rfl) only [ee, VC, T, Nat.reduceMul, Nat.reduceAdd, Nat.reduceSub, Nat.reduceLT, Nat.reduceEqDiff, Nat.reduceLeDiff, Nat.reduceBEq, reduceCtorEq, Int.reduceToNat, ↓reduceIte, rfP, rvP, rhP, wsmall]) <;> (try clear ee))
  all_goals (unfold rHead; (repeat' split) <;> first | rfl | (exfalso; omega) | (simp_all; done))
theorem impl_ReadHead (b : ByteArray) (hb : b.size ≤ 140737488355328) : Fn Tryz.prog 117 [.str b] [] (rhP (rHead b)) [] := by
  have h1 := rfix_range b 8 8
  have h2 := rfix_range b 16 4
  have h3 := bt_range b 4
  have h4 := bt_range b 5
  refine fn_x tok (n := 43) (rs := [.cell 2 60, .tmp 3]) Tryz.func117 (by decide) rfl rfl rfl rfl ?_
  refine Wr.go ?_
  repeat' ((first | (have ee := True.intro; refine Wr.mk ?_) | ((first | refine br_go ?_ ?_ | refine pick_go ?_ ?_) <;> intro ee f <;> (try simp only [BB] at f) <;> (try simp only [numOk, verOk] at f)) | (have ee := True.intro; first | refine dr_go mixed (id := 5) [([], [0], []), ([0], [23], []), ([0, 1], [24], []), ([], [0], []), ([3], [26], []), ([3, 4], [27], []), ([], [4], []), ([], [6], []), ([0, 1, 2, 3, 4, 5, 6, 7], [25, 28, 29, 30], []), ([], [], []), ([0, 1, 2, 3, 4, 5, 6, 7, 8, 9], [8, 31], [])] rfl rfl rfl ?_ | refine dr_go mixed (id := 6) [([], [5], []), ([0], [32], []), ([0, 1], [33], []), ([0, 1, 2], [8, 34], []), ([0, 1, 2, 3], [34, 35], []), ([0, 1, 2], [0, 34], []), ([0, 1, 2, 5], [34, 37], []), ([0, 1, 2, 3, 4, 5, 6], [34, 36, 38], []), ([0, 1, 2, 3, 4, 5, 6, 7], [34, 39], [])] rfl rfl rfl ?_ | refine call_x (impl_ReadFix b hb _ _ (by omega) (by omega) (by omega) (by omega)) rfl ⟨rfl⟩ ?_ | refine call_x (impl_HeadText _ _ _ _) rfl ⟨rfl⟩ ?_)) <;> (try simp (maxSteps := 1000000) (disch := first | omega | (simp only [LN, numOk, verOk, rfP, rvP, rhP, wsmall] <;> omega) | exact Ck.mk rfl) only [ee, VC, T, Nat.reduceMul, Nat.reduceAdd, Nat.reduceSub, Nat.reduceLT, Nat.reduceEqDiff, Nat.reduceLeDiff, Nat.reduceBEq, reduceCtorEq, Int.reduceToNat, ↓reduceIte, rfP, rvP, rhP, wsmall]) <;> (try clear ee))
  all_goals (unfold rHead; (repeat' split) <;> first | rfl | (exfalso; omega) | (simp_all; done))
theorem spec_LinkMore (l : Int) (r : ByteArray) (hr : r.size ≤ 140737488355000) : Fn Tryz.prog 61 [.int .i64 l, .str r] [] (.int .i64 (linkMore l r)) [] := by
  have b1 := fixT_le r.size 4
  refine fn_x tok (n := 12) (rs := [.tmp 4]) Tryz.func61 (by decide) rfl rfl rfl rfl ?_
  refine Wr.go ?_
  repeat' ((first | (have ee := True.intro; refine Wr.mk ?_) | ((first | refine br_go ?_ ?_ | refine pick_go ?_ ?_) <;> intro ee f <;> (try simp only [BB] at f) <;> (try simp only [numOk, verOk] at f)) | (have ee := True.intro; first | refine call_x (spec_FixText _ _ (by omega)) rfl ⟨rfl⟩ ?_ | refine call_x (spec_SumMore _ _ (by rw [ByteArray.size_append]; omega)) rfl ⟨rfl⟩ ?_)) <;> (try simp (maxSteps := 1000000) (disch := first | omega | (simp only [LN, numOk, verOk, rfP, rvP, rhP] <;> omega) | exact Ck.mk rfl) only [ee, VC, T, Nat.reduceMul, Nat.reduceAdd, Nat.reduceSub, Nat.reduceLT, Nat.reduceEqDiff, Nat.reduceLeDiff, Nat.reduceBEq, reduceCtorEq, Int.reduceToNat, ↓reduceIte, rfP, rvP, rhP]) <;> (try clear ee))
  all_goals rfl
theorem impl_LinkMore (l : Int) (r : ByteArray) (hr : r.size ≤ 140737488355000) : Fn Tryz.prog 120 [.int .i64 l, .str r] [] (.int .i64 (linkMore l r)) [] := by
  have b1 := fixT_le r.size 4
  refine fn_x tok (n := 12) (rs := [.tmp 4]) Tryz.func120 (by decide) rfl rfl rfl rfl ?_
  refine Wr.go ?_
  repeat' ((first | (have ee := True.intro; refine Wr.mk ?_) | ((first | refine br_go ?_ ?_ | refine pick_go ?_ ?_) <;> intro ee f <;> (try simp only [BB] at f) <;> (try simp only [numOk, verOk] at f)) | (have ee := True.intro; first | refine call_x (impl_FixText _ _ (by omega)) rfl ⟨rfl⟩ ?_ | refine call_x (impl_SumMore _ _ (by rw [ByteArray.size_append]; omega)) rfl ⟨rfl⟩ ?_)) <;> (try simp (maxSteps := 1000000) (disch := first | omega | (simp only [LN, numOk, verOk, rfP, rvP, rhP] <;> omega) | exact Ck.mk rfl) only [ee, VC, T, Nat.reduceMul, Nat.reduceAdd, Nat.reduceSub, Nat.reduceLT, Nat.reduceEqDiff, Nat.reduceLeDiff, Nat.reduceBEq, reduceCtorEq, Int.reduceToNat, ↓reduceIte, rfP, rvP, rhP]) <;> (try clear ee))
  all_goals rfl
theorem linkAll_snoc (l : Int) (rs : List ByteArray) (i : Nat) (h : i < rs.length) : linkMore (linkAll l (rs.take i)) (rs.getD i default) = linkAll l (rs.take (i + 1)) := by
  unfold linkAll
  rw [take_snoc default rs i h, List.foldl_append]
  rfl
theorem getD_mem {α : Type} [Inhabited α] (l : List α) (i : Nat) (h : i < l.length) : l.getD i default ∈ l := by
  rw [List.getD_eq_getElem?_getD, List.getElem?_eq_getElem h]; exact List.getElem_mem h
theorem impl_linkAll (l : Int) (rs : List ByteArray) (hl : rs.length < 9223372036854775808) (hr : ∀ r ∈ rs, r.size ≤ 140737488355000) : Fn Tryz.prog 84 [.int .i64 l, .far (rs.map .str)] [] (.int .i64 (linkAll l rs)) [] := by
  refine fn_x tok (n := 18) (rs := [.tmp 4]) Tryz.func84 (by decide) rfl rfl rfl rfl ?_
  refine Wr.go ?_
  repeat' ((first | (have ee := True.intro; refine Wr.mk ?_) | ((first | refine br_go ?_ ?_ | refine pick_go ?_ ?_) <;> intro ee f <;> (try simp only [BB] at f) <;> (try simp only [numOk, verOk] at f))) <;> (try simp (maxSteps := 1000000) (disch := first | omega | (simp only [LN, numOk, verOk, rfP, rvP, rhP] <;> omega) | exact Ck.mk rfl) only [ee, VC, T, Nat.reduceMul, Nat.reduceAdd, Nat.reduceSub, Nat.reduceLT, Nat.reduceEqDiff, Nat.reduceLeDiff, Nat.reduceBEq, reduceCtorEq, Int.reduceToNat, ↓reduceIte, rfP, rvP, rhP]) <;> (try clear ee))
  refine lp_go (fun i : Nat => ⟨18, [(0, .int .i64 (linkAll l (rs.take i))), (7, .far (rs.map .str)), (8, .int .i64 rs.length), (9, .int .i64 i)], []⟩) (fun i => i ≤ rs.length) (fun i => rs.length - i) 0 ?_ (by omega) ?_
  · (simp (disch := first | omega | (simp only [LN, numOk, verOk] <;> omega) | exact Ck.mk rfl) only [SB, EQ, Nat.reduceMul, Nat.reduceAdd, Nat.reduceSub, Nat.reduceLT, Nat.reduceEqDiff, Nat.reduceLeDiff, Nat.reduceBEq, reduceCtorEq, Int.reduceToNat, ↓reduceIte]; try omega)
    rfl
  · intro i hi N hN
    refine Wr.go ?_
    repeat' ((first | (have ee := True.intro; refine Wr.mk ?_) | ((first | refine br_go ?_ ?_ | refine pick_go ?_ ?_) <;> intro ee f <;> (try simp only [BB] at f) <;> (try simp only [numOk, verOk] at f)) | (have ee := True.intro; first | refine call_x (impl_LinkMore _ _ (hr _ (getD_mem _ _ (by omega)))) rfl ⟨rfl⟩ ?_)) <;> (try simp (maxSteps := 1000000) (disch := first | omega | (simp only [LN, numOk, verOk, rfP, rvP, rhP, linkAll_snoc] <;> omega) | exact Ck.mk rfl) only [ee, VC, T, Nat.reduceMul, Nat.reduceAdd, Nat.reduceSub, Nat.reduceLT, Nat.reduceEqDiff, Nat.reduceLeDiff, Nat.reduceBEq, reduceCtorEq, Int.reduceToNat, ↓reduceIte, rfP, rvP, rhP, linkAll_snoc]) <;> (try clear ee))
    · refine hN (i + 1) _ (by omega) (by omega) ?_
      (simp (disch := first | omega | (simp only [LN, numOk, verOk] <;> omega) | exact Ck.mk rfl) only [SB, EQ, Nat.reduceMul, Nat.reduceAdd, Nat.reduceSub, Nat.reduceLT, Nat.reduceEqDiff, Nat.reduceLeDiff, Nat.reduceBEq, reduceCtorEq, Int.reduceToNat, ↓reduceIte]; try omega)
    · obtain rfl : i = rs.length := by omega
      rw [List.take_length]
end Go.Pv

/- What functions of the program and of the reference do, in plain values. -/
namespace Go.Pv
open Go.Proofs Go.Mth
set_option linter.unusedSimpArgs false
set_option linter.unusedVariables false
set_option maxHeartbeats 4000000
set_option maxRecDepth 4000

theorem stringslite_HasPrefix (s p : ByteArray) : Fn Tryz.prog 150 [.str s, .str p] [] (.bool (decide (p.size ≤ s.size ∧ s.extract 0 p.size = p))) [] := by
  refine fn_x tok (n := 18) (rs := [.tmp 4]) Tryz.func150 (by decide) rfl rfl rfl rfl ?_
  refine Wr.go ?_
  repeat' ((first | (have ee := True.intro; refine Wr.mk ?_) | ((first | refine br_go ?_ ?_ | refine pick_go ?_ ?_) <;> intro ee f <;> (try simp only [BB] at f) <;> (try simp only [numOk, verOk] at f))) <;> (try simp (maxSteps := 1000000) (disch := first | omega | (simp only [LN, numOk, verOk, rfP, rvP, rhP] <;> omega) | exact Ck.mk rfl) only [ee, VC, T, Nat.reduceMul, Nat.reduceAdd, Nat.reduceSub, Nat.reduceLT, Nat.reduceEqDiff, Nat.reduceLeDiff, Nat.reduceBEq, reduceCtorEq, Int.reduceToNat, ↓reduceIte, rfP, rvP, rhP]) <;> (try clear ee))
  have h : ¬ p.size ≤ s.size := by omega
  simp [h]
theorem strings_HasPrefix (s p : ByteArray) : Fn Tryz.prog 112 [.str s, .str p] [] (.bool (decide (p.size ≤ s.size ∧ s.extract 0 p.size = p))) [] := by
  refine fn_x tok (n := 8) (rs := [.tmp 4]) Tryz.func112 (by decide) rfl rfl rfl rfl ?_
  refine Wr.go ?_
  repeat' ((first | (have ee := True.intro; refine Wr.mk ?_) | ((first | refine br_go ?_ ?_ | refine pick_go ?_ ?_) <;> intro ee f <;> (try simp only [BB] at f) <;> (try simp only [numOk, verOk] at f)) | (have ee := True.intro; first | refine call_x (stringslite_HasPrefix _ _) rfl ⟨rfl⟩ ?_)) <;> (try simp (maxSteps := 1000000) (disch := first | omega | (simp only [LN, numOk, verOk, rfP, rvP, rhP] <;> omega) | exact Ck.mk rfl) only [ee, VC, T, Nat.reduceMul, Nat.reduceAdd, Nat.reduceSub, Nat.reduceLT, Nat.reduceEqDiff, Nat.reduceLeDiff, Nat.reduceBEq, reduceCtorEq, Int.reduceToNat, ↓reduceIte, rfP, rvP, rhP]) <;> (try clear ee))
theorem hasPre_at (b : ByteArray) (a : Int) (t : ByteArray) (h0 : 0 ≤ a) (h1 : a ≤ b.size) : decide (t.size ≤ (b.extract a.toNat b.size).size ∧ (b.extract a.toNat b.size).extract 0 t.size = t) = hasAt b a t := by
  unfold hasAt
  rw [decide_eq_decide, ByteArray.size_extract, ByteArray.extract_extract]
  by_cases hs : a + t.size ≤ (b.size : Int)
  · rw [show min (a.toNat + t.size) b.size = a.toNat + t.size by omega]
    constructor
    · rintro ⟨_, h2⟩
      exact ⟨h0, hs, by simpa using h2⟩
    · rintro ⟨_, _, h2⟩
      exact ⟨by omega, by simpa using h2⟩
  · exact ⟨fun h' => absurd h'.1 (by omega), fun h' => absurd h'.2.1 hs⟩
theorem hasAt_no (b : ByteArray) (a : Int) (t : ByteArray) (h : ¬ (0 ≤ a ∧ a ≤ b.size)) : hasAt b a t = false := by
  unfold hasAt
  rw [decide_eq_false_iff_not]
  intro k; omega
theorem impl_hasAt (b : ByteArray) (a : Int) (t : ByteArray) : Fn Tryz.prog 155 [.str b, .int .i64 a, .str t] [] (.bool (hasAt b a t)) [] := by
  refine fn_x tok (n := 18) (rs := [.tmp 6]) Tryz.func155 (by decide) rfl rfl rfl rfl ?_
  refine Wr.go ?_
  repeat' ((first | (have ee := True.intro; refine Wr.mk ?_) | ((first | refine br_go ?_ ?_ | refine pick_go ?_ ?_) <;> intro ee f <;> (try simp only [BB] at f) <;> (try simp only [numOk, verOk] at f)) | (have ee := True.intro; first | refine call_x (impl_within _ _ _) rfl ⟨rfl⟩ ?_ | refine call_x (strings_HasPrefix _ _) rfl ⟨rfl⟩ ?_)) <;> (try simp (maxSteps := 1000000) (disch := first | omega | (simp only [LN, numOk, verOk, rfP, rvP, rhP] <;> omega) | exact Ck.mk rfl) only [ee, VC, T, Nat.reduceMul, Nat.reduceAdd, Nat.reduceSub, Nat.reduceLT, Nat.reduceEqDiff, Nat.reduceLeDiff, Nat.reduceBEq, reduceCtorEq, Int.reduceToNat, ↓reduceIte, rfP, rvP, rhP]) <;> (try clear ee))
  · rw [hasPre_at _ _ _ (by omega) (by omega)]
  · rw [hasAt_no _ _ _ f]
theorem spec_EndMark (v p : Int) : Fn Tryz.prog 69 [.int .i64 v, .int .i64 p] [] (.str (endMark v p)) [] := by
  have b1 := fixT_le p 8
  have b2 := fixT_le 4294967295 4
  have b3 := fixT_le (sumOf (fixT p 8 ++ fixT 4294967295 4)) 4
  refine fn_x tok (n := 25) (rs := [.tmp 4]) Tryz.func69 (by decide) rfl rfl rfl rfl ?_
  refine Wr.go ?_
  repeat' ((first | (have ee := True.intro; refine Wr.mk ?_) | ((first | refine br_go ?_ ?_ | refine pick_go ?_ ?_) <;> intro ee f <;> (try simp only [BB] at f) <;> (try simp only [numOk, verOk] at f)) | (have ee := True.intro; first | refine call_x (spec_l01In _ _ _) rfl ⟨rfl⟩ ?_ | refine call_x (spec_FixText _ _ (sumOf_lt _)) rfl ⟨rfl⟩ ?_ | refine call_x (spec_FixText _ _ (by omega)) rfl ⟨rfl⟩ ?_ | refine call_x (spec_SumOf _ (by rw [ByteArray.size_append]; omega)) rfl ⟨rfl⟩ ?_)) <;> (try simp (maxSteps := 1000000) (disch := first | omega | (simp only [LN, numOk, verOk, rfP, rvP, rhP] <;> omega) | exact Ck.mk rfl) only [ee, VC, T, Nat.reduceMul, Nat.reduceAdd, Nat.reduceSub, Nat.reduceLT, Nat.reduceEqDiff, Nat.reduceLeDiff, Nat.reduceBEq, reduceCtorEq, Int.reduceToNat, ↓reduceIte, rfP, rvP, rhP]) <;> (try clear ee))
  all_goals (unfold endMark; (repeat first | rw [if_pos (by (try simp only [verOk, numOk]); omega)] | rw [if_neg (by (try simp only [verOk, numOk]); omega)]); try rfl)
theorem impl_sized (p n : Int) (hp : p < 9223372036854775808) (hn : n < 9223372036854775808) : Fn Tryz.prog 129 [.int .i64 p, .int .i64 n] [] (.str (sizedT p n)) [] := by
  have b1 := fixT_le p 8
  have b2 := fixT_le n 4
  have b3 := fixT_le (sumOf (fixT p 8 ++ fixT n 4)) 4
  refine fn_x tok (n := 16) (rs := [.tmp 4]) Tryz.func129 (by decide) rfl rfl rfl rfl ?_
  refine Wr.go ?_
  repeat' ((first | (have ee := True.intro; refine Wr.mk ?_) | ((first | refine br_go ?_ ?_ | refine pick_go ?_ ?_) <;> intro ee f <;> (try simp only [BB] at f) <;> (try simp only [numOk, verOk] at f)) | (have ee := True.intro; first | refine call_x (impl_FixText _ _ (sumOf_lt _)) rfl ⟨rfl⟩ ?_ | refine call_x (impl_FixText _ _ (by omega)) rfl ⟨rfl⟩ ?_ | refine call_x (impl_SumOf _ (by rw [ByteArray.size_append]; omega)) rfl ⟨rfl⟩ ?_)) <;> (try simp (maxSteps := 1000000) (disch := first | omega | (simp only [LN, numOk, verOk, rfP, rvP, rhP] <;> omega) | exact Ck.mk rfl) only [ee, VC, T, Nat.reduceMul, Nat.reduceAdd, Nat.reduceSub, Nat.reduceLT, Nat.reduceEqDiff, Nat.reduceLeDiff, Nat.reduceBEq, reduceCtorEq, Int.reduceToNat, ↓reduceIte, rfP, rvP, rhP]) <;> (try clear ee))
  all_goals rfl
theorem impl_EndMark (v p : Int) : Fn Tryz.prog 90 [.int .i64 v, .int .i64 p] [] (.str (endMark v p)) [] := by
  refine fn_x tok (n := 19) (rs := [.tmp 4]) Tryz.func90 (by decide) rfl rfl rfl rfl ?_
  refine Wr.go ?_
  repeat' ((first | (have ee := True.intro; refine Wr.mk ?_) | ((first | refine br_go ?_ ?_ | refine pick_go ?_ ?_) <;> intro ee f <;> (try simp only [BB] at f) <;> (try simp only [numOk, verOk] at f)) | (have ee := True.intro; first | refine call_x (impl_isVersion _) rfl ⟨rfl⟩ ?_ | refine call_x (impl_isNumber _) rfl ⟨rfl⟩ ?_ | refine call_x (impl_sized _ _ (by omega) (by omega)) rfl ⟨rfl⟩ ?_)) <;> (try simp (maxSteps := 1000000) (disch := first | omega | (simp only [LN, numOk, verOk, rfP, rvP, rhP] <;> omega) | exact Ck.mk rfl) only [ee, VC, T, Nat.reduceMul, Nat.reduceAdd, Nat.reduceSub, Nat.reduceLT, Nat.reduceEqDiff, Nat.reduceLeDiff, Nat.reduceBEq, reduceCtorEq, Int.reduceToNat, ↓reduceIte, rfP, rvP, rhP]) <;> (try clear ee))
  all_goals (unfold endMark; (repeat first | rw [if_pos (by (try simp only [verOk, numOk]); omega)] | rw [if_neg (by (try simp only [verOk, numOk]); omega)]); try rfl)
theorem spec_FrameText (v p : Int) (r : ByteArray) (hr : r.size ≤ 140737488355328) : Fn Tryz.prog 137 [.int .i64 v, .int .i64 p, .str r] [] (.str (frameT v p r)) [] := by
  have b1 := fixT_le p 8
  have b2 := fixT_le r.size 4
  have b3 := fixT_le (sumOf (fixT p 8 ++ fixT r.size 4)) 4
  have b4 := fixT_le (sumOf r) 4
  have b5 := varT_le r.size
  refine fn_x tok (n := 49) (rs := [.tmp 6]) Tryz.func137 (by decide) rfl rfl rfl rfl ?_
  refine Wr.go ?_
  repeat' ((first | (have ee := True.intro; refine Wr.mk ?_) | ((first | refine br_go ?_ ?_ | refine pick_go ?_ ?_) <;> intro ee f <;> (try simp only [BB] at f) <;> (try simp only [numOk, verOk] at f)) | (have ee := True.intro; first | refine call_x (spec_l01In _ _ _) rfl ⟨rfl⟩ ?_ | refine call_x (spec_FixText _ _ (sumOf_lt _)) rfl ⟨rfl⟩ ?_ | refine call_x (spec_FixText _ _ (by omega)) rfl ⟨rfl⟩ ?_ | refine call_x (spec_SumOf _ (by first | omega | (rw [ByteArray.size_append]; omega))) rfl ⟨rfl⟩ ?_ | refine call_x (spec_VarText _) rfl ⟨rfl⟩ ?_)) <;> (try simp (maxSteps := 1000000) (disch := first | omega | (simp only [LN, numOk, verOk, rfP, rvP, rhP] <;> omega) | exact Ck.mk rfl) only [ee, VC, T, Nat.reduceMul, Nat.reduceAdd, Nat.reduceSub, Nat.reduceLT, Nat.reduceEqDiff, Nat.reduceLeDiff, Nat.reduceBEq, reduceCtorEq, Int.reduceToNat, ↓reduceIte, rfP, rvP, rhP]) <;> (try clear ee))
  all_goals (unfold frameT; (repeat first | rw [if_pos (by (try simp only [verOk, numOk]); omega)] | rw [if_neg (by (try simp only [verOk, numOk]); omega)]); try rfl)
theorem impl_FrameText (v p : Int) (r : ByteArray) (hr : r.size ≤ 140737488355328) : Fn Tryz.prog 157 [.int .i64 v, .int .i64 p, .str r] [] (.str (frameT v p r)) [] := by
  have b3 := sizedT_le p r.size
  have b4 := fixT_le (sumOf r) 4
  have b5 := varT_le r.size
  refine fn_x tok (n := 37) (rs := [.tmp 6]) Tryz.func157 (by decide) rfl rfl rfl rfl ?_
  refine Wr.go ?_
  repeat' ((first | (have ee := True.intro; refine Wr.mk ?_) | ((first | refine br_go ?_ ?_ | refine pick_go ?_ ?_) <;> intro ee f <;> (try simp only [BB] at f) <;> (try simp only [numOk, verOk] at f)) | (have ee := True.intro; first | refine call_x (impl_isVersion _) rfl ⟨rfl⟩ ?_ | refine call_x (impl_isNumber _) rfl ⟨rfl⟩ ?_ | refine call_x (impl_sized _ _ (by omega) (by omega)) rfl ⟨rfl⟩ ?_ | refine call_x (impl_FixText _ _ (sumOf_lt _)) rfl ⟨rfl⟩ ?_ | refine call_x (impl_SumOf _ (by omega)) rfl ⟨rfl⟩ ?_ | refine call_x (impl_VarText _) rfl ⟨rfl⟩ ?_)) <;> (try simp (maxSteps := 1000000) (disch := first | omega | (simp only [LN, numOk, verOk, rfP, rvP, rhP] <;> omega) | exact Ck.mk rfl) only [ee, VC, T, Nat.reduceMul, Nat.reduceAdd, Nat.reduceSub, Nat.reduceLT, Nat.reduceEqDiff, Nat.reduceLeDiff, Nat.reduceBEq, reduceCtorEq, Int.reduceToNat, ↓reduceIte, rfP, rvP, rhP]) <;> (try clear ee))
  all_goals (unfold frameT; (repeat first | rw [if_pos (by (try simp only [verOk, numOk]); omega)] | rw [if_neg (by (try simp only [verOk, numOk]); omega)]); try rfl)
theorem markAt_0 {v p : Int} {b : ByteArray} {a : Int} (h : (endMark v p).size = 0) : markAt v p b a = false := by unfold markAt; simp [h]
theorem markAt_1 {v p : Int} {b : ByteArray} {a : Int} (h : ¬ (endMark v p).size = 0) : markAt v p b a = hasAt b a (endMark v p) := by unfold markAt; simp [h]
theorem spec_MarkAt (v p : Int) (b : ByteArray) (hb : b.size ≤ 140737488355328) (a : Int) (ha0 : -9223372036854775808 ≤ a) (ha : a ≤ 9223372036854775807) : Fn Tryz.prog 99 [.int .i64 v, .int .i64 p, .str b, .int .i64 a] [] (.bool (markAt v p b a)) [] := by
  have hm := endMark_le v p
  refine fn_x tok (n := 35) (rs := [.tmp 8]) Tryz.func99 (by decide) rfl rfl rfl rfl ?_
  refine Wr.go ?_
  repeat' ((first | (have ee := True.intro; refine Wr.mk ?_) | ((first | refine br_go ?_ ?_ | refine pick_go ?_ ?_) <;> intro ee f <;> (try simp only [BB] at f) <;> (try simp only [numOk, verOk] at f)) | (have ee := True.intro; first | refine call_x (spec_EndMark _ _) rfl ⟨rfl⟩ ?_ | refine call_x (spec_l01In _ _ _) rfl ⟨rfl⟩ ?_)) <;> (try simp (maxSteps := 1000000) (disch := first | omega | (simp only [LN, numOk, verOk, rfP, rvP, rhP, wsmall] <;> omega) | exact Ck.mk rfl) only [ee, VC, T, Nat.reduceMul, Nat.reduceAdd, Nat.reduceSub, Nat.reduceLT, Nat.reduceEqDiff, Nat.reduceLeDiff, Nat.reduceBEq, reduceCtorEq, Int.reduceToNat, ↓reduceIte, rfP, rvP, rhP, wsmall]) <;> (try clear ee))
  · rw [markAt_0 f]
  · rename_i h
    rw [markAt_1 h]
    unfold hasAt
    congr 1
    rw [decide_eq_decide, show (a + ((endMark v p).size : Int)).toNat = a.toNat + (endMark v p).size by omega]
    exact ⟨fun h2 => ⟨by omega, by omega, h2⟩, fun h2 => h2.2.2⟩
  · rename_i h
    rw [markAt_1 h]
    unfold hasAt
    congr 1
    rw [eq_comm, decide_eq_false_iff_not]
    intro h2
    exact f ⟨h2.1, by omega⟩
theorem impl_MarkAt (v p : Int) (b : ByteArray) (_ : b.size ≤ 140737488355328) (a : Int) (_ : -9223372036854775808 ≤ a) (_ : a ≤ 9223372036854775807) : Fn Tryz.prog 118 [.int .i64 v, .int .i64 p, .str b, .int .i64 a] [] (.bool (markAt v p b a)) [] := by
  refine fn_x tok (n := 21) (rs := [.tmp 8]) Tryz.func118 (by decide) rfl rfl rfl rfl ?_
  refine Wr.go ?_
  repeat' ((first | (have ee := True.intro; refine Wr.mk ?_) | ((first | refine br_go ?_ ?_ | refine pick_go ?_ ?_) <;> intro ee f <;> (try simp only [BB] at f) <;> (try simp only [numOk, verOk] at f)) | (have ee := True.intro; first | refine call_x (impl_EndMark _ _) rfl ⟨rfl⟩ ?_ | refine call_x (impl_hasAt _ _ _) rfl ⟨rfl⟩ ?_)) <;> (try simp (maxSteps := 1000000) (disch := first | omega | (simp only [LN, numOk, verOk, rfP, rvP, rhP] <;> omega) | exact Ck.mk rfl) only [ee, VC, T, Nat.reduceMul, Nat.reduceAdd, Nat.reduceSub, Nat.reduceLT, Nat.reduceEqDiff, Nat.reduceLeDiff, Nat.reduceBEq, reduceCtorEq, Int.reduceToNat, ↓reduceIte, rfP, rvP, rhP]) <;> (try clear ee))
  · rw [markAt_0 f]
  · rw [markAt_1 f]
theorem rvI_no (b : ByteArray) (a : Nat) : ∀ (d i : Nat), (rvI b a d i).2.2 = false → rvI b a d i = (0, 0, false)
  | 0, i, _ => rfl
  | d + 1, i, h => by
    unfold rvI at h ⊢
    split at h
    · rename_i h1
      rw [if_pos h1]
      split at h
      · rename_i h2
        rw [if_pos h2]; exact rvI_no b a d (i + 1) h
      · rename_i h2
        rw [if_neg h2]
        split at h
        · rename_i h3; rw [if_pos h3]
        · cases h
    · rename_i h1; rw [if_neg h1]
theorem rv_any (b : ByteArray) (a : Int) : 0 ≤ (rv b a).1 ∧ (rv b a).1 ≤ 1000000000 ∧ 0 ≤ (rv b a).2.1 ∧ (rv b a).2.1 ≤ b.size := by
  cases h : (rv b a).2.2 with
  | true => have := rv_range b a h; omega
  | false =>
    have : rv b a = (0, 0, false) := by
      unfold rv at h ⊢
      split
      · rename_i h0; rw [if_pos h0] at h; exact rvI_no b _ _ _ h
      · rfl
    rw [this]; simp
def frP (x : ByteArray × Int × Bool) : PV := .tup [.str x.1, .int .i64 x.2.1, .bool x.2.2]
theorem rFrameQ_no {v p : Int} {b : ByteArray} {a : Int} {q : Int × Int × Bool} (h : ¬ ((verOk v ∧ numOk p ∧ 0 ≤ a ∧ a ≤ b.size) ∧ q.2.2 = true ∧ q.1 ≤ 60 ∧ q.2.1 + q.1 ≤ b.size ∧ hasAt b a (frameT v p (b.extract q.2.1.toNat (q.2.1 + q.1).toNat)) = true)) : rFrameQ v p b a q = (⟨#[]⟩, 0, false) := if_neg h
theorem rFrameQ_ok {v p : Int} {b : ByteArray} {a : Int} {q : Int × Int × Bool} (h : (verOk v ∧ numOk p ∧ 0 ≤ a ∧ a ≤ b.size) ∧ q.2.2 = true ∧ q.1 ≤ 60 ∧ q.2.1 + q.1 ≤ b.size ∧ hasAt b a (frameT v p (b.extract q.2.1.toNat (q.2.1 + q.1).toNat)) = true) : rFrameQ v p b a q = (b.extract q.2.1.toNat (q.2.1 + q.1).toNat, a + ((frameT v p (b.extract q.2.1.toNat (q.2.1 + q.1).toNat)).size : Int), true) := if_pos h
theorem rfix_ok4 {b : ByteArray} {a : Int} (h : (rfix b a 4).2 = true) : 0 ≤ a ∧ a ≤ (b.size : Int) - 4 := by
  unfold rfix at h
  split at h
  · rename_i h1; exact h1.2
  · cases h
theorem spec_ReadFrame (v p : Int) (b : ByteArray) (hb : b.size ≤ 140737488355328) (a : Int) (ha0 : -9223372036854775808 ≤ a) (ha : a ≤ 9223372036854775807) : Fn Tryz.prog 100 [.int .i64 v, .int .i64 p, .str b, .int .i64 a] [] (frP (rFrame v p b a)) [] := by
  have r1 := rfix_range b a 4
  have r2 := rv_any b a
  have r3 := @rfix_ok4 b a
  have hl := fun r => frameT_le v p r
  refine fn_x tok (n := 95) (rs := [.tmp 8, .tmp 9, .tmp 10]) Tryz.func100 (by decide) rfl rfl rfl rfl ?_
  refine Wr.go ?_
  repeat' ((first | (have ee := True.intro; refine Wr.mk ?_) | ((first | refine br_go ?_ ?_ | refine pick_go ?_ ?_) <;> intro ee f <;> (try simp only [BB] at f) <;> (try simp only [numOk, verOk] at f)) | (have ee := True.intro; first | refine call_x (spec_l01In _ _ _) rfl ⟨rfl⟩ ?_ | refine call_x (spec_ReadVar b hb _ ha0 ha) rfl ⟨rfl⟩ ?_ | refine call_x (spec_ReadFix b hb _ _ ha0 ha (by omega) (by omega)) rfl ⟨rfl⟩ ?_ | refine call_x (spec_FrameText _ _ _ (by rw [ByteArray.size_extract]; omega)) rfl ⟨rfl⟩ ?_)) <;> (try simp (maxSteps := 1000000) (disch := first | omega | (simp only [LN, numOk, verOk, rfP, rvP, rhP, wsmall, ByteArray.size_extract] <;> omega) | exact Ck.mk rfl) only [ee, VC, T, Nat.reduceMul, Nat.reduceAdd, Nat.reduceSub, Nat.reduceLT, Nat.reduceEqDiff, Nat.reduceLeDiff, Nat.reduceBEq, reduceCtorEq, Int.reduceToNat, ↓reduceIte, rfP, rvP, rhP, wsmall, ByteArray.size_extract]) <;> (try clear ee))
  all_goals (unfold rFrame fq; (first | rw [if_pos (by omega)] | rw [if_neg (by omega)] | skip); first
    | (rw [rFrameQ_ok ⟨⟨by simp only [verOk]; omega, by simp only [numOk]; omega, by omega, by omega⟩, by assumption, by (try simp only); omega, by (try simp only); omega, by
        rw [hasAt_iff]
        refine ⟨by omega, by (try simp only); omega, ?_⟩
        try simp only
        rw [← Int.toNat_natCast (frameT _ _ _).size, ← Int.toNat_add (by omega) (by omega)]
        exact f⟩]; rfl)
    | (rw [rFrameQ_no ?_]; rfl
       rintro ⟨⟨h1, h2, h3, h4⟩, h5, h6, h7, h8⟩
       simp only [verOk, numOk] at *
       first
         | omega
         | (exact absurd h5 (by rw [f]; decide))
         | (have h9 := rv_range _ _ h5; omega)
         | (have h9 := (hasAt_iff _ _ _).1 h8; omega)
         | (refine f ?_; rw [Int.toNat_add (by omega) (by omega), Int.toNat_natCast]; exact ((hasAt_iff _ _ _).1 h8).2.2)))
theorem frameT_pos' (v p : Int) (r : ByteArray) (hr : r.size ≤ 60) (h : ¬ (frameT v p r).size = 0) : verOk v ∧ numOk p := by
  by_cases hx : verOk v ∧ numOk p ∧ r.size ≤ 60
  · exact ⟨hx.1, hx.2.1⟩
  · exfalso
    apply h
    unfold frameT
    rw [if_neg hx]
    rfl
theorem impl_ReadFrame (v p : Int) (b : ByteArray) (hb : b.size ≤ 140737488355328) (a : Int) (ha0 : -9223372036854775808 ≤ a) (ha : a ≤ 9223372036854775807) : Fn Tryz.prog 119 [.int .i64 v, .int .i64 p, .str b, .int .i64 a] [] (frP (rFrame v p b a)) [] := by
  have r1 := rfix_range b a 4
  have r2 := rv_any b a
  have hl := fun r => frameT_le v p r
  have hq : frP (rFrameQ v p b a (fq v b a)) = frP (rFrame v p b a) := rfl
  rw [← hq]
  have no : ∀ q : Int × Int × Bool, (verOk v ∧ numOk p ∧ 0 ≤ a ∧ a ≤ b.size → q.2.2 = true → q.1 ≤ 60 → q.2.1 + q.1 ≤ b.size → hasAt b a (frameT v p (b.extract q.2.1.toNat (q.2.1 + q.1).toNat)) = true → False) → PV.tup [.str ⟨#[]⟩, .int .i64 0, .bool false] = frP (rFrameQ v p b a q) := fun q h => by
    rw [rFrameQ_no fun k => h k.1 k.2.1 k.2.2.1 k.2.2.2.1 k.2.2.2.2]; rfl
  have emp : ∀ q : Int × Int × Bool, q.1 ≤ 60 → 0 ≤ q.1 → 0 ≤ q.2.1 → q.2.1 + q.1 ≤ b.size → (frameT v p (b.extract q.2.1.toNat (q.2.1 + q.1).toNat)).size = 0 → PV.tup [.str ⟨#[]⟩, .int .i64 0, .bool false] = frP (rFrameQ v p b a q) := fun q h1 h2 h3 h4 h5 => no q fun k _ _ _ _ => by
    have := frameT_pos v p (b.extract q.2.1.toNat (q.2.1 + q.1).toNat) k.1 k.2.1 (by rw [ByteArray.size_extract]; omega)
    omega
  have ok : ∀ q : Int × Int × Bool, q.2.2 = true → 0 ≤ a → a ≤ b.size → 0 ≤ q.1 → q.1 ≤ 60 → 0 ≤ q.2.1 → q.2.1 + q.1 ≤ b.size → ¬ (frameT v p (b.extract q.2.1.toNat (q.2.1 + q.1).toNat)).size = 0 → hasAt b a (frameT v p (b.extract q.2.1.toNat (q.2.1 + q.1).toNat)) = true →
      PV.tup [.str (b.extract q.2.1.toNat (q.2.1 + q.1).toNat), .int .i64 (a + ((frameT v p (b.extract q.2.1.toNat (q.2.1 + q.1).toNat)).size : Int)), .bool true] = frP (rFrameQ v p b a q) := fun q h1 h2 h3 h4 h5 h6 h7 h8 ht => by
    obtain ⟨v1, p1⟩ := frameT_pos' v p _ (by rw [ByteArray.size_extract]; omega) h8
    rw [rFrameQ_ok ⟨⟨v1, p1, h2, h3⟩, h1, h5, h7, ht⟩]; rfl
  by_cases hv : v = 2
  · have hf : fq v b a = ((rfix b a 4).1, a + 8, (rfix b a 4).2) := if_pos hv
    rw [hf]
    cases hr : (rfix b a 4).2 with
    | true =>
      have r3 := rfix_ok4 hr
      have hl1 := frameT_le v p (b.extract (a + 8).toNat (a + 8 + (rfix b a 4).1).toNat)
      refine fn_x tok (n := 77) (rs := [.tmp 8, .tmp 9, .tmp 10]) Tryz.func119 (by decide) rfl rfl rfl rfl ?_
      refine Wr.go ?_
      repeat' ((first | (have ee := True.intro; refine Wr.mk ?_) | ((first | refine br_go ?_ ?_ | refine pick_go ?_ ?_) <;> intro ee f <;> (try simp only [BB] at f) <;> (try simp only [numOk, verOk] at f)) | (have ee := True.intro; first | refine call_x (impl_ReadFix b hb _ _ ha0 ha (by omega) (by omega)) rfl ⟨rfl⟩ ?_ | refine call_x (impl_FrameText _ _ _ (by rw [ByteArray.size_extract]; omega)) rfl ⟨rfl⟩ ?_ | refine call_x (impl_hasAt _ _ _) rfl ⟨rfl⟩ ?_)) <;> (try simp (maxSteps := 1000000) (disch := first | omega | (simp only [LN, numOk, verOk, rfP, rvP, rhP, wsmall, ByteArray.size_extract, hr] <;> omega) | exact Ck.mk rfl) only [ee, VC, T, Nat.reduceMul, Nat.reduceAdd, Nat.reduceSub, Nat.reduceLT, Nat.reduceEqDiff, Nat.reduceLeDiff, Nat.reduceBEq, reduceCtorEq, Int.reduceToNat, ↓reduceIte, rfP, rvP, rhP, wsmall, ByteArray.size_extract, hr]) <;> (try clear ee))
      all_goals first
        | (refine no ((rfix b a 4).1, a + 8, true) fun _ _ h1 h2 _ => ?_; (try simp only at h1 h2); omega)
        | (refine emp ((rfix b a 4).1, a + 8, true) ?_ ?_ ?_ ?_ f <;> (try simp only) <;> omega)
        | exact ok ((rfix b a 4).1, a + 8, true) (by first | rfl | exact hr) (by omega) (by omega) (by (try simp only); omega) (by (try simp only); omega) (by (try simp only); omega) (by (try simp only); omega) (by assumption) f
        | exact no ((rfix b a 4).1, a + 8, true) fun _ _ _ _ h => Bool.noConfusion (f.symm.trans h)
    | false =>
      refine fn_x tok (n := 77) (rs := [.tmp 8, .tmp 9, .tmp 10]) Tryz.func119 (by decide) rfl rfl rfl rfl ?_
      refine Wr.go ?_
      repeat' ((first | (have ee := True.intro; refine Wr.mk ?_) | ((first | refine br_go ?_ ?_ | refine pick_go ?_ ?_) <;> intro ee f <;> (try simp only [BB] at f) <;> (try simp only [numOk, verOk] at f)) | (have ee := True.intro; first | refine call_x (impl_ReadFix b hb _ _ ha0 ha (by omega) (by omega)) rfl ⟨rfl⟩ ?_)) <;> (try simp (maxSteps := 1000000) (disch := first | omega | (simp only [LN, numOk, verOk, rfP, rvP, rhP, hr] <;> omega) | exact Ck.mk rfl) only [ee, VC, T, Nat.reduceMul, Nat.reduceAdd, Nat.reduceSub, Nat.reduceLT, Nat.reduceEqDiff, Nat.reduceLeDiff, Nat.reduceBEq, reduceCtorEq, Int.reduceToNat, ↓reduceIte, rfP, rvP, rhP, hr]) <;> (try clear ee))
      rw [rFrameQ_no (fun k => Bool.noConfusion k.2.1)]; rfl
  · have hf : fq v b a = rv b a := if_neg hv
    rw [hf]
    cases hr : (rv b a).2.2 with
    | true =>
      have r3 := rv_range b a hr
      have hl1 := frameT_le v p (b.extract (rv b a).2.1.toNat ((rv b a).2.1 + (rv b a).1).toNat)
      refine fn_x tok (n := 77) (rs := [.tmp 8, .tmp 9, .tmp 10]) Tryz.func119 (by decide) rfl rfl rfl rfl ?_
      refine Wr.go ?_
      repeat' ((first | (have ee := True.intro; refine Wr.mk ?_) | ((first | refine br_go ?_ ?_ | refine pick_go ?_ ?_) <;> intro ee f <;> (try simp only [BB] at f) <;> (try simp only [numOk, verOk] at f)) | (have ee := True.intro; first | refine call_x (impl_ReadVar b hb _ ha0 ha) rfl ⟨rfl⟩ ?_ | refine call_x (impl_FrameText _ _ _ (by rw [ByteArray.size_extract]; omega)) rfl ⟨rfl⟩ ?_ | refine call_x (impl_hasAt _ _ _) rfl ⟨rfl⟩ ?_)) <;> (try simp (maxSteps := 1000000) (disch := first | omega | (simp only [LN, numOk, verOk, rfP, rvP, rhP, wsmall, ByteArray.size_extract, hr] <;> omega) | exact Ck.mk rfl) only [ee, VC, T, Nat.reduceMul, Nat.reduceAdd, Nat.reduceSub, Nat.reduceLT, Nat.reduceEqDiff, Nat.reduceLeDiff, Nat.reduceBEq, reduceCtorEq, Int.reduceToNat, ↓reduceIte, rfP, rvP, rhP, wsmall, ByteArray.size_extract, hr]) <;> (try clear ee))
      all_goals first
        | (refine no (rv b a) fun _ _ h1 h2 _ => ?_; (try simp only at h1 h2); omega)
        | (refine emp (rv b a) ?_ ?_ ?_ ?_ f <;> (try simp only) <;> omega)
        | exact ok (rv b a) (by first | rfl | exact hr) (by omega) (by omega) (by (try simp only); omega) (by (try simp only); omega) (by (try simp only); omega) (by (try simp only); omega) (by assumption) f
        | exact no (rv b a) fun _ _ _ _ h => Bool.noConfusion (f.symm.trans h)
    | false =>
      refine fn_x tok (n := 77) (rs := [.tmp 8, .tmp 9, .tmp 10]) Tryz.func119 (by decide) rfl rfl rfl rfl ?_
      refine Wr.go ?_
      repeat' ((first | (have ee := True.intro; refine Wr.mk ?_) | ((first | refine br_go ?_ ?_ | refine pick_go ?_ ?_) <;> intro ee f <;> (try simp only [BB] at f) <;> (try simp only [numOk, verOk] at f)) | (have ee := True.intro; first | refine call_x (impl_ReadVar b hb _ ha0 ha) rfl ⟨rfl⟩ ?_)) <;> (try simp (maxSteps := 1000000) (disch := first | omega | (simp only [LN, numOk, verOk, rfP, rvP, rhP, hr] <;> omega) | exact Ck.mk rfl) only [ee, VC, T, Nat.reduceMul, Nat.reduceAdd, Nat.reduceSub, Nat.reduceLT, Nat.reduceEqDiff, Nat.reduceLeDiff, Nat.reduceBEq, reduceCtorEq, Int.reduceToNat, ↓reduceIte, rfP, rvP, rhP, hr]) <;> (try clear ee))
      rw [rFrameQ_no (fun k => Bool.noConfusion (hr.symm.trans k.2.1))]; rfl
end Go.Pv

/- What functions of the program and of the reference do, in plain values. -/
namespace Go.Pv
open Go.Proofs Go.Mth
set_option linter.unusedSimpArgs false
set_option linter.unusedVariables false
set_option maxHeartbeats 4000000
set_option maxRecDepth 4000

/-! ### trailers -/
theorem trailGo_step (acc : ByteArray) (l : List Int) (i : Nat) (h : i < l.length) : trailGo acc (l.drop i) = if (fixT (l.getD i default) 4).size = 0 then ⟨#[]⟩ else trailGo (acc ++ fixT (l.getD i default) 4) (l.drop (i + 1)) := by
  rw [List.drop_eq_getElem_cons h, List.getD_eq_getElem?_getD, List.getElem?_eq_getElem h]; rfl
theorem impl_TrailerText (a b c d : Int) (hm : ∀ x ∈ [a, b, c, d], x < 9223372036854775808) : Fn Tryz.prog 93 [.int .i64 a, .int .i64 b, .int .i64 c, .int .i64 d] [] (.str (trailT a b c d)) [] := by
  refine fn_x tok (n := 33) (rs := [.tmp 8]) Tryz.func93 (by decide) rfl rfl rfl rfl ?_
  refine Wr.go ?_
  repeat' ((first | (have ee := True.intro; refine Wr.mk ?_) | ((first | refine br_go ?_ ?_ | refine pick_go ?_ ?_) <;> intro ee f <;> (try simp only [BB] at f) <;> (try simp only [numOk, verOk] at f))) <;> (try simp (maxSteps := 1000000) (disch := first | omega | (simp only [LN, numOk, verOk, rfP, rvP, rhP, frP] <;> omega) | exact Ck.mk rfl) only [ee, VC, T, Nat.reduceMul, Nat.reduceAdd, Nat.reduceSub, Nat.reduceLT, Nat.reduceEqDiff, Nat.reduceLeDiff, Nat.reduceBEq, reduceCtorEq, Int.reduceToNat, ↓reduceIte, rfP, rvP, rhP, frP]) <;> (try clear ee))
  generalize hq : trailT a b c d = q
  generalize hl : [a, b, c, d] = l at hm
  have ll : l.length = 4 := by rw [← hl]; rfl
  refine lp_go (fun x : Nat × ByteArray => ⟨33, [(9, .str x.2), (17, .row 1152 4), (18, .int .i64 4), (19, .int .i64 x.1)], [(1152, .row ⟨1, 0⟩ (l.map (.int .i64)))]⟩) (fun x => x.1 ≤ 4 ∧ x.2.size ≤ 10 * x.1 ∧ q = trailGo x.2 (l.drop x.1)) (fun x => 4 - x.1) (0, ⟨#[]⟩) ?_ ?_ ?_
  · (simp (disch := first | omega | (simp only [LN, numOk, verOk] <;> omega) | exact Ck.mk rfl) only [SB, EQ, Nat.reduceMul, Nat.reduceAdd, Nat.reduceSub, Nat.reduceLT, Nat.reduceEqDiff, Nat.reduceLeDiff, Nat.reduceBEq, reduceCtorEq, Int.reduceToNat, ↓reduceIte]; try omega); rw [← hl]; exact ⟨rfl, rfl⟩
  · exact ⟨by simp only; omega, Nat.le_refl _, by rw [← hq, ← hl]; rfl⟩
  · rintro ⟨i, s⟩ ⟨h1, h2, h3⟩ N hN
    simp only at h1 h2 h3
    have b1 := fixT_le (l.getD i default) 4
    have hm' : i < 4 → l.getD i default < 9223372036854775808 := fun h => hm _ (by rw [List.getD_eq_getElem?_getD, List.getElem?_eq_getElem (by omega)]; exact List.getElem_mem _)
    have hs := trailGo_step s l i
    refine Wr.go ?_
    repeat' ((first | (have ee := True.intro; refine Wr.mk ?_) | ((first | refine br_go ?_ ?_ | refine pick_go ?_ ?_) <;> intro ee f <;> (try simp only [BB] at f) <;> (try simp only [numOk, verOk] at f)) | (have ee := True.intro; first | refine call_x (impl_FixText _ _ (hm' (by omega))) rfl ⟨rfl⟩ ?_)) <;> (try simp (maxSteps := 1000000) (disch := first | omega | (simp only [LN, numOk, verOk, rfP, rvP, rhP, frP] <;> omega) | exact Ck.mk rfl) only [ee, VC, T, Nat.reduceMul, Nat.reduceAdd, Nat.reduceSub, Nat.reduceLT, Nat.reduceEqDiff, Nat.reduceLeDiff, Nat.reduceBEq, reduceCtorEq, Int.reduceToNat, ↓reduceIte, rfP, rvP, rhP, frP]) <;> (try clear ee))
    · rw [h3, hs (by omega), if_pos f]
    · refine hN (i + 1, s ++ fixT (l.getD i default) 4) _ ⟨by simp only; omega, by simp only [ByteArray.size_append]; omega, ?_⟩ (by simp only; omega) ?_
      · rw [h3, hs (by omega), if_neg f]
      · (simp (disch := first | omega | (simp only [LN, numOk, verOk] <;> omega) | exact Ck.mk rfl) only [SB, EQ, Nat.reduceMul, Nat.reduceAdd, Nat.reduceSub, Nat.reduceLT, Nat.reduceEqDiff, Nat.reduceLeDiff, Nat.reduceBEq, reduceCtorEq, Int.reduceToNat, ↓reduceIte]; try omega)
    · obtain rfl : i = 4 := by omega
      rw [h3, List.drop_eq_nil_of_le (by omega)]; rfl
theorem spec_TrailerText (a b c d : Int) (hm : ∀ x ∈ [a, b, c, d], x < 9223372036854775808) : Fn Tryz.prog 72 [.int .i64 a, .int .i64 b, .int .i64 c, .int .i64 d] [] (.str (trailT a b c d)) [] := by
  refine fn_x tok (n := 34) (rs := [.tmp 8]) Tryz.func72 (by decide) rfl rfl rfl rfl ?_
  refine Wr.go ?_
  repeat' ((first | (have ee := True.intro; refine Wr.mk ?_) | ((first | refine br_go ?_ ?_ | refine pick_go ?_ ?_) <;> intro ee f <;> (try simp only [BB] at f) <;> (try simp only [numOk, verOk] at f))) <;> (try simp (maxSteps := 1000000) (disch := first | omega | (simp only [LN, numOk, verOk, rfP, rvP, rhP, frP] <;> omega) | exact Ck.mk rfl) only [ee, VC, T, Nat.reduceMul, Nat.reduceAdd, Nat.reduceSub, Nat.reduceLT, Nat.reduceEqDiff, Nat.reduceLeDiff, Nat.reduceBEq, reduceCtorEq, Int.reduceToNat, ↓reduceIte, rfP, rvP, rhP, frP]) <;> (try clear ee))
  generalize hq : trailT a b c d = q
  generalize hl : [a, b, c, d] = l at hm
  have ll : l.length = 4 := by rw [← hl]; rfl
  refine lp_go (fun x : Nat × ByteArray => ⟨34, [(9, .str x.2), (10, .row 1152 4), (11, .int .i64 x.1)], [(1152, .row ⟨1, 0⟩ (l.map (.int .i64)))]⟩) (fun x => x.1 ≤ 4 ∧ x.2.size ≤ 10 * x.1 ∧ q = trailGo x.2 (l.drop x.1)) (fun x => 4 - x.1) (0, ⟨#[]⟩) ?_ ?_ ?_
  · (simp (disch := first | omega | (simp only [LN, numOk, verOk] <;> omega) | exact Ck.mk rfl) only [SB, EQ, Nat.reduceMul, Nat.reduceAdd, Nat.reduceSub, Nat.reduceLT, Nat.reduceEqDiff, Nat.reduceLeDiff, Nat.reduceBEq, reduceCtorEq, Int.reduceToNat, ↓reduceIte]; try omega); rw [← hl]; rfl
  · exact ⟨by simp only; omega, Nat.le_refl _, by rw [← hq, ← hl]; rfl⟩
  · rintro ⟨i, s⟩ ⟨h1, h2, h3⟩ N hN
    simp only at h1 h2 h3
    have b1 := fixT_le (l.getD i default) 4
    have hm' : i < 4 → l.getD i default < 9223372036854775808 := fun h => hm _ (by rw [List.getD_eq_getElem?_getD, List.getElem?_eq_getElem (by omega)]; exact List.getElem_mem _)
    have hs := trailGo_step s l i
    refine Wr.go ?_
    repeat' ((first | (have ee := True.intro; refine Wr.mk ?_) | ((first | refine br_go ?_ ?_ | refine pick_go ?_ ?_) <;> intro ee f <;> (try simp only [BB] at f) <;> (try simp only [numOk, verOk] at f)) | (have ee := True.intro; first | refine call_x (spec_FixText _ _ (hm' (by omega))) rfl ⟨rfl⟩ ?_)) <;> (try simp (maxSteps := 1000000) (disch := first | omega | (simp only [LN, numOk, verOk, rfP, rvP, rhP, frP] <;> omega) | exact Ck.mk rfl) only [ee, VC, T, Nat.reduceMul, Nat.reduceAdd, Nat.reduceSub, Nat.reduceLT, Nat.reduceEqDiff, Nat.reduceLeDiff, Nat.reduceBEq, reduceCtorEq, Int.reduceToNat, ↓reduceIte, rfP, rvP, rhP, frP]) <;> (try clear ee))
    · rw [h3, hs (by omega), if_pos f]
    · refine hN (i + 1, s ++ fixT (l.getD i default) 4) _ ⟨by simp only; omega, by simp only [ByteArray.size_append]; omega, ?_⟩ (by simp only; omega) ?_
      · rw [h3, hs (by omega), if_neg f]
      · (simp (disch := first | omega | (simp only [LN, numOk, verOk] <;> omega) | exact Ck.mk rfl) only [SB, EQ, Nat.reduceMul, Nat.reduceAdd, Nat.reduceSub, Nat.reduceLT, Nat.reduceEqDiff, Nat.reduceLeDiff, Nat.reduceBEq, reduceCtorEq, Int.reduceToNat, ↓reduceIte]; try omega)
    · obtain rfl : i = 4 := by omega
      rw [h3, List.drop_eq_nil_of_le (by omega)]; rfl
end Go.Pv

/- What functions of the program and of the reference do, in plain values. -/
namespace Go.Pv
open Go.Proofs Go.Mth
set_option linter.unusedSimpArgs false
set_option linter.unusedVariables false
set_option maxHeartbeats 4000000
set_option maxRecDepth 4000

/-! ### places -/
def plP (p : Int × Int) : PV := .agg [.int .i64 p.1, .int .i64 p.2]
theorem plc_step (s : Int) (os : List Int) (i : Nat) (h : i < os.length) : plc (fun a b => (a, b)) s (os.drop i) i = if (i : Int) % s = 0 then ((i : Int), os.getD i default) :: plc (fun a b => (a, b)) s (os.drop (i + 1)) (i + 1) else plc (fun a b => (a, b)) s (os.drop (i + 1)) (i + 1) := by
  rw [List.drop_eq_getElem_cons h, List.getD_eq_getElem?_getD, List.getElem?_eq_getElem h]; rfl
theorem spec_PlacesOf (s : Int) (os : List Int) (hl : os.length ≤ 1073741824) : Fn Tryz.prog 71 [.int .i64 s, .far (os.map (.int .i64))] [] (.far ((placesP s os).map plP)) [] := by
  refine fn_x tok (n := 32) (rs := [.tmp 4]) Tryz.func71 (by decide) rfl rfl rfl rfl ?_
  refine Wr.go ?_
  repeat' ((first | (have ee := True.intro; refine Wr.mk ?_) | ((first | refine br_go ?_ ?_ | refine pick_go ?_ ?_) <;> intro ee f <;> (try simp only [BB] at f) <;> (try simp only [numOk, verOk] at f))) <;> (try simp (maxSteps := 1000000) (disch := first | omega | (simp only [LN, numOk, verOk, rfP, rvP, rhP, frP] <;> omega) | exact Ck.mk rfl) only [ee, VC, T, Nat.reduceMul, Nat.reduceAdd, Nat.reduceSub, Nat.reduceLT, Nat.reduceEqDiff, Nat.reduceLeDiff, Nat.reduceBEq, reduceCtorEq, Int.reduceToNat, ↓reduceIte, rfP, rvP, rhP, frP]) <;> (try clear ee))
  refine lp_go (fun x : Nat × List (Int × Int) => ⟨32, [(0, .int .i64 s), (1, .far (os.map (.int .i64))), (5, .row 512 x.2.length), (6, .int .i64 x.1)], [(512, .row ⟨2, 0⟩ (x.2.map plP))]⟩) (fun x => x.1 ≤ os.length ∧ x.2.length ≤ x.1 ∧ (1 ≤ s → placesP s os = x.2 ++ plc (fun a b => (a, b)) s (os.drop x.1) x.1) ∧ (s < 1 → x.2 = [])) (fun x => os.length - x.1) (0, []) ?_ ?_ ?_
  · (simp (disch := first | omega | (simp only [LN, numOk, verOk] <;> omega) | exact Ck.mk rfl) only [SB, EQ, Nat.reduceMul, Nat.reduceAdd, Nat.reduceSub, Nat.reduceLT, Nat.reduceEqDiff, Nat.reduceLeDiff, Nat.reduceBEq, reduceCtorEq, Int.reduceToNat, ↓reduceIte]; try omega)
  · refine ⟨Nat.zero_le _, Nat.le_refl _, fun h => ?_, fun _ => rfl⟩
    unfold placesP placesOf; rw [if_neg (by omega)]; rfl
  · rintro ⟨i, l⟩ ⟨h1, h2, h3, h4⟩ N hN
    simp only at h1 h2 h3 h4
    have ht : (i : Int).tmod s = (i : Int) % s := Int.tmod_eq_emod_of_nonneg (by omega)
    have hs := plc_step s os i
    refine Wr.go ?_
    repeat' ((first | (have ee := True.intro; refine Wr.mk ?_) | ((first | refine br_go ?_ ?_ | refine pick_go ?_ ?_) <;> intro ee f <;> (try simp only [BB] at f) <;> (try simp only [numOk, verOk] at f))) <;> (try simp (maxSteps := 1000000) (disch := first | omega | (simp only [LN, numOk, verOk, rfP, rvP, rhP, frP, ht] <;> omega) | exact Ck.mk rfl) only [ee, VC, T, Nat.reduceMul, Nat.reduceAdd, Nat.reduceSub, Nat.reduceLT, Nat.reduceEqDiff, Nat.reduceLeDiff, Nat.reduceBEq, reduceCtorEq, Int.reduceToNat, ↓reduceIte, rfP, rvP, rhP, frP, ht]) <;> (try clear ee))
    · refine hN (i + 1, l ++ [((i : Int), os.getD i default)]) _ ⟨by simp only; omega, by simp only [List.length_append, List.length_singleton]; omega, fun h => ?_, fun h => by omega⟩ (by simp only; omega) ?_
      · rw [h3 h, hs (by omega), if_pos f]; simp
      · (simp (disch := first | omega | (simp only [LN, numOk, verOk] <;> omega) | exact Ck.mk rfl) only [SB, EQ, Nat.reduceMul, Nat.reduceAdd, Nat.reduceSub, Nat.reduceLT, Nat.reduceEqDiff, Nat.reduceLeDiff, Nat.reduceBEq, reduceCtorEq, Int.reduceToNat, ↓reduceIte]; try omega)
        rw [List.map_append]; rfl
    · refine hN (i + 1, l) _ ⟨by simp only; omega, by simp only; omega, fun h => ?_, fun h => by omega⟩ (by simp only; omega) ?_
      · rw [h3 h, hs (by omega), if_neg f]
      · (simp (disch := first | omega | (simp only [LN, numOk, verOk] <;> omega) | exact Ck.mk rfl) only [SB, EQ, Nat.reduceMul, Nat.reduceAdd, Nat.reduceSub, Nat.reduceLT, Nat.reduceEqDiff, Nat.reduceLeDiff, Nat.reduceBEq, reduceCtorEq, Int.reduceToNat, ↓reduceIte]; try omega)
    · rw [h4 f]; unfold placesP placesOf; rw [if_pos f]
    · by_cases hs1 : s < 1
      · rw [h4 hs1]; unfold placesP placesOf; rw [if_pos hs1]
      · rw [h3 (by omega), List.drop_eq_nil_of_le (by omega)]; unfold plc; rw [List.append_nil]
theorem impl_PlacesOf (s : Int) (os : List Int) (hs : s ≤ 9223372036854775807) (hl : os.length ≤ 1073741824) : Fn Tryz.prog 92 [.int .i64 s, .far (os.map (.int .i64))] [] (.far ((placesP s os).map plP)) [] := by
  refine fn_x tok (n := 34) (rs := [.tmp 4]) Tryz.func92 (by decide) rfl rfl rfl rfl ?_
  refine Wr.go ?_
  repeat' ((first | (have ee := True.intro; refine Wr.mk ?_) | ((first | refine br_go ?_ ?_ | refine pick_go ?_ ?_) <;> intro ee f <;> (try simp only [BB] at f) <;> (try simp only [numOk, verOk] at f))) <;> (try simp (maxSteps := 1000000) (disch := first | omega | (simp only [LN, numOk, verOk, rfP, rvP, rhP, frP] <;> omega) | exact Ck.mk rfl) only [ee, VC, T, Nat.reduceMul, Nat.reduceAdd, Nat.reduceSub, Nat.reduceLT, Nat.reduceEqDiff, Nat.reduceLeDiff, Nat.reduceBEq, reduceCtorEq, Int.reduceToNat, ↓reduceIte, rfP, rvP, rhP, frP]) <;> (try clear ee))
  · unfold placesP placesOf; rw [if_pos f]; rfl
  · refine lp_go (fun x : Nat × List (Int × Int) => ⟨34, [(0, .int .i64 s), (1, .far (os.map (.int .i64))), (5, .row 512 x.2.length), (6, .int .i64 x.1)], [(512, .row ⟨2, 0⟩ (x.2.map plP))]⟩) (fun x => x.1 ≤ os.length ∧ x.2.length ≤ x.1 ∧ placesP s os = x.2 ++ plc (fun a b => (a, b)) s (os.drop x.1) x.1 ∧ (x.1 : Int) % s = 0) (fun x => os.length - x.1) (0, []) ?_ ?_ ?_
    · (simp (disch := first | omega | (simp only [LN, numOk, verOk] <;> omega) | exact Ck.mk rfl) only [SB, EQ, Nat.reduceMul, Nat.reduceAdd, Nat.reduceSub, Nat.reduceLT, Nat.reduceEqDiff, Nat.reduceLeDiff, Nat.reduceBEq, reduceCtorEq, Int.reduceToNat, ↓reduceIte]; try omega)
    · refine ⟨Nat.zero_le _, Nat.le_refl _, ?_, by simp⟩
      unfold placesP placesOf; rw [if_neg (by omega)]; rfl
    · rintro ⟨i, l⟩ ⟨h1, h2, h3, h4⟩ N hN
      simp only at h1 h2 h3 h4
      have hst := plc_step s os i
      have hsk := fun m h => plc_skip (fun a b : Int => (a, b)) s os m (i + 1) h
      have hmod : ∀ t : Nat, i + 1 ≤ t → (t : Int) < i + s → (t : Int) % s ≠ 0 := fun t q1 q2 q3 => by
        have e1 := Int.emod_add_mul_ediv (i : Int) s
        have e2 := Int.emod_add_mul_ediv (t : Int) s
        rw [h4] at e1
        rw [q3] at e2
        have : s * ((t : Int) / s - (i : Int) / s) = t - i := by rw [Int.mul_sub]; omega
        have k1 : 0 < (t : Int) / s - (i : Int) / s := by
          apply Int.pos_of_mul_pos_right (a := s) (by omega) (by omega)
        have k2 : s * 1 ≤ s * ((t : Int) / s - (i : Int) / s) := Int.mul_le_mul_of_nonneg_left (by omega) (by omega)
        omega
      have hmap : (l ++ [((i : Int), os.getD i default)]).map plP = l.map plP ++ [.agg [.int .i64 i, .int .i64 (os.getD i default)]] := by rw [List.map_append]; rfl
      refine Wr.go ?_
      repeat' ((first | (have ee := True.intro; refine Wr.mk ?_) | ((first | refine br_go ?_ ?_ | refine pick_go ?_ ?_) <;> intro ee f <;> (try simp only [BB] at f) <;> (try simp only [numOk, verOk] at f))) <;> (try simp (maxSteps := 1000000) (disch := first | omega | (simp only [LN, numOk, verOk, rfP, rvP, rhP, frP] <;> omega) | exact Ck.mk rfl) only [ee, VC, T, Nat.reduceMul, Nat.reduceAdd, Nat.reduceSub, Nat.reduceLT, Nat.reduceEqDiff, Nat.reduceLeDiff, Nat.reduceBEq, reduceCtorEq, Int.reduceToNat, ↓reduceIte, rfP, rvP, rhP, frP]) <;> (try clear ee))
      · rw [h3, hst (by omega), if_pos h4, hsk (os.length - (i + 1)) fun t q1 q2 => hmod t q1 (by omega), List.drop_eq_nil_of_le (by omega)]
        exact congrArg PV.far hmap.symm
      · refine hN (i + s.toNat, l ++ [((i : Int), os.getD i default)]) _ ⟨by simp only; omega, by simp only [List.length_append, List.length_singleton]; omega, ?_, ?_⟩ (by simp only; omega) ?_
        · rw [h3, hst (by omega), if_pos h4, hsk (s.toNat - 1) fun t q1 q2 => hmod t q1 (by omega), show i + 1 + (s.toNat - 1) = i + s.toNat by omega]
          simp
        · simp only [Int.natCast_add]
          rw [show ((s.toNat : Nat) : Int) = s by omega, Int.add_emod_right]
          exact h4
        · (simp (disch := first | omega | (simp only [LN, numOk, verOk] <;> omega) | exact Ck.mk rfl) only [SB, EQ, Nat.reduceMul, Nat.reduceAdd, Nat.reduceSub, Nat.reduceLT, Nat.reduceEqDiff, Nat.reduceLeDiff, Nat.reduceBEq, reduceCtorEq, Int.reduceToNat, ↓reduceIte]; try omega)
          try omega
          exact ⟨by omega, hmap.symm⟩
      · rw [h3, List.drop_eq_nil_of_le (by omega)]; unfold plc; rw [List.append_nil]
theorem spec_PlacesOf2 (s : Int) (os : List Int) (hs : s ≤ 9223372036854775807) (hl : os.length ≤ 1073741824) : Fn Tryz.prog 71 [.int .i64 s, .far (os.map (.int .i64))] [] (.far ((placesP s os).map plP)) [] := spec_PlacesOf s os hl
theorem impl_PlacesOf2 (s : Int) (os : List Int) (hs : s ≤ 9223372036854775807) (hl : os.length ≤ 1073741824) : Fn Tryz.prog 92 [.int .i64 s, .far (os.map (.int .i64))] [] (.far ((placesP s os).map plP)) [] := impl_PlacesOf s os hs hl
theorem spec_l11Less (a b : Int) (ha : -9223372036854775808 ≤ a) (ha2 : a ≤ 9223372036854775807) (hb : 0 ≤ b) (hb : b ≤ 9223372036854775807) : Fn Tryz.prog 108 [.int .i64 a, .int .i64 b] [] (.int .i64 (if b ≤ a then a - b else -1)) [] := by
  generalize hq : (if b ≤ a then a - b else -1) = q
  refine fn_x tok (n := 17) (rs := [.tmp 4]) Tryz.func108 (by decide) rfl rfl rfl rfl ?_
  refine Wr.go ?_
  repeat' ((first | (have ee := True.intro; refine Wr.mk ?_) | ((first | refine br_go ?_ ?_ | refine pick_go ?_ ?_) <;> intro ee f <;> (try simp only [BB] at f) <;> (try simp only [numOk, verOk] at f))) <;> (try simp (maxSteps := 1000000) (disch := first | omega | (simp only [LN, numOk, verOk, rfP, rvP, rhP, frP] <;> omega) | exact Ck.mk rfl) only [ee, VC, T, Nat.reduceMul, Nat.reduceAdd, Nat.reduceSub, Nat.reduceLT, Nat.reduceEqDiff, Nat.reduceLeDiff, Nat.reduceBEq, reduceCtorEq, Int.reduceToNat, ↓reduceIte, rfP, rvP, rhP, frP]) <;> (try clear ee))
  · rw [← hq, if_neg (by omega)]
  · rw [← hq, if_pos (by omega)]
theorem upT_no {a b : Int} (h : ¬ (b ≤ a ∧ a - b ≤ 1000000000)) : upT a b = ⟨#[]⟩ := if_neg h
theorem upT_ok {a b : Int} (h : b ≤ a ∧ a - b ≤ 1000000000) : upT a b = varT (a - b) := if_pos h
theorem impl_above (a b : Int) (ha : -9223372036854775808 ≤ a) (ha2 : a ≤ 9223372036854775807) (hb : -9223372036854775808 ≤ b) (hb2 : b ≤ 9223372036854775807) : Fn Tryz.prog 131 [.int .i64 a, .int .i64 b] [] (.str (upT a b)) [] := by
  refine fn_x tok (n := 20) (rs := [.tmp 4]) Tryz.func131 (by decide) rfl rfl rfl rfl ?_
  refine Wr.go ?_
  repeat' ((first | (have ee := True.intro; refine Wr.mk ?_) | ((first | refine br_go ?_ ?_ | refine pick_go ?_ ?_) <;> intro ee f <;> (try simp only [BB] at f) <;> (try simp only [numOk, verOk] at f)) | (have ee := True.intro; first | refine call_x (impl_VarText _) rfl ⟨rfl⟩ ?_)) <;> (try simp (maxSteps := 1000000) (disch := first | omega | (simp only [LN, numOk, verOk, rfP, rvP, rhP, frP] <;> omega) | exact Ck.mk rfl) only [ee, VC, T, Nat.reduceMul, Nat.reduceAdd, Nat.reduceSub, Nat.reduceLT, Nat.reduceEqDiff, Nat.reduceLeDiff, Nat.reduceBEq, reduceCtorEq, Int.reduceToNat, ↓reduceIte, rfP, rvP, rhP, frP]) <;> (try clear ee))
  · rw [upT_no (by omega)]
  · rw [upT_no (by omega)]
  · rw [upT_ok (by omega)]
theorem varT_if (a b : Int) : varT (if b ≤ a then a - b else -1) = upT a b := by
  by_cases h : b ≤ a
  · rw [if_pos h]
    by_cases h2 : a - b ≤ 1000000000
    · rw [upT_ok ⟨h, h2⟩]
    · rw [upT_no fun x => h2 x.2]; unfold varT; rw [if_pos (.inr (by omega))]
  · rw [if_neg h, upT_no fun x => h x.1]; rfl
theorem plGo_step (ps : List (Int × Int)) (i : Nat) (h : i < ps.length) (o : ByteArray) (lc la : Int) : plGo o lc la (ps.drop i) = if (upT (ps.getD i default).1 lc).size = 0 ∨ (upT (ps.getD i default).2 la).size = 0 then ⟨#[]⟩ else plGo (o ++ upT (ps.getD i default).1 lc ++ upT (ps.getD i default).2 la) (ps.getD i default).1 (ps.getD i default).2 (ps.drop (i + 1)) := by
  rw [List.drop_eq_getElem_cons h, List.getD_eq_getElem?_getD, List.getElem?_eq_getElem h]; rfl
def i64 (x : Int) : Prop := -9223372036854775808 ≤ x ∧ x ≤ 9223372036854775807
theorem spec_PlacesText (ps : List (Int × Int)) (hl : ps.length ≤ 1073741824) (hp : ∀ p ∈ ps, i64 p.1 ∧ i64 p.2) : Fn Tryz.prog 70 [.far (ps.map plP)] [] (.str (placesT ps)) [] := by
  have b1 := varT_le ps.length
  refine fn_x tok (n := 48) (rs := [.tmp 2]) Tryz.func70 (by decide) rfl rfl rfl rfl ?_
  refine Wr.go ?_
  repeat' ((first | (have ee := True.intro; refine Wr.mk ?_) | ((first | refine br_go ?_ ?_ | refine pick_go ?_ ?_) <;> intro ee f <;> (try simp only [BB] at f) <;> (try simp only [numOk, verOk] at f)) | (have ee := True.intro; first | refine call_x (spec_VarText _) rfl ⟨rfl⟩ ?_)) <;> (try simp (maxSteps := 1000000) (disch := first | omega | (simp only [LN, numOk, verOk, rfP, rvP, rhP, frP] <;> omega) | exact Ck.mk rfl) only [ee, VC, T, Nat.reduceMul, Nat.reduceAdd, Nat.reduceSub, Nat.reduceLT, Nat.reduceEqDiff, Nat.reduceLeDiff, Nat.reduceBEq, reduceCtorEq, Int.reduceToNat, ↓reduceIte, rfP, rvP, rhP, frP]) <;> (try clear ee))
  refine lp_go (fun x : Nat × ByteArray × Int × Int => ⟨48, [(0, .far (ps.map plP)), (3, .str x.2.1), (4, .ref 320 0), (5, .int .i64 x.1)], [(320, .box 122 [.int .i64 x.2.2.1, .int .i64 x.2.2.2])]⟩) (fun x => x.1 ≤ ps.length ∧ x.2.1.size ≤ 5 + 10 * x.1 ∧ (0 ≤ x.2.2.1 ∧ x.2.2.1 ≤ 9223372036854775807) ∧ (0 ≤ x.2.2.2 ∧ x.2.2.2 ≤ 9223372036854775807) ∧ placesT ps = plGo x.2.1 x.2.2.1 x.2.2.2 (ps.drop x.1)) (fun x => ps.length - x.1) (0, varT ps.length, 0, 0) ?_ ?_ ?_
  · (simp (disch := first | omega | (simp only [LN, numOk, verOk] <;> omega) | exact Ck.mk rfl) only [SB, EQ, Nat.reduceMul, Nat.reduceAdd, Nat.reduceSub, Nat.reduceLT, Nat.reduceEqDiff, Nat.reduceLeDiff, Nat.reduceBEq, reduceCtorEq, Int.reduceToNat, ↓reduceIte]; try omega)
  · exact ⟨Nat.zero_le _, by simp only; omega, by simp, by simp, rfl⟩
  · rintro ⟨i, o, lc, la⟩ ⟨h1, h2, h3, h4, h5⟩ N hN
    simp only at h1 h2 h3 h4 h5
    have hs := plGo_step ps i
    have hm : i < ps.length → i64 (ps.getD i default).1 ∧ i64 (ps.getD i default).2 := fun h => hp _ (getD_mem _ _ h)
    have s1 := stepT_le (ps.getD i default).1 lc
    have s2 := stepT_le (ps.getD i default).2 la
    have hg : i < ps.length → (ps.map plP).getD i .junk = .agg [.int .i64 (ps.getD i default).1, .int .i64 (ps.getD i default).2] := fun h => by
      rw [List.getD_eq_getElem?_getD, List.getElem?_map, List.getElem?_eq_getElem h, List.getD_eq_getElem?_getD, List.getElem?_eq_getElem h]; rfl
    refine Wr.go ?_
    repeat' ((first | (have ee := True.intro; refine Wr.mk ?_) | ((first | refine br_go ?_ ?_ | refine pick_go ?_ ?_) <;> intro ee f <;> (try simp only [BB] at f) <;> (try simp only [numOk, verOk] at f)) | (have ee := True.intro; first | refine call_x (spec_VarText _) rfl ⟨rfl⟩ ?_ | refine call_x (spec_l11Less _ _ (hm (by omega)).1.1 (hm (by omega)).1.2 h3.1 h3.2) rfl ⟨rfl⟩ ?_ | refine call_x (spec_l11Less _ _ (hm (by omega)).2.1 (hm (by omega)).2.2 h4.1 h4.2) rfl ⟨rfl⟩ ?_)) <;> (try simp (maxSteps := 1000000) (disch := first | omega | (simp only [LN, numOk, verOk, rfP, rvP, rhP, frP, varT_if, hg] <;> omega) | exact Ck.mk rfl) only [ee, VC, T, Nat.reduceMul, Nat.reduceAdd, Nat.reduceSub, Nat.reduceLT, Nat.reduceEqDiff, Nat.reduceLeDiff, Nat.reduceBEq, reduceCtorEq, Int.reduceToNat, ↓reduceIte, rfP, rvP, rhP, frP, varT_if, hg]) <;> (try clear ee))
    · rw [h5, hs (by omega), if_pos (.inl f)]
    · rw [h5, hs (by omega), if_pos (.inr f)]
    · have u : ∀ a b : Int, ¬ (upT a b).size = 0 → b ≤ a := fun a b h => Decidable.byContradiction fun q => h (by rw [upT_no fun x => q x.1]; rfl)
      have u1 := u (ps.getD i default).1 lc (by assumption)
      have u2 := u _ _ f
      have m := hm (by omega)
      unfold i64 at m
      refine hN (i + 1, o ++ upT (ps.getD i default).1 lc ++ upT (ps.getD i default).2 la, (ps.getD i default).1, (ps.getD i default).2) _ ⟨by simp only; omega, by simp only [ByteArray.size_append]; omega, ⟨Int.le_trans h3.1 u1, m.1.2⟩, ⟨Int.le_trans h4.1 u2, m.2.2⟩, ?_⟩ (by simp only; omega) ?_
      · rw [h5, hs (by omega), if_neg (by rintro (q | q) <;> simp_all)]
      · (simp (disch := first | omega | (simp only [LN, numOk, verOk] <;> omega) | exact Ck.mk rfl) only [SB, EQ, Nat.reduceMul, Nat.reduceAdd, Nat.reduceSub, Nat.reduceLT, Nat.reduceEqDiff, Nat.reduceLeDiff, Nat.reduceBEq, reduceCtorEq, Int.reduceToNat, ↓reduceIte]; try omega)
    · rw [h5, List.drop_eq_nil_of_le (by omega)]; rfl
end Go.Pv

/- Plain mathematics, fifth part: texts back from scans, scans of frames, sealed files. No program in it. -/
namespace Go.Mth
open Go.RowKit
set_option linter.unusedVariables false
set_option linter.unusedSimpArgs false

theorem trailT_pos (a b c d : Int) (ha : 0 ≤ a ∧ a < 4294967296) (hb : 0 ≤ b ∧ b < 4294967296) (hc : 0 ≤ c ∧ c < 4294967296) (hd : 0 ≤ d ∧ d < 4294967296) : trailT a b c d = fixT a 4 ++ fixT b 4 ++ fixT c 4 ++ fixT d 4 ++ ⟨#[73, 68, 88, 33]⟩ ∧ (trailT a b c d).size = 20 := by
  have h1 := fixT4_size a ha.1 ha.2
  have h2 := fixT4_size b hb.1 hb.2
  have h3 := fixT4_size c hc.1 hc.2
  have h4 := fixT4_size d hd.1 hd.2
  have e : trailT a b c d = fixT a 4 ++ fixT b 4 ++ fixT c 4 ++ fixT d 4 ++ ⟨#[73, 68, 88, 33]⟩ := by
    unfold trailT trailGo
    rw [if_neg (by omega)]
    unfold trailGo
    rw [if_neg (by omega)]
    unfold trailGo
    rw [if_neg (by omega)]
    unfold trailGo
    rw [if_neg (by omega)]
    unfold trailGo
    rw [show (⟨#[]⟩ : ByteArray) ++ fixT a 4 = fixT a 4 from ByteArray.empty_append]
  refine ⟨e, ?_⟩
  rw [e]
  simp only [ByteArray.size_append, h1, h2, h3, h4]
  rfl
/-! ### sealed files read -/
abbrev Sc := Bool × Int × Int × Int × Int × List ByteArray × List Int × Int × Bool
/-- What is known of a scan of a text of n bytes. -/
def ScF (n : Nat) (t : Sc) : Prop :=
  (t.1 = true → headOk t.2.1 t.2.2.1 t.2.2.2.1 t.2.2.2.2.1 ∧ 24 ≤ t.2.2.2.2.2.2.2.1) ∧ (t.1 = false → t = (false, 0, 0, 0, 0, [], [], 0, false)) ∧ (0 ≤ t.2.2.2.1 ∧ t.2.2.2.1 ≤ 1000000000) ∧ t.2.2.2.2.2.2.1.length = t.2.2.2.2.2.1.length ∧ t.2.2.2.2.2.1.length ≤ n ∧
    (∀ r ∈ t.2.2.2.2.2.1, r.size ≤ 60) ∧ (∀ o ∈ t.2.2.2.2.2.2.1, 0 ≤ o ∧ o ≤ n) ∧ 0 ≤ t.2.2.2.2.2.2.2.1 ∧ t.2.2.2.2.2.2.2.1 ≤ n
theorem scan_f (b : ByteArray) : ScF b.size (scan b) := by
  by_cases h : (scan b).1 = true
  · obtain ⟨h1, h2, h3, h4, h5, h6⟩ := scan_inv b h
    obtain ⟨k1, k2, k3, k4, k5⟩ := scan_head b h
    have hk := (rHead_ok b k1).2.1
    rw [← k2, ← k3, ← k4, ← k5] at hk
    exact ⟨fun _ => ⟨hk, h2⟩, (fun e => by rw [h] at e; cases e), hk.2.2.1, h1.symm, by omega, h5, h6, by omega, h3⟩
  · have e := scan_no b h
    rw [e]
    exact ⟨fun h => Bool.noConfusion h, fun _ => rfl, ⟨by decide, by decide⟩, rfl, Nat.zero_le _, fun _ h => absurd h (by simp), fun _ h => absurd h (by simp), Int.le_refl _, Int.natCast_nonneg _⟩
end Go.Mth

/- Names of files, in plain numbers. -/
namespace Go.Mth
open Go.RowKit

/-! ### sixteen digits -/
def hexD (d : Int) : Int := if d < 10 then 48 + d else 87 + d
/-- So many digits, the highest first. -/
def hexL : Nat → Int → List Int
  | 0, _ => []
  | k + 1, n => hexL k (n / 16) ++ [hexD (n % 16)]
theorem hexL_length : ∀ (k : Nat) (n : Int), (hexL k n).length = k
  | 0, _ => rfl
  | k + 1, n => by rw [hexL, List.length_append, hexL_length k]; rfl
theorem hexD_range (d : Int) (h0 : 0 ≤ d) (h1 : d < 16) : 0 ≤ hexD d ∧ hexD d ≤ 255 := by unfold hexD; split <;> omega
theorem hexL_range : ∀ (k : Nat) (n : Int), ∀ x ∈ hexL k n, 0 ≤ x ∧ x ≤ 255
  | 0, _, x, h => by simp [hexL] at h
  | k + 1, n, x, h => by
    rcases List.mem_append.1 h with h | h
    · exact hexL_range k _ x h
    · rw [List.mem_singleton.1 h]; exact hexD_range _ (by omega) (by omega)
/-- The name of a file of a base. -/
def segL (n : Int) : List Int := [115] ++ hexL 8 n ++ [46, 115, 101, 103]
def segT (n : Int) : ByteArray := if numOk n then strOf (segL n) else ⟨#[]⟩
end Go.Mth

/- Disks, in plain numbers: nodes, entries, the texts of a row's files. -/
namespace Go.Mth
open Go.RowKit

abbrev Nd := Int × ByteArray × Int
abbrev Et := ByteArray × Int
abbrev Dk := List Nd × List Et × List Et × List ByteArray × Int × Int

/-- The place of the first that is so, from i on; -1 if none is. -/
def findI {α : Type} (p : α → Bool) : List α → Nat → Int
  | [], _ => -1
  | x :: r, i => if p x = true then i else findI p r (i + 1)
theorem findI_step {α : Type} [Inhabited α] (p : α → Bool) (xs : List α) (i : Nat) (h : i < xs.length) : findI p (xs.drop i) i = if p (xs.getD i default) = true then (i : Int) else findI p (xs.drop (i + 1)) (i + 1) := by
  rw [List.drop_eq_getElem_cons h, List.getD_eq_getElem?_getD, List.getElem?_eq_getElem h]; rfl
theorem findI_end {α : Type} (p : α → Bool) (xs : List α) (i : Nat) (h : xs.length ≤ i) : findI p (xs.drop i) i = -1 := by
  rw [List.drop_eq_nil_of_le h]; rfl
theorem findI_cases {α : Type} [Inhabited α] (p : α → Bool) : ∀ (xs : List α) (i : Nat), findI p xs i = -1 ∧ (∀ x ∈ xs, p x = false) ∨ ∃ k : Nat, findI p xs i = ((i + k : Nat) : Int) ∧ k < xs.length ∧ p (xs.getD k default) = true ∧ ∀ j, j < k → p (xs.getD j default) = false
  | [], i => .inl ⟨rfl, fun x h => by simp at h⟩
  | x :: r, i => by
    unfold findI
    cases hp : p x with
    | true =>
      rw [if_pos rfl]
      exact .inr ⟨0, rfl, by simp, by simpa using hp, fun j h => by omega⟩
    | false =>
      rw [if_neg (by simp)]
      rcases findI_cases p r (i + 1) with ⟨h1, h2⟩ | ⟨k, h1, h2, h3, h4⟩
      · exact .inl ⟨h1, fun y hy => by rcases List.mem_cons.1 hy with rfl | hy; exact hp; exact h2 y hy⟩
      · refine .inr ⟨k + 1, by rw [h1]; congr 1; omega, by simp; omega, by simpa using h3, fun j hj => ?_⟩
        cases j with
        | zero => simpa using hp
        | succ j => simpa using h4 j (by omega)
theorem findI_range {α : Type} [Inhabited α] (p : α → Bool) (xs : List α) : findI p xs 0 = -1 ∨ (0 ≤ findI p xs 0 ∧ findI p xs 0 < xs.length ∧ p (xs.getD (findI p xs 0).toNat default) = true) := by
  rcases findI_cases p xs 0 with ⟨h1, _⟩ | ⟨k, h1, h2, h3, _⟩
  · exact .inl h1
  · rw [h1]; exact .inr ⟨by omega, by omega, by simpa using h3⟩

def placeI (es : List Et) (n : ByteArray) : Int := findI (fun e => decide (e.1 = n)) es 0
def nodeI (ns : List Nd) (k : Int) : Int := findI (fun x => decide (x.1 = k)) ns 0
def noNd : Nd := (0, ⟨#[]⟩, 0)
theorem placeI_r (es : List Et) (n : ByteArray) : placeI es n = -1 ∨ (0 ≤ placeI es n ∧ placeI es n < es.length) := by
  rcases findI_range (fun e : Et => decide (e.1 = n)) es with h | ⟨h1, h2, _⟩
  · exact .inl h
  · exact .inr ⟨h1, h2⟩
theorem nodeI_r (ns : List Nd) (k : Int) : nodeI ns k = -1 ∨ (0 ≤ nodeI ns k ∧ nodeI ns k < ns.length) := by
  rcases findI_range (fun x : Nd => decide (x.1 = k)) ns with h | ⟨h1, h2, _⟩
  · exact .inl h
  · exact .inr ⟨h1, h2⟩
/-- The number of a name; 0 without one. -/
def entT (es : List Et) (n : ByteArray) : Int := if placeI es n < 0 then 0 else (es.getD (placeI es n).toNat default).2
/-- The place of the node of a name. -/
def nodeP (d : Dk) (n : ByteArray) : Int := if placeI d.2.1 n < 0 then -1 else nodeI d.1 (d.2.1.getD (placeI d.2.1 n).toNat default).2
theorem nodeP_r (d : Dk) (n : ByteArray) : nodeP d n = -1 ∨ (0 ≤ nodeP d n ∧ nodeP d n < d.1.length) := by
  unfold nodeP
  split
  · exact .inl rfl
  · exact nodeI_r _ _
def nodeT (d : Dk) (n : ByteArray) : Nd × Bool := if nodeP d n < 0 then (noNd, false) else (d.1.getD (nodeP d n).toNat default, true)
def fileT (d : Dk) (n : ByteArray) : ByteArray × Bool := ((nodeT d n).1.2.1, (nodeT d n).2)
def textT (d : Dk) (b : Int) : ByteArray := (fileT d (segT b)).1

/-- How large a disk is. -/
structure DkOk (d : Dk) : Prop where
  ns : d.1.length ≤ 1048576
  es : d.2.1.length ≤ 1048576
  os : d.2.2.1.length ≤ 1048576
  ss : d.2.2.2.1.length ≤ 1048576
  nt : ∀ n ∈ d.1, n.2.1.size ≤ 1048576
  et : ∀ e ∈ d.2.1, e.1.size ≤ 1048576
  ot : ∀ e ∈ d.2.2.1, e.1.size ≤ 1048576
  st : ∀ s ∈ d.2.2.2.1, s.size ≤ 1048576
/-- The same, with nodes that may have grown. -/
structure DkW (d : Dk) : Prop where
  ns : d.1.length ≤ 1048576
  es : d.2.1.length ≤ 1048576
  os : d.2.2.1.length ≤ 1048576
  ss : d.2.2.2.1.length ≤ 1048576
  nt : ∀ n ∈ d.1, n.2.1.size ≤ 1073741824
  et : ∀ e ∈ d.2.1, e.1.size ≤ 1048576
  ot : ∀ e ∈ d.2.2.1, e.1.size ≤ 1048576
  st : ∀ s ∈ d.2.2.2.1, s.size ≤ 1048576
theorem DkOk.w {d : Dk} (h : DkOk d) : DkW d := ⟨h.ns, h.es, h.os, h.ss, fun x hx => Nat.le_trans (h.nt x hx) (by decide), h.et, h.ot, h.st⟩
theorem fileT_le {d : Dk} (h : DkOk d) (n : ByteArray) : (fileT d n).1.size ≤ 1048576 := by
  unfold fileT nodeT
  split
  · exact Nat.zero_le _
  · rename_i hn
    refine h.nt _ ?_
    rcases nodeP_r d n with h1 | ⟨h1, h2⟩
    · omega
    · simp only
      rw [List.getD_eq_getElem?_getD, List.getElem?_eq_getElem (by omega)]
      exact List.getElem_mem _
theorem textT_le {d : Dk} (h : DkOk d) (b : Int) : (textT d b).size ≤ 1048576 := fileT_le h _

/-! ### the files that go on from one another -/
def recs (b : ByteArray) : List ByteArray := (scan b).2.2.2.2.2.1
def goOk (t : ByteArray) (b l : Int) : Prop := ((rHead t).2.2.2.2 = true ∧ (rHead t).2.2.1 = b ∧ (rHead t).2.2.2.1 = l) ∧ 0 < (recs t).length
instance (t : ByteArray) (b l : Int) : Decidable (goOk t b l) := inferInstanceAs (Decidable (_ ∧ _))
/-! ### digits, as they are laid -/
theorem hexL_zero : ∀ k : Nat, hexL k 0 = List.replicate k 48
  | 0 => rfl
  | k + 1 => by
    rw [hexL, show (0 : Int) / 16 = 0 by rfl, hexL_zero k, show hexD ((0 : Int) % 16) = 48 by rfl, List.replicate_succ']
theorem hexL_pad : ∀ (k m : Nat) (n : Int), 0 ≤ n → n < 16 ^ k → hexL (k + m) n = List.replicate m 48 ++ hexL k n
  | 0, m, n, h0, h1 => by
    have : n = 0 := by simp at h1; omega
    subst this
    rw [Nat.zero_add, hexL_zero]
    simp [hexL]
  | k + 1, m, n, h0, h1 => by
    have hp : n / 16 < 16 ^ k := by rw [Int.pow_succ] at h1; omega
    rw [show k + 1 + m = (k + m) + 1 by omega, hexL, hexL, hexL_pad k m (n / 16) (by omega) hp, List.append_assoc]
/-- Digits that are laid from the lowest on: u is what is left of n behind the digits of L. -/
structure Hx (n u : Int) (L : List Int) : Prop where
  cut : ∀ k, hexL (k + L.length) n = hexL k u ++ L
  val : n < 16 ^ L.length * (u + 1)
  low : 0 ≤ u
  top : 16 ^ L.length * u ≤ n
  one : L = [] ∨ 1 ≤ u
theorem Hx.start {n : Int} (h : 0 ≤ n) : Hx n n [] := ⟨fun k => by simp, by simp; omega, h, by simp, .inl rfl⟩
theorem Hx.step {n u : Int} {L : List Int} (h : Hx n u L) (hu : 16 ≤ u) : Hx n (u / 16) (hexD (u % 16) :: L) := by
  have hp : (0 : Int) < 16 ^ L.length := Int.pow_pos (by decide)
  refine ⟨fun k => ?_, ?_, by omega, ?_, .inr (by omega)⟩
  · rw [List.length_cons, show k + (L.length + 1) = (k + 1) + L.length by omega, h.cut, hexL, List.append_assoc]; rfl
  · rw [List.length_cons, Int.pow_succ, Int.mul_assoc]
    exact Int.lt_of_lt_of_le h.val (Int.mul_le_mul_of_nonneg_left (by omega) (by omega))
  · rw [List.length_cons, Int.pow_succ, Int.mul_assoc]
    exact Int.le_trans (Int.mul_le_mul_of_nonneg_left (by omega) (by omega)) h.top
theorem Hx.len {n u : Int} {L : List Int} (h : Hx n u L) (hn : n < 4294967296) : L.length ≤ 7 := by
  rcases h.one with h1 | h2
  · subst h1; simp
  · refine Decidable.byContradiction fun hc => ?_
    have h1 := h.top
    have e : ((16 ^ 8 : Nat) : Int) ≤ ((16 ^ L.length : Nat) : Int) := Int.ofNat_le.2 (Nat.pow_le_pow_right (by decide) (by omega))
    rw [Int.natCast_pow] at e
    have h3 : (16 : Int) ^ L.length * 1 ≤ 16 ^ L.length * u := Int.mul_le_mul_of_nonneg_left h2 (by have : (0 : Int) < 16 ^ L.length := Int.pow_pos (by decide); omega)
    have h4 : ((16 ^ 8 : Nat) : Int) = 4294967296 := by rfl
    have h5 : ((16 ^ L.length : Nat) : Int) = (16 : Int) ^ L.length := Int.natCast_pow 16 L.length
    omega
theorem Hx.le {n u : Int} {L : List Int} (h : Hx n u L) : u ≤ n := by
  have hp : (0 : Int) < 16 ^ L.length := Int.pow_pos (by decide)
  have h1 : 1 * u ≤ 16 ^ L.length * u := Int.mul_le_mul_of_nonneg_right (by omega) h.low
  have := h.top
  omega
/-- All digits laid. -/
theorem Hx.fin {n u : Int} {L : List Int} (h : Hx n u L) (hu : u < 16) : hexD u :: L = hexL (L.length + 1) n ∧ n < 16 ^ (L.length + 1) := by
  have e := h.cut 1
  have h0 := h.low
  rw [show 1 + L.length = L.length + 1 by omega, show hexL 1 u = [hexD (u % 16)] from rfl, show u % 16 = u by omega] at e
  refine ⟨e.symm, ?_⟩
  have hp : (0 : Int) < 16 ^ L.length := Int.pow_pos (by decide)
  rw [Int.pow_succ]
  exact Int.lt_of_lt_of_le h.val (Int.mul_le_mul_of_nonneg_left (by omega) (by omega))
end Go.Mth

/- What functions of the program and of the reference do, in plain values. -/
namespace Go.Pv
open Go.Proofs Go.Mth
set_option linter.unusedSimpArgs false
set_option linter.unusedVariables false
set_option maxHeartbeats 4000000
set_option maxRecDepth 4000

/-! ### names of files -/
theorem isPow16 : Fn Tryz.prog 173 [.int .i64 16] [] (.bool true) [] := by
  have h : Go.bits .and .i64 16 (16 - 1) = 0 := by decide
  refine fn_x tok (n := 8) (rs := [.tmp 2]) Tryz.func173 (by decide) rfl rfl rfl rfl ?_
  refine Wr.go ?_
  repeat' ((first | (have ee := True.intro; refine Wr.mk ?_) | ((first | refine br_go ?_ ?_ | refine pick_go ?_ ?_) <;> intro ee f <;> (try simp only [BB] at f) <;> (try simp only [numOk, verOk] at f))) <;> (try simp (maxSteps := 1000000) (disch := first | omega | (simp only [LN, numOk, verOk, h, decide_true] <;> omega) | exact Ck.mk rfl) only [ee, VC, T, Nat.reduceMul, Nat.reduceAdd, Nat.reduceSub, Nat.reduceLT, Nat.reduceEqDiff, Nat.reduceLeDiff, Nat.reduceBEq, reduceCtorEq, Int.reduceToNat, ↓reduceIte, h, decide_true]) <;> (try clear ee))
theorem tz16 : Fn Tryz.prog 185 [.int .u64 16] [] (.int .i64 4) [] := by
  have h1 : IntKind.u64.wrap (0 - 16) = 18446744073709551600 := by decide
  have h2 : Go.bits .and .u64 16 18446744073709551600 = 16 := by decide
  have h3 : IntKind.u64.wrap (16 * 285870213051353865) = 4573923408821661840 := by decide
  have h4 : shr .u64 4573923408821661840 58 = 15 := by decide
  have h5 : (glob3.drop 15) = .int .u8 4 :: glob3.drop 16 := by rfl
  refine fn_x tok (n := 14) (rs := [.tmp 2]) Tryz.func185 (by decide) rfl rfl rfl rfl ?_
  refine Wr.go ?_
  repeat' ((first | (have ee := True.intro; refine Wr.mk ?_) | ((first | refine br_go ?_ ?_ | refine pick_go ?_ ?_) <;> intro ee f <;> (try simp only [BB] at f) <;> (try simp only [numOk, verOk] at f))) <;> (try simp (maxSteps := 1000000) (disch := first | omega | (simp only [LN, numOk, verOk, h1, h2, h3, h4, h5, GV, List.length_cons, List.getD_cons_zero] <;> omega) | exact Ck.mk rfl) only [ee, VC, T, Nat.reduceMul, Nat.reduceAdd, Nat.reduceSub, Nat.reduceLT, Nat.reduceEqDiff, Nat.reduceLeDiff, Nat.reduceBEq, reduceCtorEq, Int.reduceToNat, ↓reduceIte, h1, h2, h3, h4, h5, GV, List.length_cons, List.getD_cons_zero]) <;> (try clear ee))
theorem tzu16 : Fn Tryz.prog 174 [.int .u64 16] [] (.int .i64 4) [] := by
  refine fn_x tok (n := 8) (rs := [.tmp 2]) Tryz.func174 (by decide) rfl rfl rfl rfl ?_
  refine Wr.go ?_
  repeat' ((first | (have ee := True.intro; refine Wr.mk ?_) | ((first | refine br_go ?_ ?_ | refine pick_go ?_ ?_) <;> intro ee f <;> (try simp only [BB] at f) <;> (try simp only [numOk, verOk] at f)) | (have ee := True.intro; first | refine call_x (tz16) rfl ⟨rfl⟩ ?_)) <;> (try simp (maxSteps := 1000000) (disch := first | omega | (simp only [LN, numOk, verOk] <;> omega) | exact Ck.mk rfl) only [ee, VC, T, Nat.reduceMul, Nat.reduceAdd, Nat.reduceSub, Nat.reduceLT, Nat.reduceEqDiff, Nat.reduceLeDiff, Nat.reduceBEq, reduceCtorEq, Int.reduceToNat, ↓reduceIte]) <;> (try clear ee))
theorem data_bytes (l : List Int) : (l.map (PV.int .u8)).all data1 = true := by
  rw [List.all_eq_true]
  intro x hx
  obtain ⟨y, _, rfl⟩ := List.mem_map.1 hx
  rfl
theorem digT_at (d : Int) (h0 : 0 ≤ d) (h1 : d < 16) : ((b8 ⟨#[48, 49, 50, 51, 52, 53, 54, 55, 56, 57, 97, 98, 99, 100, 101, 102, 103, 104, 105, 106, 107, 108, 109, 110, 111, 112, 113, 114, 115, 116, 117, 118, 119, 120, 121, 122]⟩ d.toNat).toNat : Int) = hexD d := by
  obtain ⟨n, rfl⟩ := Int.eq_ofNat_of_zero_le h0
  have h : n < 16 := by omega
  revert h
  exact (by decide : ∀ n < 16, ((b8 ⟨#[48, 49, 50, 51, 52, 53, 54, 55, 56, 57, 97, 98, 99, 100, 101, 102, 103, 104, 105, 106, 107, 108, 109, 110, 111, 112, 113, 114, 115, 116, 117, 118, 119, 120, 121, 122]⟩ ((n : Nat) : Int).toNat).toNat : Int) = hexD ((n : Nat) : Int)) n
theorem hexT_at (d : Int) (h0 : 0 ≤ d) (h1 : d < 16) : ((b8 ⟨#[48, 49, 50, 51, 52, 53, 54, 55, 56, 57, 97, 98, 99, 100, 101, 102]⟩ d.toNat).toNat : Int) = hexD d := by
  obtain ⟨n, rfl⟩ := Int.eq_ofNat_of_zero_le h0
  have h : n < 16 := by omega
  revert h
  exact (by decide : ∀ n < 16, ((b8 ⟨#[48, 49, 50, 51, 52, 53, 54, 55, 56, 57, 97, 98, 99, 100, 101, 102]⟩ ((n : Nat) : Int).toNat).toNat : Int) = hexD ((n : Nat) : Int)) n
theorem clo_bytes (hp : Hp) (k : IntKind) (l : List Int) : clol (clo2 hp) (l.map (PV.int k)) = True := by
  induction l with
  | nil => rfl
  | cons x l ih => exact eq_true ⟨trivial, of_eq_true ih⟩
theorem and_u15 (u : Int) (h0 : 0 ≤ u) (h1 : u < 4294967296) : Go.bits .and .u64 u 15 = u % 16 := by
  obtain ⟨n, rfl⟩ := Int.eq_ofNat_of_zero_le h0
  have h4 : Go.bits .and .u64 (n : Int) 15 = IntKind.u64.wrap ((BitVec.ofInt 64 (n : Int) &&& BitVec.ofInt 64 15).toNat : Int) := rfl
  have h5 : n % 2 ^ 4 < 2 ^ 4 := Nat.mod_lt _ (by decide)
  rw [h4, BitVec.ofInt_natCast, BitVec.toNat_and, BitVec.toNat_ofNat, show (BitVec.ofInt 64 15).toNat = 2 ^ 4 - 1 from rfl, Nat.mod_eq_of_lt (by omega), Nat.and_two_pow_sub_one_eq_mod]
  show (((n % 2 ^ 4 : Nat) : Int)) % 18446744073709551616 = _
  omega
theorem shr4 (u : Int) (h0 : 0 ≤ u) : shr .u64 u 4 = u / 16 := by
  show u.fdiv 16 = _
  exact Int.fdiv_eq_ediv_of_nonneg u (by decide)
theorem laid_take (L : List Int) (h : L.length ≤ 7) : List.take (0 + (65 - (L.length : Int) - 1).toNat * 1) (List.replicate (65 - L.length) (0 : Int) ++ L) = List.replicate (64 - L.length) 0 := by
  rw [show 0 + (65 - (L.length : Int) - 1).toNat * 1 = 64 - L.length by omega, List.take_append_of_le_length (by rw [List.length_replicate]; omega), List.take_replicate]
  congr 1; omega
theorem laid_drop (L : List Int) (h : L.length ≤ 7) : List.drop (0 + (65 - (L.length : Int) - 1).toNat * 1 + 1) (List.replicate (65 - L.length) (0 : Int) ++ L) = L := by
  exact List.drop_left' (by rw [List.length_replicate]; omega)
theorem laid_all (L : List Int) (d : Int) (h : L.length ≤ 7) : List.drop (65 - (L.length : Int) - 1).toNat (List.take 65 (List.map (PV.int .u8) (List.replicate (64 - L.length) 0 ++ [d]) ++ List.map (PV.int .u8) L)) = List.map (PV.int .u8) (d :: L) := by
  rw [← List.map_append, List.append_assoc, List.take_of_length_le (by simp; omega), List.map_append]
  exact List.drop_left' (by simp; omega)
theorem fmtBits (n : Int) (h0 : 0 ≤ n) (h1 : n < 4294967296) : FnV Tryz.prog 147 [.far [], .int .u64 n, .int .i64 16, .bool false, .bool false] (fun r => ∃ k : Nat, k < 8 ∧ n < 16 ^ (k + 1) ∧ r = .tup [.far [], .str (strOf (hexL (k + 1) n))]) := by
  refine fn_v tok (n := 102) (rs := [.tmp 10, .tmp 11]) Tryz.func147 (by decide) rfl rfl rfl rfl ?_
  refine Wr.go ?_
  repeat' ((first | (have ee := True.intro; refine Wr.mk ?_) | ((first | refine br_go ?_ ?_ | refine pick_go ?_ ?_) <;> intro ee f <;> (try simp only [BB] at f) <;> (try simp only [numOk, verOk] at f)) | (have ee := True.intro; first | refine call_x (isPow16) rfl ⟨rfl⟩ ?_ | refine call_x (tzu16) rfl ⟨rfl⟩ ?_)) <;> (try simp (maxSteps := 1000000) (disch := first | omega | (simp only [LN, numOk, verOk] <;> omega) | exact Ck.mk rfl) only [ee, VC, T, Nat.reduceMul, Nat.reduceAdd, Nat.reduceSub, Nat.reduceLT, Nat.reduceEqDiff, Nat.reduceLeDiff, Nat.reduceBEq, reduceCtorEq, Int.reduceToNat, ↓reduceIte]) <;> (try clear ee))
  refine lp_go (fun x : Int × List Int => ⟨102, [(1, .int .u64 x.1), (12, .ref 832 0), (13, .int .i64 (65 - x.2.length)), (14, .int .u64 4), (15, .int .u64 16), (16, .int .u64 15), (3, .bool false), (4, .bool false), (10, .nils)], [(832, .box 177 ((List.replicate (65 - x.2.length) (0 : Int) ++ x.2).map (.int .u8)))]⟩) (fun x => Hx n x.1 x.2) (fun x => x.1.toNat) (n, []) ?_ (Hx.start h0) ?_
  · (simp (disch := first | omega | (simp only [LN, numOk, verOk] <;> omega) | exact Ck.mk rfl) only [SB, EQ, Nat.reduceMul, Nat.reduceAdd, Nat.reduceSub, Nat.reduceLT, Nat.reduceEqDiff, Nat.reduceLeDiff, Nat.reduceBEq, reduceCtorEq, Int.reduceToNat, ↓reduceIte]; try omega)
    exact ⟨by omega, rfl, of_eq_true (clo_bytes _ _ _)⟩
  · rintro ⟨u, L⟩ hx N hN
    simp only at hx ⊢
    have hl := hx.len h1
    have hu0 := hx.low
    have hun := hx.le
    have a1 := and_u15 u hu0 (by omega)
    have a2 := shr4 u hu0
    have t1 := laid_take L hl
    have t2 := laid_drop L hl
    have t3 := fun d => laid_all L d hl
    have d1 : bt ⟨#[48, 49, 50, 51, 52, 53, 54, 55, 56, 57, 97, 98, 99, 100, 101, 102, 103, 104, 105, 106, 107, 108, 109, 110, 111, 112, 113, 114, 115, 116, 117, 118, 119, 120, 121, 122]⟩ (u % 16) = hexD (u % 16) := digT_at _ (by omega) (by omega)
    have d2 : u < 16 → bt ⟨#[48, 49, 50, 51, 52, 53, 54, 55, 56, 57, 97, 98, 99, 100, 101, 102, 103, 104, 105, 106, 107, 108, 109, 110, 111, 112, 113, 114, 115, 116, 117, 118, 119, 120, 121, 122]⟩ u = hexD u := fun h => digT_at _ hu0 h
    refine Wr.go ?_
    repeat' ((first | (have ee := True.intro; refine Wr.mk ?_) | ((first | refine br_go ?_ ?_ | refine pick_go ?_ ?_) <;> intro ee f <;> (try simp only [BB] at f) <;> (try simp only [numOk, verOk] at f))) <;> (try simp (maxSteps := 1000000) (disch := first | omega | (simp only [LN, numOk, verOk, a1, a2, t1, t2, t3, d1, d2, List.all_append, data_bytes, Bool.and_self] <;> omega) | exact Ck.mk rfl) only [ee, VC, T, Nat.reduceMul, Nat.reduceAdd, Nat.reduceSub, Nat.reduceLT, Nat.reduceEqDiff, Nat.reduceLeDiff, Nat.reduceBEq, reduceCtorEq, Int.reduceToNat, ↓reduceIte, a1, a2, t1, t2, t3, d1, d2, List.all_append, data_bytes, Bool.and_self]) <;> (try clear ee))
    · refine hN (u / 16, hexD (u % 16) :: L) _ (hx.step f) (by simp only; omega) ?_
      (simp (disch := first | omega | (simp only [LN, numOk, verOk] <;> omega) | exact Ck.mk rfl) only [SB, EQ, Nat.reduceMul, Nat.reduceAdd, Nat.reduceSub, Nat.reduceLT, Nat.reduceEqDiff, Nat.reduceLeDiff, Nat.reduceBEq, reduceCtorEq, Int.reduceToNat, ↓reduceIte]; try omega)
      exact ⟨by omega, by rw [← List.map_append, List.append_assoc, show 65 - (L.length + 1) = 64 - L.length by omega]; rfl, of_eq_true (clo_bytes _ _ _)⟩
    · obtain ⟨q1, q2⟩ := hx.fin f
      rw [show PV.int .u8 (hexD u) :: List.map (PV.int .u8) L = (hexL (L.length + 1) n).map (PV.int .u8) by rw [← q1]; rfl]
      refine ⟨fun z hz => ?_, L.length, by omega, q2, by rw [strP_map .u8 _ rfl]⟩
      obtain ⟨x, hx', rfl⟩ := List.mem_map.1 hz
      have := hexL_range _ _ x hx'
      exact ⟨by omega, by omega⟩
theorem intFormat16 (n : Int) (h0 : 0 ≤ n) (h1 : n < 4294967296) : FnV Tryz.prog 110 [.int .i64 n, .int .i64 16] (fun r => ∃ k : Nat, k < 8 ∧ n < 16 ^ (k + 1) ∧ r = .str (strOf (hexL (k + 1) n))) := by
  have e1 : n % 18446744073709551616 = n := by omega
  have e2 : decide (n < 0) = false := decide_eq_false (by omega)
  refine fn_v tok (n := 54) (rs := [.tmp 4]) Tryz.func110 (by decide) rfl rfl rfl rfl ?_
  refine Wr.go ?_
  repeat' ((first | (have ee := True.intro; refine Wr.mk ?_) | ((first | refine br_go ?_ ?_ | refine pick_go ?_ ?_) <;> intro ee f <;> (try simp only [BB] at f) <;> (try simp only [numOk, verOk] at f))) <;> (try simp (maxSteps := 1000000) (disch := first | omega | (simp only [LN, numOk, verOk, e1, e2] <;> omega) | exact Ck.mk rfl) only [ee, VC, T, Nat.reduceMul, Nat.reduceAdd, Nat.reduceSub, Nat.reduceLT, Nat.reduceEqDiff, Nat.reduceLeDiff, Nat.reduceBEq, reduceCtorEq, Int.reduceToNat, ↓reduceIte, e1, e2]) <;> (try clear ee))
  refine call_v (fmtBits n h0 h1) rfl ?_
  rintro _ ⟨k, hk, hn, rfl⟩
  refine ⟨⟨rfl⟩, ?_⟩
  refine Wr.go ?_
  repeat' ((first | (have ee := True.intro; refine Wr.mk ?_) | ((first | refine br_go ?_ ?_ | refine pick_go ?_ ?_) <;> intro ee f <;> (try simp only [BB] at f) <;> (try simp only [numOk, verOk] at f))) <;> (try simp (maxSteps := 1000000) (disch := first | omega | (simp only [LN, numOk, verOk] <;> omega) | exact Ck.mk rfl) only [ee, VC, T, Nat.reduceMul, Nat.reduceAdd, Nat.reduceSub, Nat.reduceLT, Nat.reduceEqDiff, Nat.reduceLeDiff, Nat.reduceBEq, reduceCtorEq, Int.reduceToNat, ↓reduceIte]) <;> (try clear ee))
  exact ⟨k, hk, hn, rfl⟩
theorem format16 (n : Int) (h0 : 0 ≤ n) (h1 : n < 4294967296) : FnV Tryz.prog 81 [.int .i64 n, .int .i64 16] (fun r => ∃ k : Nat, k < 8 ∧ n < 16 ^ (k + 1) ∧ r = .str (strOf (hexL (k + 1) n))) := by
  refine fn_v tok (n := 8) (rs := [.tmp 4]) Tryz.func81 (by decide) rfl rfl rfl rfl ?_
  refine Wr.go ?_
  repeat' ((first | (have ee := True.intro; refine Wr.mk ?_) | ((first | refine br_go ?_ ?_ | refine pick_go ?_ ?_) <;> intro ee f <;> (try simp only [BB] at f) <;> (try simp only [numOk, verOk] at f))) <;> (try simp (maxSteps := 1000000) (disch := first | omega | (simp only [LN, numOk, verOk] <;> omega) | exact Ck.mk rfl) only [ee, VC, T, Nat.reduceMul, Nat.reduceAdd, Nat.reduceSub, Nat.reduceLT, Nat.reduceEqDiff, Nat.reduceLeDiff, Nat.reduceBEq, reduceCtorEq, Int.reduceToNat, ↓reduceIte]) <;> (try clear ee))
  refine call_v (intFormat16 n h0 h1) rfl ?_
  rintro _ ⟨k, hk, hn, rfl⟩
  refine ⟨⟨rfl⟩, ?_⟩
  refine Wr.go ?_
  repeat' ((first | (have ee := True.intro; refine Wr.mk ?_) | ((first | refine br_go ?_ ?_ | refine pick_go ?_ ?_) <;> intro ee f <;> (try simp only [BB] at f) <;> (try simp only [numOk, verOk] at f))) <;> (try simp (maxSteps := 1000000) (disch := first | omega | (simp only [LN, numOk, verOk] <;> omega) | exact Ck.mk rfl) only [ee, VC, T, Nat.reduceMul, Nat.reduceAdd, Nat.reduceSub, Nat.reduceLT, Nat.reduceEqDiff, Nat.reduceLeDiff, Nat.reduceBEq, reduceCtorEq, Int.reduceToNat, ↓reduceIte]) <;> (try clear ee))
  exact ⟨k, hk, hn, rfl⟩
theorem mul64_1 (c : Int) (h : c = 2 ∨ c = 3 ∨ c = 4 ∨ c = 5 ∨ c = 6 ∨ c = 7) : Fn Tryz.prog 149 [.int .u64 1, .int .u64 c] [] (.tup [.int .u64 0, .int .u64 c]) [] := by
  have h1 : Go.bits .and .u64 1 4294967295 = 1 := by decide
  have h2 : Go.bits .and .u64 0 4294967295 = 0 := by decide
  have h3 : Go.bits .and .u64 c 4294967295 = c := by rcases h with rfl | rfl | rfl | rfl | rfl | rfl <;> decide
  have h4 : shr .u64 1 32 = 0 := by decide
  have h5 : shr .u64 0 32 = 0 := by decide
  have h6 : shr .u64 c 32 = 0 := by rcases h with rfl | rfl | rfl | rfl | rfl | rfl <;> decide
  have h7 : c % 18446744073709551616 = c := by omega
  refine fn_x tok (n := 51) (rs := [.tmp 4, .tmp 5]) Tryz.func149 (by decide) rfl rfl rfl rfl ?_
  refine Wr.go ?_
  repeat' ((first | (have ee := True.intro; refine Wr.mk ?_) | ((first | refine br_go ?_ ?_ | refine pick_go ?_ ?_) <;> intro ee f <;> (try simp only [BB] at f) <;> (try simp only [numOk, verOk] at f))) <;> (try simp (maxSteps := 1000000) (disch := first | omega | (simp only [LN, numOk, verOk, h1, h2, h3, h4, h5, h6, h7, Int.one_mul, Int.zero_mul, Int.mul_zero, Int.add_zero, Int.zero_add, Int.zero_emod] <;> omega) | exact Ck.mk rfl) only [ee, VC, T, Nat.reduceMul, Nat.reduceAdd, Nat.reduceSub, Nat.reduceLT, Nat.reduceEqDiff, Nat.reduceLeDiff, Nat.reduceBEq, reduceCtorEq, Int.reduceToNat, ↓reduceIte, h1, h2, h3, h4, h5, h6, h7, Int.one_mul, Int.zero_mul, Int.mul_zero, Int.add_zero, Int.zero_add, Int.zero_emod]) <;> (try clear ee))
theorem mul_1 (c : Int) (h : c = 2 ∨ c = 3 ∨ c = 4 ∨ c = 5 ∨ c = 6 ∨ c = 7) : Fn Tryz.prog 111 [.int .u64 1, .int .u64 c] [] (.tup [.int .u64 0, .int .u64 c]) [] := by
  refine fn_x tok (n := 30) (rs := [.tmp 4, .tmp 5]) Tryz.func111 (by decide) rfl rfl rfl rfl ?_
  refine Wr.go ?_
  repeat' ((first | (have ee := True.intro; refine Wr.mk ?_) | ((first | refine br_go ?_ ?_ | refine pick_go ?_ ?_) <;> intro ee f <;> (try simp only [BB] at f) <;> (try simp only [numOk, verOk] at f)) | (have ee := True.intro; first | refine call_x (mul64_1 c h) rfl ⟨rfl⟩ ?_)) <;> (try simp (maxSteps := 1000000) (disch := first | omega | (simp only [LN, numOk, verOk] <;> omega) | exact Ck.mk rfl) only [ee, VC, T, Nat.reduceMul, Nat.reduceAdd, Nat.reduceSub, Nat.reduceLT, Nat.reduceEqDiff, Nat.reduceLeDiff, Nat.reduceBEq, reduceCtorEq, Int.reduceToNat, ↓reduceIte]) <;> (try clear ee))
theorem prefixOf0 (s : ByteArray) (h : 1 ≤ s.size) : Fn Tryz.prog 150 [.str s, .str ⟨#[48]⟩] [] (.bool (decide (bt s 0 = 48))) [] := by
  have e : (s.extract 0 1 = ⟨#[48]⟩) = (bt s 0 = 48) := by
    obtain ⟨⟨l⟩⟩ := s
    cases l with
    | nil => exact absurd h (by decide)
    | cons x l =>
      have e1 : ByteArray.extract ⟨⟨x :: l⟩⟩ 0 1 = ⟨#[x]⟩ := ByteArray.ext (by simp [ByteArray.data_extract])
      rw [e1]
      show _ = ((x.toNat : Int) = 48)
      refine propext ⟨fun h => ?_, fun h => ?_⟩
      · have : x = 48 := by simpa using h
        subst this; rfl
      · have : x = 48 := UInt8.toNat.inj (by show x.toNat = 48; omega)
        rw [this]
  refine fn_x tok (n := 18) (rs := [.tmp 4]) Tryz.func150 (by decide) rfl rfl rfl rfl ?_
  refine Wr.go ?_
  repeat' ((first | (have ee := True.intro; refine Wr.mk ?_) | ((first | refine br_go ?_ ?_ | refine pick_go ?_ ?_) <;> intro ee f <;> (try simp only [BB] at f) <;> (try simp only [numOk, verOk] at f))) <;> (try simp (maxSteps := 1000000) (disch := first | omega | (simp only [LN, numOk, verOk, e] <;> omega) | exact Ck.mk rfl) only [ee, VC, T, Nat.reduceMul, Nat.reduceAdd, Nat.reduceSub, Nat.reduceLT, Nat.reduceEqDiff, Nat.reduceLeDiff, Nat.reduceBEq, reduceCtorEq, Int.reduceToNat, ↓reduceIte, e]) <;> (try clear ee))
theorem hasPrefix0 (s : ByteArray) (h : 1 ≤ s.size) : Fn Tryz.prog 112 [.str s, .str ⟨#[48]⟩] [] (.bool (decide (bt s 0 = 48))) [] := by
  refine fn_x tok (n := 8) (rs := [.tmp 4]) Tryz.func112 (by decide) rfl rfl rfl rfl ?_
  refine Wr.go ?_
  repeat' ((first | (have ee := True.intro; refine Wr.mk ?_) | ((first | refine br_go ?_ ?_ | refine pick_go ?_ ?_) <;> intro ee f <;> (try simp only [BB] at f) <;> (try simp only [numOk, verOk] at f)) | (have ee := True.intro; first | refine call_x (prefixOf0 s h) rfl ⟨rfl⟩ ?_)) <;> (try simp (maxSteps := 1000000) (disch := first | omega | (simp only [LN, numOk, verOk] <;> omega) | exact Ck.mk rfl) only [ee, VC, T, Nat.reduceMul, Nat.reduceAdd, Nat.reduceSub, Nat.reduceLT, Nat.reduceEqDiff, Nat.reduceLeDiff, Nat.reduceBEq, reduceCtorEq, Int.reduceToNat, ↓reduceIte]) <;> (try clear ee))
theorem repeat0 (c : Int) (h : 0 ≤ c ∧ c ≤ 7) : Fn Tryz.prog 82 [.str ⟨#[48]⟩, .int .i64 c] [] (.str (strOf (List.replicate c.toNat 48))) [] := by
  obtain rfl | rfl | h : c = 0 ∨ c = 1 ∨ (c = 2 ∨ c = 3 ∨ c = 4 ∨ c = 5 ∨ c = 6 ∨ c = 7) := by omega
  · refine fn_x tok (n := 125) (rs := [.tmp 4]) Tryz.func82 (by decide) rfl rfl rfl rfl ?_
    refine Wr.go ?_
    repeat' ((first | (have ee := True.intro; refine Wr.mk ?_) | ((first | refine br_go ?_ ?_ | refine pick_go ?_ ?_) <;> intro ee f <;> (try simp only [BB] at f) <;> (try simp only [numOk, verOk] at f))) <;> (try simp (maxSteps := 1000000) (disch := first | omega | (simp only [LN, numOk, verOk] <;> omega) | exact Ck.mk rfl) only [ee, VC, T, Nat.reduceMul, Nat.reduceAdd, Nat.reduceSub, Nat.reduceLT, Nat.reduceEqDiff, Nat.reduceLeDiff, Nat.reduceBEq, reduceCtorEq, Int.reduceToNat, ↓reduceIte]) <;> (try clear ee))
    rfl
  · refine fn_x tok (n := 125) (rs := [.tmp 4]) Tryz.func82 (by decide) rfl rfl rfl rfl ?_
    refine Wr.go ?_
    repeat' ((first | (have ee := True.intro; refine Wr.mk ?_) | ((first | refine br_go ?_ ?_ | refine pick_go ?_ ?_) <;> intro ee f <;> (try simp only [BB] at f) <;> (try simp only [numOk, verOk] at f))) <;> (try simp (maxSteps := 1000000) (disch := first | omega | (simp only [LN, numOk, verOk] <;> omega) | exact Ck.mk rfl) only [ee, VC, T, Nat.reduceMul, Nat.reduceAdd, Nat.reduceSub, Nat.reduceLT, Nat.reduceEqDiff, Nat.reduceLeDiff, Nat.reduceBEq, reduceCtorEq, Int.reduceToNat, ↓reduceIte]) <;> (try clear ee))
    rfl
  · have h7 : c % 18446744073709551616 = c := by omega
    have h8 : (1 : Int) % 18446744073709551616 = 1 := by decide
    refine fn_x tok (n := 125) (rs := [.tmp 4]) Tryz.func82 (by decide) rfl rfl rfl rfl ?_
    have b0 : bt ⟨#[48]⟩ 0 = 48 := by decide
    have w1 : ∀ l m : List UInt8, bt ⟨((32 :: l).append m).toArray⟩ 0 = 32 := fun _ _ => rfl
    have w2 : ∀ l m : List UInt8, bt ⟨((45 :: l).append m).toArray⟩ 0 = 45 := fun _ _ => rfl
    have w3 : ∀ l : List UInt8, bt ⟨(48 :: l).toArray⟩ 0 = 48 := fun _ => rfl
    have z1 : ∀ l m : List UInt8, 1 ≤ ByteArray.size ⟨((32 :: l).append m).toArray⟩ := fun l m => Nat.succ_le_succ (Nat.zero_le _)
    have z2 : ∀ l m : List UInt8, 1 ≤ ByteArray.size ⟨((45 :: l).append m).toArray⟩ := fun l m => Nat.succ_le_succ (Nat.zero_le _)
    have z3 : ∀ l : List UInt8, 1 ≤ ByteArray.size ⟨(48 :: l).toArray⟩ := fun l => Nat.succ_le_succ (Nat.zero_le _)
    refine Wr.go ?_
    repeat' ((first | (have ee := True.intro; refine Wr.mk ?_) | ((first | refine br_go ?_ ?_ | refine pick_go ?_ ?_) <;> intro ee f <;> (try simp only [BB] at f) <;> (try simp only [numOk, verOk] at f)) | (have ee := True.intro; first | refine call_x (mul_1 c h) rfl ⟨rfl⟩ ?_ | refine call_x (hasPrefix0 _ (z1 _ _)) rfl ⟨rfl⟩ ?_ | refine call_x (hasPrefix0 _ (z2 _ _)) rfl ⟨rfl⟩ ?_ | refine call_x (hasPrefix0 _ (z3 _)) rfl ⟨rfl⟩ ?_)) <;> (try simp (maxSteps := 1000000) (disch := first | omega | (simp only [LN, numOk, verOk, h7, h8, b0, w1, w2, w3, decide_true] <;> omega) | exact Ck.mk rfl) only [ee, VC, T, Nat.reduceMul, Nat.reduceAdd, Nat.reduceSub, Nat.reduceLT, Nat.reduceEqDiff, Nat.reduceLeDiff, Nat.reduceBEq, reduceCtorEq, Int.reduceToNat, ↓reduceIte, h7, h8, b0, w1, w2, w3, decide_true]) <;> (try clear ee))
    rcases h with rfl | rfl | rfl | rfl | rfl | rfl <;> rfl
theorem strOf_app (l m : List Int) : strOf (l ++ m) = strOf l ++ strOf m := by
  unfold strOf
  refine ByteArray.ext ?_
  rw [ByteArray.data_append, List.map_append, List.append_toArray]
theorem shr16 (n : Int) (j : Nat) (h0 : 0 ≤ n) (h : j ≤ 7) : shr .i64 n (4 * (7 - (j : Int)) % 18446744073709551616) = n / 16 ^ (7 - j) := by
  unfold shr
  have e : min (4 * (7 - (j : Int)) % 18446744073709551616).toNat IntKind.i64.bits = 4 * (7 - j) := by
    show min _ 64 = _
    omega
  rw [e, Int.pow_mul]
  exact Int.fdiv_eq_ediv_of_nonneg _ (Int.le_of_lt (Int.pow_pos (by decide)))
theorem hex_next (n : Int) (j : Nat) (h : j ≤ 7) : hexL (j + 1) (n / 16 ^ (8 - (j + 1))) = hexL j (n / 16 ^ (8 - j)) ++ [hexD (n / 16 ^ (7 - j) % 16)] := by
  rw [hexL, show 8 - (j + 1) = 7 - j by omega, Int.ediv_ediv_of_nonneg (Int.le_of_lt (Int.pow_pos (by decide))), ← Int.pow_succ, show (7 - j).succ = 8 - j by omega]
theorem segT_form (n : Int) (h : numOk n) (k : Nat) (hk : k < 8) (hn : n < 16 ^ (k + 1)) : ⟨#[115]⟩ ++ strOf (List.replicate (8 - ((k : Int) + 1)).toNat 48) ++ strOf (hexL (k + 1) n) ++ ⟨#[46, 115, 101, 103]⟩ = segT n := by
  have e := hexL_pad (k + 1) (8 - (k + 1)) n h.1 hn
  rw [show k + 1 + (8 - (k + 1)) = 8 by omega] at e
  unfold segT segL
  rw [if_pos h, e, show (8 - ((k : Int) + 1)).toNat = 8 - (k + 1) by omega]
  rw [strOf_app ([115] ++ (List.replicate (8 - (k + 1)) 48 ++ hexL (k + 1) n)), strOf_app [115], strOf_app (List.replicate (8 - (k + 1)) 48), ByteArray.append_assoc, ByteArray.append_assoc, ByteArray.append_assoc, ByteArray.append_assoc]
  rfl
theorem impl_SegmentName (n : Int) (hn : i64 n) : Fn Tryz.prog 38 [.int .i64 n] [] (.str (segT n)) [] := by
  by_cases h : numOk n
  · have hs := segT_form n h
    generalize segT n = q at *
    obtain ⟨h0, h1⟩ := h
    refine fn_x tok (n := 17) (rs := [.tmp 2]) Tryz.func38 (by decide) rfl rfl rfl rfl ?_
    refine Wr.go ?_
    repeat' ((first | (have ee := True.intro; refine Wr.mk ?_) | ((first | refine br_go ?_ ?_ | refine pick_go ?_ ?_) <;> intro ee f <;> (try simp only [BB] at f) <;> (try simp only [numOk, verOk] at f)) | (have ee := True.intro; first | refine call_x (impl_isNumber n) rfl ⟨rfl⟩ ?_)) <;> (try simp (maxSteps := 1000000) (disch := first | omega | (simp only [LN, numOk, verOk] <;> omega) | exact Ck.mk rfl) only [ee, VC, T, Nat.reduceMul, Nat.reduceAdd, Nat.reduceSub, Nat.reduceLT, Nat.reduceEqDiff, Nat.reduceLeDiff, Nat.reduceBEq, reduceCtorEq, Int.reduceToNat, ↓reduceIte]) <;> (try clear ee))
    refine call_v (format16 n h0 (by omega)) rfl ?_
    rintro _ ⟨k, hk, hx, rfl⟩
    refine ⟨⟨rfl⟩, ?_⟩
    have hz := strOf_size (hexL (k + 1) n)
    rw [hexL_length] at hz
    have hr := repeat0 (8 - ((k : Int) + 1)) (by omega)
    have hz2 := strOf_size (List.replicate (8 - ((k : Int) + 1)).toNat 48)
    rw [List.length_replicate] at hz2
    have hs := hs k hk hx
    refine Wr.go ?_
    repeat' ((first | (have ee := True.intro; refine Wr.mk ?_) | ((first | refine br_go ?_ ?_ | refine pick_go ?_ ?_) <;> intro ee f <;> (try simp only [BB] at f) <;> (try simp only [numOk, verOk] at f)) | (have ee := True.intro; first | refine call_x (hr) rfl ⟨rfl⟩ ?_)) <;> (try simp (maxSteps := 1000000) (disch := first | omega | (simp only [LN, numOk, verOk, hz] <;> omega) | exact Ck.mk rfl) only [ee, VC, T, Nat.reduceMul, Nat.reduceAdd, Nat.reduceSub, Nat.reduceLT, Nat.reduceEqDiff, Nat.reduceLeDiff, Nat.reduceBEq, reduceCtorEq, Int.reduceToNat, ↓reduceIte, hz]) <;> (try clear ee))
    rw [← hs]
  · have e : segT n = ⟨#[]⟩ := if_neg h
    rw [e]
    refine fn_x tok (n := 17) (rs := [.tmp 2]) Tryz.func38 (by decide) rfl rfl rfl rfl ?_
    refine Wr.go ?_
    repeat' ((first | (have ee := True.intro; refine Wr.mk ?_) | ((first | refine br_go ?_ ?_ | refine pick_go ?_ ?_) <;> intro ee f <;> (try simp only [BB] at f) <;> (try simp only [numOk, verOk] at f)) | (have ee := True.intro; first | refine call_x (impl_isNumber n) rfl ⟨rfl⟩ ?_)) <;> (try simp (maxSteps := 1000000) (disch := first | omega | (simp only [LN, numOk, verOk] <;> omega) | exact Ck.mk rfl) only [ee, VC, T, Nat.reduceMul, Nat.reduceAdd, Nat.reduceSub, Nat.reduceLT, Nat.reduceEqDiff, Nat.reduceLeDiff, Nat.reduceBEq, reduceCtorEq, Int.reduceToNat, ↓reduceIte]) <;> (try clear ee))
theorem spec_SegmentName (n : Int) (hn : i64 n) : Fn Tryz.prog 25 [.int .i64 n] [] (.str (segT n)) [] := by
  by_cases h : numOk n
  · have e : segT n = strOf (segL n) := if_pos h
    rw [e]
    obtain ⟨h0, h1⟩ := h
    refine fn_x tok (n := 27) (rs := [.tmp 2]) Tryz.func25 (by decide) rfl rfl rfl rfl ?_
    refine Wr.go ?_
    repeat' ((first | (have ee := True.intro; refine Wr.mk ?_) | ((first | refine br_go ?_ ?_ | refine pick_go ?_ ?_) <;> intro ee f <;> (try simp only [BB] at f) <;> (try simp only [numOk, verOk] at f)) | (have ee := True.intro; first | refine call_x (spec_l01In _ _ _) rfl ⟨rfl⟩ ?_)) <;> (try simp (maxSteps := 1000000) (disch := first | omega | (simp only [LN, numOk, verOk] <;> omega) | exact Ck.mk rfl) only [ee, VC, T, Nat.reduceMul, Nat.reduceAdd, Nat.reduceSub, Nat.reduceLT, Nat.reduceEqDiff, Nat.reduceLeDiff, Nat.reduceBEq, reduceCtorEq, Int.reduceToNat, ↓reduceIte]) <;> (try clear ee))
    refine lp_go (fun j : Nat => ⟨27, [(0, .int .i64 n), (3, .row 576 j), (4, .int .i64 (7 - j))], [(576, .row ⟨1, 0⟩ ((hexL j (n / 16 ^ (8 - j))).map (.int .u8)))]⟩) (fun j => j ≤ 8) (fun j => 8 - j) 0 ?_ (by decide) ?_
    · (simp (disch := first | omega | (simp only [LN, numOk, verOk] <;> omega) | exact Ck.mk rfl) only [SB, EQ, Nat.reduceMul, Nat.reduceAdd, Nat.reduceSub, Nat.reduceLT, Nat.reduceEqDiff, Nat.reduceLeDiff, Nat.reduceBEq, reduceCtorEq, Int.reduceToNat, ↓reduceIte]; try omega)
      exact ⟨rfl, rfl⟩
    · intro j hj N hN
      have a1 : ∀ s, Go.bits .and .i64 s 15 = s % 16 := fun s => and_mask64 s 4 (by decide)
      have a2 := shr16 n j h0
      have a3 := hexL_length j (n / 16 ^ (8 - j))
      have a4 : bt ⟨#[48, 49, 50, 51, 52, 53, 54, 55, 56, 57, 97, 98, 99, 100, 101, 102]⟩ (n / 16 ^ (7 - j) % 16) = hexD (n / 16 ^ (7 - j) % 16) := hexT_at _ (by omega) (by omega)
      have a5 := hex_next n j
      refine Wr.go ?_
      repeat' ((first | (have ee := True.intro; refine Wr.mk ?_) | ((first | refine br_go ?_ ?_ | refine pick_go ?_ ?_) <;> intro ee f <;> (try simp only [BB] at f) <;> (try simp only [numOk, verOk] at f))) <;> (try simp (maxSteps := 1000000) (disch := first | omega | (simp only [LN, numOk, verOk, a1, a2, a3, a4] <;> omega) | exact Ck.mk rfl) only [ee, VC, T, Nat.reduceMul, Nat.reduceAdd, Nat.reduceSub, Nat.reduceLT, Nat.reduceEqDiff, Nat.reduceLeDiff, Nat.reduceBEq, reduceCtorEq, Int.reduceToNat, ↓reduceIte, a1, a2, a3, a4]) <;> (try clear ee))
      · refine hN (j + 1) _ (by omega) (by omega) ?_
        rw [a5 (by omega)]
        (simp (disch := first | omega | (simp only [LN, numOk, verOk] <;> omega) | exact Ck.mk rfl) only [SB, EQ, Nat.reduceMul, Nat.reduceAdd, Nat.reduceSub, Nat.reduceLT, Nat.reduceEqDiff, Nat.reduceLeDiff, Nat.reduceBEq, reduceCtorEq, Int.reduceToNat, ↓reduceIte]; try omega)
      · obtain rfl : j = 8 := by omega
        have hz := strOf_size (hexL 8 (n / 16 ^ (8 - 8)))
        rw [hexL_length] at hz
        refine ⟨fun x hx => ?_, by omega, by omega, ?_⟩
        · have := hexL_range _ _ x hx
          omega
        · rw [show n / 16 ^ (8 - 8) = n by simp]
          unfold segL
          rw [strOf_app, strOf_app]
          rfl
  · have e : segT n = ⟨#[]⟩ := if_neg h
    rw [e]
    refine fn_x tok (n := 27) (rs := [.tmp 2]) Tryz.func25 (by decide) rfl rfl rfl rfl ?_
    refine Wr.go ?_
    repeat' ((first | (have ee := True.intro; refine Wr.mk ?_) | ((first | refine br_go ?_ ?_ | refine pick_go ?_ ?_) <;> intro ee f <;> (try simp only [BB] at f) <;> (try simp only [numOk, verOk] at f)) | (have ee := True.intro; first | refine call_x (spec_l01In _ _ _) rfl ⟨rfl⟩ ?_)) <;> (try simp (maxSteps := 1000000) (disch := first | omega | (simp only [LN, numOk, verOk] <;> omega) | exact Ck.mk rfl) only [ee, VC, T, Nat.reduceMul, Nat.reduceAdd, Nat.reduceSub, Nat.reduceLT, Nat.reduceEqDiff, Nat.reduceLeDiff, Nat.reduceBEq, reduceCtorEq, Int.reduceToNat, ↓reduceIte]) <;> (try clear ee))
    · exact absurd f h
end Go.Pv

/- What functions of the program and of the reference do, in plain values. -/
namespace Go.Pv
open Go.Proofs Go.Mth
set_option linter.unusedSimpArgs false
set_option linter.unusedVariables false
set_option maxHeartbeats 4000000
set_option maxRecDepth 4000

/-! ### disks: nodes and entries, files -/
def ndP (x : Nd) : PV := .agg [.int .i64 x.1, .str x.2.1, .int .i64 x.2.2]
def enP (x : Et) : PV := .agg [.str x.1, .int .i64 x.2]
def dkP (d : Dk) : PV := .agg [.far (d.1.map ndP), .far (d.2.1.map enP), .far (d.2.2.1.map enP), .far (d.2.2.2.1.map .str), .int .i64 d.2.2.2.2.1, .int .i64 d.2.2.2.2.2]
theorem impl_placeOf_lit (x : Et) (n : ByteArray) : Fn Tryz.prog 159 [enP x, .fel [.str n]] [] (.bool (decide (x.1 = n))) [] := by
  obtain ⟨a, b⟩ := x
  unfold enP
  refine fn_x tok (n := 8) (rs := [.tmp 3]) Tryz.func159 (by decide) rfl rfl rfl rfl ?_
  refine Wr.go ?_
  repeat' ((first | (have ee := True.intro; refine Wr.mk ?_) | ((first | refine br_go ?_ ?_ | refine pick_go ?_ ?_) <;> intro ee f <;> (try simp only [BB] at f) <;> (try simp only [numOk, verOk] at f))) <;> (try simp (maxSteps := 1000000) (disch := first | omega | (simp only [LN, numOk, verOk, rfP, rvP, rhP, frP] <;> omega) | exact Ck.mk rfl) only [ee, VC, T, Nat.reduceMul, Nat.reduceAdd, Nat.reduceSub, Nat.reduceLT, Nat.reduceEqDiff, Nat.reduceLeDiff, Nat.reduceBEq, reduceCtorEq, Int.reduceToNat, ↓reduceIte, rfP, rvP, rhP, frP]) <;> (try clear ee))
theorem impl_nodeOf_lit (x : Nd) (n : Int) : Fn Tryz.prog 161 [ndP x, .fel [.int .i64 n]] [] (.bool (decide (x.1 = n))) [] := by
  obtain ⟨a, b, c⟩ := x
  unfold ndP
  refine fn_x tok (n := 8) (rs := [.tmp 3]) Tryz.func161 (by decide) rfl rfl rfl rfl ?_
  refine Wr.go ?_
  repeat' ((first | (have ee := True.intro; refine Wr.mk ?_) | ((first | refine br_go ?_ ?_ | refine pick_go ?_ ?_) <;> intro ee f <;> (try simp only [BB] at f) <;> (try simp only [numOk, verOk] at f))) <;> (try simp (maxSteps := 1000000) (disch := first | omega | (simp only [LN, numOk, verOk, rfP, rvP, rhP, frP] <;> omega) | exact Ck.mk rfl) only [ee, VC, T, Nat.reduceMul, Nat.reduceAdd, Nat.reduceSub, Nat.reduceLT, Nat.reduceEqDiff, Nat.reduceLeDiff, Nat.reduceBEq, reduceCtorEq, Int.reduceToNat, ↓reduceIte, rfP, rvP, rhP, frP]) <;> (try clear ee))
theorem indexE (es : List Et) (n : ByteArray) (hl : es.length ≤ 1048576) : Fn Tryz.prog 158 [.far (es.map enP), .fn (.func 159) [.fel [.str n]]] [] (.int .i64 (placeI es n)) [] := by
  have hst := findI_step (fun e : Et => decide (e.1 = n)) es
  have hen := findI_end (fun e : Et => decide (e.1 = n)) es
  refine fn_x tok (n := 19) (rs := [.tmp 4]) Tryz.func158 (by decide) rfl rfl rfl rfl ?_
  refine Wr.go ?_
  repeat' ((first | (have ee := True.intro; refine Wr.mk ?_) | ((first | refine br_go ?_ ?_ | refine pick_go ?_ ?_) <;> intro ee f <;> (try simp only [BB] at f) <;> (try simp only [numOk, verOk] at f))) <;> (try simp (maxSteps := 1000000) (disch := first | omega | (simp only [LN, numOk, verOk, rfP, rvP, rhP, frP] <;> omega) | exact Ck.mk rfl) only [ee, VC, T, Nat.reduceMul, Nat.reduceAdd, Nat.reduceSub, Nat.reduceLT, Nat.reduceEqDiff, Nat.reduceLeDiff, Nat.reduceBEq, reduceCtorEq, Int.reduceToNat, ↓reduceIte, rfP, rvP, rhP, frP]) <;> (try clear ee))
  refine lp_go (fun i : Nat => ⟨19, [(0, .far (es.map enP)), (1, .fn (.func 159) [.fel [.str n]]), (7, .int .i64 es.length), (8, .int .i64 i)], []⟩) (fun i => i ≤ es.length ∧ placeI es n = findI (fun e => decide (e.1 = n)) (es.drop i) i) (fun i => es.length - i) 0 ?_ ⟨Nat.zero_le _, rfl⟩ ?_
  · (simp (disch := first | omega | (simp only [LN, numOk, verOk] <;> omega) | exact Ck.mk rfl) only [SB, EQ, Nat.reduceMul, Nat.reduceAdd, Nat.reduceSub, Nat.reduceLT, Nat.reduceEqDiff, Nat.reduceLeDiff, Nat.reduceBEq, reduceCtorEq, Int.reduceToNat, ↓reduceIte]; try omega)
  · rintro i ⟨h1, h2⟩ N hN
    have hg : i < es.length → (es.map enP).getD i .junk = .agg [.str (es.getD i default).1, .int .i64 (es.getD i default).2] := fun h => by
      rw [List.getD_eq_getElem?_getD, List.getElem?_map, List.getElem?_eq_getElem h, List.getD_eq_getElem?_getD, List.getElem?_eq_getElem h]; rfl
    have hst := hst i
    have hen := hen i
    refine Wr.go ?_
    repeat' ((first | (have ee := True.intro; refine Wr.mk ?_) | ((first | refine br_go ?_ ?_ | refine pick_go ?_ ?_) <;> intro ee f <;> (try simp only [BB] at f) <;> (try simp only [numOk, verOk] at f)) | (have ee := True.intro; first | refine call_x (impl_placeOf_lit (es.getD i default) n) rfl ⟨rfl⟩ ?_)) <;> (try simp (maxSteps := 1000000) (disch := first | omega | (simp only [LN, numOk, verOk, rfP, rvP, rhP, frP, hg] <;> omega) | exact Ck.mk rfl) only [ee, VC, T, Nat.reduceMul, Nat.reduceAdd, Nat.reduceSub, Nat.reduceLT, Nat.reduceEqDiff, Nat.reduceLeDiff, Nat.reduceBEq, reduceCtorEq, Int.reduceToNat, ↓reduceIte, rfP, rvP, rhP, frP, hg]) <;> (try clear ee))
    · rw [h2, hst (by omega), if_pos (decide_eq_true f)]
    · refine hN (i + 1) _ ⟨by omega, ?_⟩ (by omega) ?_
      · rw [h2, hst (by omega), if_neg (by rw [decide_eq_false f]; decide)]
      · (simp (disch := first | omega | (simp only [LN, numOk, verOk] <;> omega) | exact Ck.mk rfl) only [SB, EQ, Nat.reduceMul, Nat.reduceAdd, Nat.reduceSub, Nat.reduceLT, Nat.reduceEqDiff, Nat.reduceLeDiff, Nat.reduceBEq, reduceCtorEq, Int.reduceToNat, ↓reduceIte]; try omega)
    · rw [h2, hen (by omega)]
theorem indexN (es : List Nd) (n : Int) (hl : es.length ≤ 1048576) : Fn Tryz.prog 160 [.far (es.map ndP), .fn (.func 161) [.fel [.int .i64 n]]] [] (.int .i64 (nodeI es n)) [] := by
  have hst := findI_step (fun e : Nd => decide (e.1 = n)) es
  have hen := findI_end (fun e : Nd => decide (e.1 = n)) es
  refine fn_x tok (n := 19) (rs := [.tmp 4]) Tryz.func160 (by decide) rfl rfl rfl rfl ?_
  refine Wr.go ?_
  repeat' ((first | (have ee := True.intro; refine Wr.mk ?_) | ((first | refine br_go ?_ ?_ | refine pick_go ?_ ?_) <;> intro ee f <;> (try simp only [BB] at f) <;> (try simp only [numOk, verOk] at f))) <;> (try simp (maxSteps := 1000000) (disch := first | omega | (simp only [LN, numOk, verOk, rfP, rvP, rhP, frP] <;> omega) | exact Ck.mk rfl) only [ee, VC, T, Nat.reduceMul, Nat.reduceAdd, Nat.reduceSub, Nat.reduceLT, Nat.reduceEqDiff, Nat.reduceLeDiff, Nat.reduceBEq, reduceCtorEq, Int.reduceToNat, ↓reduceIte, rfP, rvP, rhP, frP]) <;> (try clear ee))
  refine lp_go (fun i : Nat => ⟨19, [(0, .far (es.map ndP)), (1, .fn (.func 161) [.fel [.int .i64 n]]), (7, .int .i64 es.length), (8, .int .i64 i)], []⟩) (fun i => i ≤ es.length ∧ nodeI es n = findI (fun e => decide (e.1 = n)) (es.drop i) i) (fun i => es.length - i) 0 ?_ ⟨Nat.zero_le _, rfl⟩ ?_
  · (simp (disch := first | omega | (simp only [LN, numOk, verOk] <;> omega) | exact Ck.mk rfl) only [SB, EQ, Nat.reduceMul, Nat.reduceAdd, Nat.reduceSub, Nat.reduceLT, Nat.reduceEqDiff, Nat.reduceLeDiff, Nat.reduceBEq, reduceCtorEq, Int.reduceToNat, ↓reduceIte]; try omega)
  · rintro i ⟨h1, h2⟩ N hN
    have hg : i < es.length → (es.map ndP).getD i .junk = .agg [.int .i64 (es.getD i default).1, .str (es.getD i default).2.1, .int .i64 (es.getD i default).2.2] := fun h => by
      rw [List.getD_eq_getElem?_getD, List.getElem?_map, List.getElem?_eq_getElem h, List.getD_eq_getElem?_getD, List.getElem?_eq_getElem h]; rfl
    have hst := hst i
    have hen := hen i
    refine Wr.go ?_
    repeat' ((first | (have ee := True.intro; refine Wr.mk ?_) | ((first | refine br_go ?_ ?_ | refine pick_go ?_ ?_) <;> intro ee f <;> (try simp only [BB] at f) <;> (try simp only [numOk, verOk] at f)) | (have ee := True.intro; first | refine call_x (impl_nodeOf_lit (es.getD i default) n) rfl ⟨rfl⟩ ?_)) <;> (try simp (maxSteps := 1000000) (disch := first | omega | (simp only [LN, numOk, verOk, rfP, rvP, rhP, frP, hg] <;> omega) | exact Ck.mk rfl) only [ee, VC, T, Nat.reduceMul, Nat.reduceAdd, Nat.reduceSub, Nat.reduceLT, Nat.reduceEqDiff, Nat.reduceLeDiff, Nat.reduceBEq, reduceCtorEq, Int.reduceToNat, ↓reduceIte, rfP, rvP, rhP, frP, hg]) <;> (try clear ee))
    · rw [h2, hst (by omega), if_pos (decide_eq_true f)]
    · refine hN (i + 1) _ ⟨by omega, ?_⟩ (by omega) ?_
      · rw [h2, hst (by omega), if_neg (by rw [decide_eq_false f]; decide)]
      · (simp (disch := first | omega | (simp only [LN, numOk, verOk] <;> omega) | exact Ck.mk rfl) only [SB, EQ, Nat.reduceMul, Nat.reduceAdd, Nat.reduceSub, Nat.reduceLT, Nat.reduceEqDiff, Nat.reduceLeDiff, Nat.reduceBEq, reduceCtorEq, Int.reduceToNat, ↓reduceIte]; try omega)
    · rw [h2, hen (by omega)]
theorem impl_placeOf (es : List Et) (n : ByteArray) (hl : es.length ≤ 1048576) : Fn Tryz.prog 122 [.far (es.map enP), .str n] [] (.int .i64 (placeI es n)) [] := by
  refine fn_x tok (n := 8) (rs := [.tmp 4]) Tryz.func122 (by decide) rfl rfl rfl rfl ?_
  refine Wr.go ?_
  repeat' ((first | (have ee := True.intro; refine Wr.mk ?_) | ((first | refine br_go ?_ ?_ | refine pick_go ?_ ?_) <;> intro ee f <;> (try simp only [BB] at f) <;> (try simp only [numOk, verOk] at f)) | (have ee := True.intro; first | (refine call_hx [] [256] (indexE es n hl) (by decide) ?_ rfl ?_; (focus (first | rfl | (simp (maxSteps := 1000000) (disch := first | omega | (simp only [LN, numOk, verOk, rfP, rvP, rhP, frP] <;> omega) | exact Ck.mk rfl) only [VC, T, Nat.reduceMul, Nat.reduceAdd, Nat.reduceSub, Nat.reduceLT, Nat.reduceEqDiff, Nat.reduceLeDiff, Nat.reduceBEq, reduceCtorEq, Int.reduceToNat, ↓reduceIte, rfP, rvP, rhP, frP]; done)))))) <;> (try simp (maxSteps := 1000000) (disch := first | omega | (simp only [LN, numOk, verOk, rfP, rvP, rhP, frP] <;> omega) | exact Ck.mk rfl) only [ee, VC, T, Nat.reduceMul, Nat.reduceAdd, Nat.reduceSub, Nat.reduceLT, Nat.reduceEqDiff, Nat.reduceLeDiff, Nat.reduceBEq, reduceCtorEq, Int.reduceToNat, ↓reduceIte, rfP, rvP, rhP, frP]) <;> (try clear ee))
theorem impl_nodeOf (d : Dk) (k : Int) (hl : d.1.length ≤ 1048576) : Fn Tryz.prog 123 [dkP d, .int .i64 k] [] (.int .i64 (nodeI d.1 k)) [] := by
  unfold dkP
  refine fn_x tok (n := 9) (rs := [.tmp 4]) Tryz.func123 (by decide) rfl rfl rfl rfl ?_
  refine Wr.go ?_
  repeat' ((first | (have ee := True.intro; refine Wr.mk ?_) | ((first | refine br_go ?_ ?_ | refine pick_go ?_ ?_) <;> intro ee f <;> (try simp only [BB] at f) <;> (try simp only [numOk, verOk] at f)) | (have ee := True.intro; first | (refine call_hx [] [256] (indexN d.1 k hl) (by decide) ?_ rfl ?_; (focus (first | rfl | (simp (maxSteps := 1000000) (disch := first | omega | (simp only [LN, numOk, verOk, rfP, rvP, rhP, frP] <;> omega) | exact Ck.mk rfl) only [VC, T, Nat.reduceMul, Nat.reduceAdd, Nat.reduceSub, Nat.reduceLT, Nat.reduceEqDiff, Nat.reduceLeDiff, Nat.reduceBEq, reduceCtorEq, Int.reduceToNat, ↓reduceIte, rfP, rvP, rhP, frP]; done)))))) <;> (try simp (maxSteps := 1000000) (disch := first | omega | (simp only [LN, numOk, verOk, rfP, rvP, rhP, frP] <;> omega) | exact Ck.mk rfl) only [ee, VC, T, Nat.reduceMul, Nat.reduceAdd, Nat.reduceSub, Nat.reduceLT, Nat.reduceEqDiff, Nat.reduceLeDiff, Nat.reduceBEq, reduceCtorEq, Int.reduceToNat, ↓reduceIte, rfP, rvP, rhP, frP]) <;> (try clear ee))
theorem impl_nodeAt (d : Dk) (n : ByteArray) (h : DkW d) : Fn Tryz.prog 86 [dkP d, .str n] [] (.int .i64 (nodeP d n)) [] := by
  have hp := impl_placeOf d.2.1 n h.es
  have hr := placeI_r d.2.1 n
  have hn := fun k => impl_nodeOf d k h.ns
  unfold nodeP
  unfold dkP at *
  generalize placeI d.2.1 n = p at *
  have hg : (p.toNat < d.2.1.length) → (d.2.1.map enP).getD p.toNat .junk = .agg [.str (d.2.1.getD p.toNat default).1, .int .i64 (d.2.1.getD p.toNat default).2] := fun h => by
    rw [List.getD_eq_getElem?_getD, List.getElem?_map, List.getElem?_eq_getElem h, List.getD_eq_getElem?_getD, List.getElem?_eq_getElem h]; rfl
  refine fn_x tok (n := 20) (rs := [.tmp 4]) Tryz.func86 (by decide) rfl rfl rfl rfl ?_
  refine Wr.go ?_
  repeat' ((first | (have ee := True.intro; refine Wr.mk ?_) | ((first | refine br_go ?_ ?_ | refine pick_go ?_ ?_) <;> intro ee f <;> (try simp only [BB] at f) <;> (try simp only [numOk, verOk] at f)) | (have ee := True.intro; first | refine dr_go mixed (id := 4) [([], [2], []), ([], [2], []), ([1], [13], []), ([], [5], []), ([1, 2, 3], [14, 15], []), ([1, 2, 3, 4], [16], []), ([1, 2, 3, 4, 5], [17], []), ([0, 1, 2, 3, 4, 5, 6], [12, 18], []), ([0, 1, 2, 3, 4, 5, 6, 7], [19], [])] rfl rfl rfl ?_ | refine call_x (hp) rfl ⟨rfl⟩ ?_ | refine call_x (hn _) rfl ⟨rfl⟩ ?_)) <;> (try simp (maxSteps := 1000000) (disch := first | omega | (simp only [LN, numOk, verOk, rfP, rvP, rhP, frP, hg] <;> omega) | exact Ck.mk rfl) only [ee, VC, T, Nat.reduceMul, Nat.reduceAdd, Nat.reduceSub, Nat.reduceLT, Nat.reduceEqDiff, Nat.reduceLeDiff, Nat.reduceBEq, reduceCtorEq, Int.reduceToNat, ↓reduceIte, rfP, rvP, rhP, frP, hg]) <;> (try clear ee))
  · rw [if_pos f]
  · rw [if_neg (by omega)]
theorem impl_NodeAt (d : Dk) (n : ByteArray) (h : DkOk d) : Fn Tryz.prog 121 [dkP d, .str n] [] (.tup [ndP (nodeT d n).1, .bool (nodeT d n).2]) [] := by
  have hp := impl_nodeAt d n h.w
  have hr := nodeP_r d n
  unfold nodeT
  unfold dkP at *
  generalize nodeP d n = p at *
  have hg : (p.toNat < d.1.length) → (d.1.map ndP).getD p.toNat .junk = .agg [.int .i64 (d.1.getD p.toNat default).1, .str (d.1.getD p.toNat default).2.1, .int .i64 (d.1.getD p.toNat default).2.2] := fun h => by
    rw [List.getD_eq_getElem?_getD, List.getElem?_map, List.getElem?_eq_getElem h, List.getD_eq_getElem?_getD, List.getElem?_eq_getElem h]; rfl
  refine fn_x tok (n := 18) (rs := [.cell 4 93, .tmp 5]) Tryz.func121 (by decide) rfl rfl rfl rfl ?_
  refine Wr.go ?_
  repeat' ((first | (have ee := True.intro; refine Wr.mk ?_) | ((first | refine br_go ?_ ?_ | refine pick_go ?_ ?_) <;> intro ee f <;> (try simp only [BB] at f) <;> (try simp only [numOk, verOk] at f)) | (have ee := True.intro; first | refine call_x (hp) rfl ⟨rfl⟩ ?_)) <;> (try simp (maxSteps := 1000000) (disch := first | omega | (simp only [LN, numOk, verOk, rfP, rvP, rhP, frP, hg] <;> omega) | exact Ck.mk rfl) only [ee, VC, T, Nat.reduceMul, Nat.reduceAdd, Nat.reduceSub, Nat.reduceLT, Nat.reduceEqDiff, Nat.reduceLeDiff, Nat.reduceBEq, reduceCtorEq, Int.reduceToNat, ↓reduceIte, rfP, rvP, rhP, frP, hg]) <;> (try clear ee))
  · rw [if_pos f]; rfl
  · rw [if_neg (by omega)]; rfl
theorem spec_EntryAt (es : List Et) (n : ByteArray) (hl : es.length ≤ 16777216) : Fn Tryz.prog 66 [.far (es.map enP), .str n] [] (.int .i64 (entT es n)) [] := by
  have hst := findI_step (fun e : Et => decide (e.1 = n)) es
  have hen := findI_end (fun e : Et => decide (e.1 = n)) es
  refine fn_x tok (n := 24) (rs := [.tmp 4]) Tryz.func66 (by decide) rfl rfl rfl rfl ?_
  refine Wr.go ?_
  repeat' ((first | (have ee := True.intro; refine Wr.mk ?_) | ((first | refine br_go ?_ ?_ | refine pick_go ?_ ?_) <;> intro ee f <;> (try simp only [BB] at f) <;> (try simp only [numOk, verOk] at f))) <;> (try simp (maxSteps := 1000000) (disch := first | omega | (simp only [LN, numOk, verOk, rfP, rvP, rhP, frP] <;> omega) | exact Ck.mk rfl) only [ee, VC, T, Nat.reduceMul, Nat.reduceAdd, Nat.reduceSub, Nat.reduceLT, Nat.reduceEqDiff, Nat.reduceLeDiff, Nat.reduceBEq, reduceCtorEq, Int.reduceToNat, ↓reduceIte, rfP, rvP, rhP, frP]) <;> (try clear ee))
  refine lp_go (fun i : Nat => ⟨24, [(0, .far (es.map enP)), (1, .str n), (5, .int .i64 i)], []⟩) (fun i => i ≤ es.length ∧ placeI es n = findI (fun e => decide (e.1 = n)) (es.drop i) i) (fun i => es.length - i) 0 ?_ ⟨Nat.zero_le _, rfl⟩ ?_
  · (simp (disch := first | omega | (simp only [LN, numOk, verOk] <;> omega) | exact Ck.mk rfl) only [SB, EQ, Nat.reduceMul, Nat.reduceAdd, Nat.reduceSub, Nat.reduceLT, Nat.reduceEqDiff, Nat.reduceLeDiff, Nat.reduceBEq, reduceCtorEq, Int.reduceToNat, ↓reduceIte]; try omega)
  · rintro i ⟨h1, h2⟩ N hN
    have hg : i < es.length → (es.map enP).getD i .junk = .agg [.str (es.getD i default).1, .int .i64 (es.getD i default).2] := fun h => by
      rw [List.getD_eq_getElem?_getD, List.getElem?_map, List.getElem?_eq_getElem h, List.getD_eq_getElem?_getD, List.getElem?_eq_getElem h]; rfl
    have hst := hst i
    have hen := hen i
    refine Wr.go ?_
    repeat' ((first | (have ee := True.intro; refine Wr.mk ?_) | ((first | refine br_go ?_ ?_ | refine pick_go ?_ ?_) <;> intro ee f <;> (try simp only [BB] at f) <;> (try simp only [numOk, verOk] at f))) <;> (try simp (maxSteps := 1000000) (disch := first | omega | (simp only [LN, numOk, verOk, rfP, rvP, rhP, frP, hg] <;> omega) | exact Ck.mk rfl) only [ee, VC, T, Nat.reduceMul, Nat.reduceAdd, Nat.reduceSub, Nat.reduceLT, Nat.reduceEqDiff, Nat.reduceLeDiff, Nat.reduceBEq, reduceCtorEq, Int.reduceToNat, ↓reduceIte, rfP, rvP, rhP, frP, hg]) <;> (try clear ee))
    · unfold entT
      rw [h2, hst (by omega), if_pos (decide_eq_true f), if_neg (by omega), Int.toNat_natCast]
    · refine hN (i + 1) _ ⟨by omega, ?_⟩ (by omega) ?_
      · rw [h2, hst (by omega), if_neg (by rw [decide_eq_false f]; decide)]
      · (simp (disch := first | omega | (simp only [LN, numOk, verOk] <;> omega) | exact Ck.mk rfl) only [SB, EQ, Nat.reduceMul, Nat.reduceAdd, Nat.reduceSub, Nat.reduceLT, Nat.reduceEqDiff, Nat.reduceLeDiff, Nat.reduceBEq, reduceCtorEq, Int.reduceToNat, ↓reduceIte]; try omega)
    · unfold entT
      rw [h2, hen (by omega), if_pos (by decide)]
theorem spec_l06Has (es : List Et) (n : ByteArray) (hl : es.length ≤ 16777216) : Fn Tryz.prog 64 [.far (es.map enP), .str n] [] (.bool (decide (0 ≤ placeI es n))) [] := by
  have hst := findI_step (fun e : Et => decide (e.1 = n)) es
  have hen := findI_end (fun e : Et => decide (e.1 = n)) es
  refine fn_x tok (n := 19) (rs := [.tmp 4]) Tryz.func64 (by decide) rfl rfl rfl rfl ?_
  refine Wr.go ?_
  repeat' ((first | (have ee := True.intro; refine Wr.mk ?_) | ((first | refine br_go ?_ ?_ | refine pick_go ?_ ?_) <;> intro ee f <;> (try simp only [BB] at f) <;> (try simp only [numOk, verOk] at f))) <;> (try simp (maxSteps := 1000000) (disch := first | omega | (simp only [LN, numOk, verOk, rfP, rvP, rhP, frP] <;> omega) | exact Ck.mk rfl) only [ee, VC, T, Nat.reduceMul, Nat.reduceAdd, Nat.reduceSub, Nat.reduceLT, Nat.reduceEqDiff, Nat.reduceLeDiff, Nat.reduceBEq, reduceCtorEq, Int.reduceToNat, ↓reduceIte, rfP, rvP, rhP, frP]) <;> (try clear ee))
  refine lp_go (fun i : Nat => ⟨19, [(0, .far (es.map enP)), (1, .str n), (5, .int .i64 i)], []⟩) (fun i => i ≤ es.length ∧ placeI es n = findI (fun e => decide (e.1 = n)) (es.drop i) i) (fun i => es.length - i) 0 ?_ ⟨Nat.zero_le _, rfl⟩ ?_
  · (simp (disch := first | omega | (simp only [LN, numOk, verOk] <;> omega) | exact Ck.mk rfl) only [SB, EQ, Nat.reduceMul, Nat.reduceAdd, Nat.reduceSub, Nat.reduceLT, Nat.reduceEqDiff, Nat.reduceLeDiff, Nat.reduceBEq, reduceCtorEq, Int.reduceToNat, ↓reduceIte]; try omega)
  · rintro i ⟨h1, h2⟩ N hN
    have hg : i < es.length → (es.map enP).getD i .junk = .agg [.str (es.getD i default).1, .int .i64 (es.getD i default).2] := fun h => by
      rw [List.getD_eq_getElem?_getD, List.getElem?_map, List.getElem?_eq_getElem h, List.getD_eq_getElem?_getD, List.getElem?_eq_getElem h]; rfl
    have hst := hst i
    have hen := hen i
    refine Wr.go ?_
    repeat' ((first | (have ee := True.intro; refine Wr.mk ?_) | ((first | refine br_go ?_ ?_ | refine pick_go ?_ ?_) <;> intro ee f <;> (try simp only [BB] at f) <;> (try simp only [numOk, verOk] at f))) <;> (try simp (maxSteps := 1000000) (disch := first | omega | (simp only [LN, numOk, verOk, rfP, rvP, rhP, frP, hg] <;> omega) | exact Ck.mk rfl) only [ee, VC, T, Nat.reduceMul, Nat.reduceAdd, Nat.reduceSub, Nat.reduceLT, Nat.reduceEqDiff, Nat.reduceLeDiff, Nat.reduceBEq, reduceCtorEq, Int.reduceToNat, ↓reduceIte, rfP, rvP, rhP, frP, hg]) <;> (try clear ee))
    · rw [h2, hst (by omega), if_pos (decide_eq_true f), decide_eq_true (by omega)]
    · refine hN (i + 1) _ ⟨by omega, ?_⟩ (by omega) ?_
      · rw [h2, hst (by omega), if_neg (by rw [decide_eq_false f]; decide)]
      · (simp (disch := first | omega | (simp only [LN, numOk, verOk] <;> omega) | exact Ck.mk rfl) only [SB, EQ, Nat.reduceMul, Nat.reduceAdd, Nat.reduceSub, Nat.reduceLT, Nat.reduceEqDiff, Nat.reduceLeDiff, Nat.reduceBEq, reduceCtorEq, Int.reduceToNat, ↓reduceIte]; try omega)
    · rw [h2, hen (by omega)]; rfl
theorem spec_l05Node (d : Dk) (k : Int) (hl : d.1.length ≤ 1048576) : Fn Tryz.prog 65 [dkP d, .int .i64 k] [] (.int .i64 (nodeI d.1 k)) [] := by
  obtain ⟨ns, es, os, ss, r, x⟩ := d
  simp only at hl ⊢
  have hst := findI_step (fun e : Nd => decide (e.1 = k)) ns
  have hen := findI_end (fun e : Nd => decide (e.1 = k)) ns
  unfold dkP
  refine fn_x tok (n := 22) (rs := [.tmp 4]) Tryz.func65 (by decide) rfl rfl rfl rfl ?_
  refine Wr.go ?_
  repeat' ((first | (have ee := True.intro; refine Wr.mk ?_) | ((first | refine br_go ?_ ?_ | refine pick_go ?_ ?_) <;> intro ee f <;> (try simp only [BB] at f) <;> (try simp only [numOk, verOk] at f))) <;> (try simp (maxSteps := 1000000) (disch := first | omega | (simp only [LN, numOk, verOk, rfP, rvP, rhP, frP] <;> omega) | exact Ck.mk rfl) only [ee, VC, T, Nat.reduceMul, Nat.reduceAdd, Nat.reduceSub, Nat.reduceLT, Nat.reduceEqDiff, Nat.reduceLeDiff, Nat.reduceBEq, reduceCtorEq, Int.reduceToNat, ↓reduceIte, rfP, rvP, rhP, frP]) <;> (try clear ee))
  refine lp_go (fun i : Nat => ⟨22, [(1, .int .i64 k), (2, .ref 192 0), (5, .int .i64 i)], [(192, .box 35 [.far (ns.map ndP), .far (es.map enP), .far (os.map enP), .far (ss.map .str), .int .i64 r, .int .i64 x])]⟩) (fun i => i ≤ ns.length ∧ nodeI ns k = findI (fun e => decide (e.1 = k)) (ns.drop i) i) (fun i => ns.length - i) 0 ?_ ⟨Nat.zero_le _, rfl⟩ ?_
  · (simp (disch := first | omega | (simp only [LN, numOk, verOk] <;> omega) | exact Ck.mk rfl) only [SB, EQ, Nat.reduceMul, Nat.reduceAdd, Nat.reduceSub, Nat.reduceLT, Nat.reduceEqDiff, Nat.reduceLeDiff, Nat.reduceBEq, reduceCtorEq, Int.reduceToNat, ↓reduceIte]; try omega)
  · rintro i ⟨h1, h2⟩ N hN
    have hg : i < ns.length → (ns.map ndP).getD i .junk = .agg [.int .i64 (ns.getD i default).1, .str (ns.getD i default).2.1, .int .i64 (ns.getD i default).2.2] := fun h => by
      rw [List.getD_eq_getElem?_getD, List.getElem?_map, List.getElem?_eq_getElem h, List.getD_eq_getElem?_getD, List.getElem?_eq_getElem h]; rfl
    have hst := hst i
    have hen := hen i
    refine Wr.go ?_
    repeat' ((first | (have ee := True.intro; refine Wr.mk ?_) | ((first | refine br_go ?_ ?_ | refine pick_go ?_ ?_) <;> intro ee f <;> (try simp only [BB] at f) <;> (try simp only [numOk, verOk] at f))) <;> (try simp (maxSteps := 1000000) (disch := first | omega | (simp only [LN, numOk, verOk, rfP, rvP, rhP, frP, hg] <;> omega) | exact Ck.mk rfl) only [ee, VC, T, Nat.reduceMul, Nat.reduceAdd, Nat.reduceSub, Nat.reduceLT, Nat.reduceEqDiff, Nat.reduceLeDiff, Nat.reduceBEq, reduceCtorEq, Int.reduceToNat, ↓reduceIte, rfP, rvP, rhP, frP, hg]) <;> (try clear ee))
    · rw [h2, hst (by omega), if_pos (decide_eq_true f)]
    · refine hN (i + 1) _ ⟨by omega, ?_⟩ (by omega) ?_
      · rw [h2, hst (by omega), if_neg (by rw [decide_eq_false f]; decide)]
      · (simp (disch := first | omega | (simp only [LN, numOk, verOk] <;> omega) | exact Ck.mk rfl) only [SB, EQ, Nat.reduceMul, Nat.reduceAdd, Nat.reduceSub, Nat.reduceLT, Nat.reduceEqDiff, Nat.reduceLeDiff, Nat.reduceBEq, reduceCtorEq, Int.reduceToNat, ↓reduceIte]; try omega)
    · rw [h2, hen (by omega)]
theorem spec_NodeAt (d : Dk) (n : ByteArray) (h : DkOk d) : Fn Tryz.prog 103 [dkP d, .str n] [] (.tup [ndP (nodeT d n).1, .bool (nodeT d n).2]) [] := by
  have hE := spec_EntryAt d.2.1 n (Nat.le_trans h.es (by decide))
  have hH := spec_l06Has d.2.1 n (Nat.le_trans h.es (by decide))
  have hN := fun k => spec_l05Node d k h.ns
  have hr := placeI_r d.2.1 n
  have hk := nodeI_r d.1 (entT d.2.1 n)
  have hp : ¬ placeI d.2.1 n < 0 → nodeP d n = nodeI d.1 (entT d.2.1 n) := fun h => by unfold nodeP entT; rw [if_neg h, if_neg h]
  have hp0 : placeI d.2.1 n < 0 → nodeP d n = -1 := fun h => by unfold nodeP; rw [if_pos h]
  unfold nodeT
  unfold dkP at *
  generalize nodeP d n = p at *
  generalize placeI d.2.1 n = a at *
  generalize entT d.2.1 n = e at *
  have hN := hN e
  generalize nodeI d.1 e = z at *
  have hg : (z.toNat < d.1.length) → (d.1.map ndP).getD z.toNat .junk = .agg [.int .i64 (d.1.getD z.toNat default).1, .str (d.1.getD z.toNat default).2.1, .int .i64 (d.1.getD z.toNat default).2.2] := fun h => by
    rw [List.getD_eq_getElem?_getD, List.getElem?_map, List.getElem?_eq_getElem h, List.getD_eq_getElem?_getD, List.getElem?_eq_getElem h]; rfl
  refine fn_x tok (n := 28) (rs := [.cell 4 93, .tmp 5]) Tryz.func103 (by decide) rfl rfl rfl rfl ?_
  refine Wr.go ?_
  repeat' ((first | (have ee := True.intro; refine Wr.mk ?_) | ((first | refine br_go ?_ ?_ | refine pick_go ?_ ?_) <;> intro ee f <;> (try simp only [BB] at f) <;> (try simp only [numOk, verOk] at f)) | (have ee := True.intro; first | refine dr_go mixed (id := 1) [([], [2], []), ([], [2], []), ([1], [8], []), ([], [1], []), ([1, 2, 3], [9, 10], []), ([0, 1, 2, 3, 4], [7, 11], []), ([0, 1, 2, 3, 4, 5], [12], [])] rfl rfl rfl ?_ | refine call_x (hE) rfl ⟨rfl⟩ ?_ | refine call_x (hN) rfl ⟨rfl⟩ ?_ | refine call_x (hH) rfl ⟨rfl⟩ ?_)) <;> (try simp (maxSteps := 1000000) (disch := first | omega | (simp only [LN, numOk, verOk, rfP, rvP, rhP, frP, hg] <;> omega) | exact Ck.mk rfl) only [ee, VC, T, Nat.reduceMul, Nat.reduceAdd, Nat.reduceSub, Nat.reduceLT, Nat.reduceEqDiff, Nat.reduceLeDiff, Nat.reduceBEq, reduceCtorEq, Int.reduceToNat, ↓reduceIte, rfP, rvP, rhP, frP, hg]) <;> (try clear ee))
  · have hq : p < 0 := by
      by_cases ha : a < 0
      · rw [hp0 ha]; decide
      · rw [hp ha]; exact f
    rw [if_pos hq]; rfl
  · rw [hp (by omega), if_neg (by omega)]; rfl
  · rw [hp0 (by omega), if_pos (by decide)]; rfl
theorem impl_ReadFile (d : Dk) (n : ByteArray) (h : DkOk d) : Fn Tryz.prog 85 [dkP d, .str n] [] (.tup [.str (fileT d n).1, .bool (fileT d n).2]) [] := by
  have hp := impl_NodeAt d n h
  unfold fileT
  generalize nodeT d n = q at *
  obtain ⟨⟨a, b, c⟩, ok⟩ := q
  unfold dkP ndP at *
  refine fn_x tok (n := 17) (rs := [.tmp 4, .tmp 5]) Tryz.func85 (by decide) rfl rfl rfl rfl ?_
  refine Wr.go ?_
  repeat' ((first | (have ee := True.intro; refine Wr.mk ?_) | ((first | refine br_go ?_ ?_ | refine pick_go ?_ ?_) <;> intro ee f <;> (try simp only [BB] at f) <;> (try simp only [numOk, verOk] at f)) | (have ee := True.intro; first | refine call_x (hp) rfl ⟨rfl⟩ ?_)) <;> (try simp (maxSteps := 1000000) (disch := first | omega | (simp only [LN, numOk, verOk, rfP, rvP, rhP, frP] <;> omega) | exact Ck.mk rfl) only [ee, VC, T, Nat.reduceMul, Nat.reduceAdd, Nat.reduceSub, Nat.reduceLT, Nat.reduceEqDiff, Nat.reduceLeDiff, Nat.reduceBEq, reduceCtorEq, Int.reduceToNat, ↓reduceIte, rfP, rvP, rhP, frP]) <;> (try clear ee))
theorem spec_ReadFile (d : Dk) (n : ByteArray) (h : DkOk d) : Fn Tryz.prog 62 [dkP d, .str n] [] (.tup [.str (fileT d n).1, .bool (fileT d n).2]) [] := by
  have hp := spec_NodeAt d n h
  unfold fileT
  generalize nodeT d n = q at *
  obtain ⟨⟨a, b, c⟩, ok⟩ := q
  unfold dkP ndP at *
  refine fn_x tok (n := 17) (rs := [.tmp 4, .tmp 5]) Tryz.func62 (by decide) rfl rfl rfl rfl ?_
  refine Wr.go ?_
  repeat' ((first | (have ee := True.intro; refine Wr.mk ?_) | ((first | refine br_go ?_ ?_ | refine pick_go ?_ ?_) <;> intro ee f <;> (try simp only [BB] at f) <;> (try simp only [numOk, verOk] at f)) | (have ee := True.intro; first | refine call_x (hp) rfl ⟨rfl⟩ ?_)) <;> (try simp (maxSteps := 1000000) (disch := first | omega | (simp only [LN, numOk, verOk, rfP, rvP, rhP, frP] <;> omega) | exact Ck.mk rfl) only [ee, VC, T, Nat.reduceMul, Nat.reduceAdd, Nat.reduceSub, Nat.reduceLT, Nat.reduceEqDiff, Nat.reduceLeDiff, Nat.reduceBEq, reduceCtorEq, Int.reduceToNat, ↓reduceIte, rfP, rvP, rhP, frP]) <;> (try clear ee))
theorem impl_TextAt (d : Dk) (b : Int) (h : DkOk d) (hb : i64 b) : Fn Tryz.prog 40 [dkP d, .int .i64 b] [] (.str (textT d b)) [] := by
  have hp := impl_ReadFile d (segT b) h
  have hs := impl_SegmentName b hb
  unfold textT
  generalize fileT d (segT b) = q at *
  generalize segT b = s at *
  obtain ⟨t, ok⟩ := q
  unfold dkP at *
  refine fn_x tok (n := 15) (rs := [.tmp 4]) Tryz.func40 (by decide) rfl rfl rfl rfl ?_
  refine Wr.go ?_
  repeat' ((first | (have ee := True.intro; refine Wr.mk ?_) | ((first | refine br_go ?_ ?_ | refine pick_go ?_ ?_) <;> intro ee f <;> (try simp only [BB] at f) <;> (try simp only [numOk, verOk] at f)) | (have ee := True.intro; first | refine dr_go mixed (id := 1) [([], [2], []), ([], [1], []), ([1], [9], []), ([0, 1, 2], [8, 10], []), ([0, 1, 2, 3], [11], []), ([0, 1, 2, 3, 4], [7], []), ([0, 1, 2, 3, 4], [7], []), ([0, 1, 2, 3, 4, 5], [12], []), ([0, 1, 2, 3, 4, 5, 6, 7], [13], [])] rfl rfl rfl ?_ | refine call_x (hs) rfl ⟨rfl⟩ ?_ | refine call_x (hp) rfl ⟨rfl⟩ ?_)) <;> (try simp (maxSteps := 1000000) (disch := first | omega | (simp only [LN, numOk, verOk, rfP, rvP, rhP, frP] <;> omega) | exact Ck.mk rfl) only [ee, VC, T, Nat.reduceMul, Nat.reduceAdd, Nat.reduceSub, Nat.reduceLT, Nat.reduceEqDiff, Nat.reduceLeDiff, Nat.reduceBEq, reduceCtorEq, Int.reduceToNat, ↓reduceIte, rfP, rvP, rhP, frP]) <;> (try clear ee))
theorem spec_TextAt (d : Dk) (b : Int) (h : DkOk d) (hb : i64 b) : Fn Tryz.prog 27 [dkP d, .int .i64 b] [] (.str (textT d b)) [] := by
  have hp := spec_ReadFile d (segT b) h
  have hs := spec_SegmentName b hb
  unfold textT
  generalize fileT d (segT b) = q at *
  generalize segT b = s at *
  obtain ⟨t, ok⟩ := q
  unfold dkP at *
  refine fn_x tok (n := 15) (rs := [.tmp 4]) Tryz.func27 (by decide) rfl rfl rfl rfl ?_
  refine Wr.go ?_
  repeat' ((first | (have ee := True.intro; refine Wr.mk ?_) | ((first | refine br_go ?_ ?_ | refine pick_go ?_ ?_) <;> intro ee f <;> (try simp only [BB] at f) <;> (try simp only [numOk, verOk] at f)) | (have ee := True.intro; first | refine dr_go mixed (id := 1) [([], [2], []), ([], [1], []), ([1], [9], []), ([0, 1, 2], [8, 10], []), ([0, 1, 2, 3], [11], []), ([0, 1, 2, 3, 4], [7], []), ([0, 1, 2, 3, 4], [7], []), ([0, 1, 2, 3, 4, 5], [12], []), ([0, 1, 2, 3, 4, 5, 6, 7], [13], [])] rfl rfl rfl ?_ | refine call_x (hs) rfl ⟨rfl⟩ ?_ | refine call_x (hp) rfl ⟨rfl⟩ ?_)) <;> (try simp (maxSteps := 1000000) (disch := first | omega | (simp only [LN, numOk, verOk, rfP, rvP, rhP, frP] <;> omega) | exact Ck.mk rfl) only [ee, VC, T, Nat.reduceMul, Nat.reduceAdd, Nat.reduceSub, Nat.reduceLT, Nat.reduceEqDiff, Nat.reduceLeDiff, Nat.reduceBEq, reduceCtorEq, Int.reduceToNat, ↓reduceIte, rfP, rvP, rhP, frP]) <;> (try clear ee))
end Go.Pv
