/- The texts of this claim, part 2: a small logic of plain values for the model's runs, what it says of the functions, in plain values. -/
import Derived.Test.YthjkdoadeknknaaDoorProg
import Derived.KernelRfl
import Derived.Lib.Strings
import Derived.Lib.Walk
import Derived.Lib.Builder
import Derived.Lib.UnsafeStr
import Derived.WalkKit
import Derived.Laws.Externs
import Derived.Shelf.RegionOpenPlain
import Derived.Test.YthjkdoadeknknaaDoorPvA0
import Derived.Test.YthjkdoadeknknaaDoorPvA1
/- The table of types. -/
namespace Go.Pv
open Go.Proofs
def T : Tab
  | 2 => some ⟨.int .i64, 1, 8, [.int .i64 0]⟩
  | 3 => some ⟨.int .i64, 1, 8, [.int .i64 0]⟩
  | 4 => some ⟨.bool, 1, 1, [.bool false]⟩
  | 5 => some ⟨.int .u8, 1, 1, [.int .u8 0]⟩
  | 6 => some ⟨.int .u8, 1, 1, [.int .u8 0]⟩
  | 7 => some ⟨.struct [(0, 2), (1, 3), (2, 4), (3, 6)], 4, 24, [.int .i64 0, .int .i64 0, .bool false, .int .u8 0]⟩
  | 8 => some ⟨.struct [(0, 2), (1, 3), (2, 4), (3, 6)], 4, 24, [.int .i64 0, .int .i64 0, .bool false, .int .u8 0]⟩
  | 9 => some ⟨.str, 1, 16, [.str ByteArray.empty]⟩
  | 10 => some ⟨.str, 1, 16, [.str ByteArray.empty]⟩
  | 11 => some ⟨.str, 1, 16, [.str ByteArray.empty]⟩
  | 12 => some ⟨.int .u64, 1, 8, [.int .u64 0]⟩
  | 15 => some ⟨.ptr 113, 1, 8, [.nilp]⟩
  | 16 => some ⟨.ptr 116, 1, 8, [.nilp]⟩
  | 17 => some ⟨.ptr 123, 1, 8, [.nilp]⟩
  | 18 => some ⟨.struct [(0, 17)], 1, 8, [.nilp]⟩
  | 19 => some ⟨.struct [(0, 17)], 1, 8, [.nilp]⟩
  | 21 => some ⟨.int .i32, 1, 4, [.int .i32 0]⟩
  | 22 => some ⟨.slice 50, 1, 24, [.nils]⟩
  | 23 => some ⟨.slice 53, 1, 24, [.nils]⟩
  | 24 => some ⟨.slice 9, 1, 24, [.nils]⟩
  | 25 => some ⟨.struct [(0, 22), (1, 23), (2, 23), (3, 24), (4, 3), (5, 3)], 6, 112, [.nils, .nils, .nils, .nils, .int .i64 0, .int .i64 0]⟩
  | 26 => some ⟨.struct [(0, 22), (1, 23), (2, 23), (3, 24), (4, 3), (5, 3)], 6, 112, [.nils, .nils, .nils, .nils, .int .i64 0, .int .i64 0]⟩
  | 29 => some ⟨.slice 54, 1, 24, [.nils]⟩
  | 30 => some ⟨.slice 61, 1, 24, [.nils]⟩
  | 31 => some ⟨.struct [(0, 29), (1, 30), (2, 30), (3, 24), (4, 3), (5, 3)], 6, 112, [.nils, .nils, .nils, .nils, .int .i64 0, .int .i64 0]⟩
  | 32 => some ⟨.struct [(0, 29), (1, 30), (2, 30), (3, 24), (4, 3), (5, 3)], 6, 112, [.nils, .nils, .nils, .nils, .int .i64 0, .int .i64 0]⟩
  | 49 => some ⟨.struct [(0, 3), (1, 9), (2, 3)], 3, 32, [.int .i64 0, .str ByteArray.empty, .int .i64 0]⟩
  | 50 => some ⟨.struct [(0, 3), (1, 9), (2, 3)], 3, 32, [.int .i64 0, .str ByteArray.empty, .int .i64 0]⟩
  | 52 => some ⟨.struct [(0, 9), (1, 3)], 2, 24, [.str ByteArray.empty, .int .i64 0]⟩
  | 53 => some ⟨.struct [(0, 9), (1, 3)], 2, 24, [.str ByteArray.empty, .int .i64 0]⟩
  | 54 => some ⟨.struct [(0, 3), (1, 9), (2, 3)], 3, 32, [.int .i64 0, .str ByteArray.empty, .int .i64 0]⟩
  | 58 => some ⟨.slice 5, 1, 24, [.nils]⟩
  | 59 => some ⟨.int .u64, 1, 8, [.int .u64 0]⟩
  | 61 => some ⟨.struct [(0, 9), (1, 3)], 2, 24, [.str ByteArray.empty, .int .i64 0]⟩
  | 75 => some ⟨.ptr 77, 1, 8, [.nilp]⟩
  | 76 => some ⟨.struct [(0, 75), (1, 58)], 2, 32, [.nilp, .nils]⟩
  | 77 => some ⟨.struct [(0, 75), (1, 58)], 2, 32, [.nilp, .nils]⟩
  | 86 => some ⟨.arr 24 5, 24, 24, [.int .u8 0, .int .u8 0, .int .u8 0, .int .u8 0, .int .u8 0, .int .u8 0, .int .u8 0, .int .u8 0, .int .u8 0, .int .u8 0, .int .u8 0, .int .u8 0, .int .u8 0, .int .u8 0, .int .u8 0, .int .u8 0, .int .u8 0, .int .u8 0, .int .u8 0, .int .u8 0, .int .u8 0, .int .u8 0, .int .u8 0, .int .u8 0]⟩
  | 87 => some ⟨.int .u64, 1, 8, [.int .u64 0]⟩
  | 92 => some ⟨.int .u32, 1, 4, [.int .u32 0]⟩
  | 97 => some ⟨.ptr 5, 1, 8, [.nilp]⟩
  | 103 => some ⟨.arr 20 87, 20, 160, [.int .u64 0, .int .u64 0, .int .u64 0, .int .u64 0, .int .u64 0, .int .u64 0, .int .u64 0, .int .u64 0, .int .u64 0, .int .u64 0, .int .u64 0, .int .u64 0, .int .u64 0, .int .u64 0, .int .u64 0, .int .u64 0, .int .u64 0, .int .u64 0, .int .u64 0, .int .u64 0]⟩
  | 104 => some ⟨.arr 65 5, 65, 65, [.int .u8 0, .int .u8 0, .int .u8 0, .int .u8 0, .int .u8 0, .int .u8 0, .int .u8 0, .int .u8 0, .int .u8 0, .int .u8 0, .int .u8 0, .int .u8 0, .int .u8 0, .int .u8 0, .int .u8 0, .int .u8 0, .int .u8 0, .int .u8 0, .int .u8 0, .int .u8 0, .int .u8 0, .int .u8 0, .int .u8 0, .int .u8 0, .int .u8 0, .int .u8 0, .int .u8 0, .int .u8 0, .int .u8 0, .int .u8 0, .int .u8 0, .int .u8 0, .int .u8 0, .int .u8 0, .int .u8 0, .int .u8 0, .int .u8 0, .int .u8 0, .int .u8 0, .int .u8 0, .int .u8 0, .int .u8 0, .int .u8 0, .int .u8 0, .int .u8 0, .int .u8 0, .int .u8 0, .int .u8 0, .int .u8 0, .int .u8 0, .int .u8 0, .int .u8 0, .int .u8 0, .int .u8 0, .int .u8 0, .int .u8 0, .int .u8 0, .int .u8 0, .int .u8 0, .int .u8 0, .int .u8 0, .int .u8 0, .int .u8 0, .int .u8 0, .int .u8 0]⟩
  | 110 => some ⟨.arr 32 5, 32, 32, [.int .u8 0, .int .u8 0, .int .u8 0, .int .u8 0, .int .u8 0, .int .u8 0, .int .u8 0, .int .u8 0, .int .u8 0, .int .u8 0, .int .u8 0, .int .u8 0, .int .u8 0, .int .u8 0, .int .u8 0, .int .u8 0, .int .u8 0, .int .u8 0, .int .u8 0, .int .u8 0, .int .u8 0, .int .u8 0, .int .u8 0, .int .u8 0, .int .u8 0, .int .u8 0, .int .u8 0, .int .u8 0, .int .u8 0, .int .u8 0, .int .u8 0, .int .u8 0]⟩
  | 111 => some ⟨.arr 64 5, 64, 64, [.int .u8 0, .int .u8 0, .int .u8 0, .int .u8 0, .int .u8 0, .int .u8 0, .int .u8 0, .int .u8 0, .int .u8 0, .int .u8 0, .int .u8 0, .int .u8 0, .int .u8 0, .int .u8 0, .int .u8 0, .int .u8 0, .int .u8 0, .int .u8 0, .int .u8 0, .int .u8 0, .int .u8 0, .int .u8 0, .int .u8 0, .int .u8 0, .int .u8 0, .int .u8 0, .int .u8 0, .int .u8 0, .int .u8 0, .int .u8 0, .int .u8 0, .int .u8 0, .int .u8 0, .int .u8 0, .int .u8 0, .int .u8 0, .int .u8 0, .int .u8 0, .int .u8 0, .int .u8 0, .int .u8 0, .int .u8 0, .int .u8 0, .int .u8 0, .int .u8 0, .int .u8 0, .int .u8 0, .int .u8 0, .int .u8 0, .int .u8 0, .int .u8 0, .int .u8 0, .int .u8 0, .int .u8 0, .int .u8 0, .int .u8 0, .int .u8 0, .int .u8 0, .int .u8 0, .int .u8 0, .int .u8 0, .int .u8 0, .int .u8 0, .int .u8 0]⟩
  | 112 => some ⟨.struct [(0, 17), (1, 17), (2, 17), (3, 9)], 4, 40, [.nilp, .nilp, .nilp, .str ByteArray.empty]⟩
  | 113 => some ⟨.struct [(0, 17), (1, 17), (2, 17), (3, 9)], 4, 40, [.nilp, .nilp, .nilp, .str ByteArray.empty]⟩
  | 114 => some ⟨.arr 0 16, 0, 0, []⟩
  | 117 => some ⟨.int .u8, 1, 1, [.int .u8 0]⟩
  | 118 => some ⟨.int .u8, 1, 1, [.int .u8 0]⟩
  | 120 => some ⟨.int .i32, 1, 4, [.int .i32 0]⟩
  | 121 => some ⟨.int .i32, 1, 4, [.int .i32 0]⟩
  | 122 => some ⟨.struct [(0, 12), (1, 12), (2, 92), (3, 117), (4, 5), (5, 5), (6, 118), (7, 119), (8, 97), (9, 120), (10, 121)], 11, 48, [.int .u64 0, .int .u64 0, .int .u32 0, .int .u8 0, .int .u8 0, .int .u8 0, .int .u8 0, .raw .nilFunc, .nilp, .int .i32 0, .int .i32 0]⟩
  | 123 => some ⟨.struct [(0, 12), (1, 12), (2, 92), (3, 117), (4, 5), (5, 5), (6, 118), (7, 119), (8, 97), (9, 120), (10, 121)], 11, 48, [.int .u64 0, .int .u64 0, .int .u32 0, .int .u8 0, .int .u8 0, .int .u8 0, .int .u8 0, .raw .nilFunc, .nilp, .int .i32 0, .int .i32 0]⟩
  | _ => none
theorem tok2 : TEok Tryd.prog 2 ⟨.int .i64, 1, 8, [.int .i64 0]⟩ := ⟨by kernel_rfl, ⟨rfl, by decide⟩, (fun _ => rfl), (show Tryd.prog.underlying 2 = some (.int .i64) by kernel_rfl), (fun h => by cases h)⟩
theorem tok3 : TEok Tryd.prog 3 ⟨.int .i64, 1, 8, [.int .i64 0]⟩ := ⟨by kernel_rfl, ⟨rfl, by decide⟩, (fun _ => rfl), (show Tryd.prog.underlying 3 = some (.int .i64) by kernel_rfl), (fun h => by cases h)⟩
theorem tok4 : TEok Tryd.prog 4 ⟨.bool, 1, 1, [.bool false]⟩ := ⟨by kernel_rfl, ⟨rfl, by decide⟩, (fun _ => rfl), (show Tryd.prog.underlying 4 = some (.bool) by kernel_rfl), (fun h => by cases h)⟩
theorem tok5 : TEok Tryd.prog 5 ⟨.int .u8, 1, 1, [.int .u8 0]⟩ := ⟨by kernel_rfl, ⟨rfl, by decide⟩, (fun _ => rfl), (show Tryd.prog.underlying 5 = some (.int .u8) by kernel_rfl), (fun h => by cases h)⟩
theorem tok6 : TEok Tryd.prog 6 ⟨.int .u8, 1, 1, [.int .u8 0]⟩ := ⟨by kernel_rfl, ⟨rfl, by decide⟩, (fun _ => rfl), (show Tryd.prog.underlying 6 = some (.int .u8) by kernel_rfl), (fun h => by cases h)⟩
theorem tok7 : TEok Tryd.prog 7 ⟨.struct [(0, 2), (1, 3), (2, 4), (3, 6)], 4, 24, [.int .i64 0, .int .i64 0, .bool false, .int .u8 0]⟩ := ⟨by kernel_rfl, ⟨rfl, by decide⟩, (fun h => by cases h), und_struct (by kernel_rfl), (fun _ => by kernel_rfl)⟩
theorem tok8 : TEok Tryd.prog 8 ⟨.struct [(0, 2), (1, 3), (2, 4), (3, 6)], 4, 24, [.int .i64 0, .int .i64 0, .bool false, .int .u8 0]⟩ := ⟨by kernel_rfl, ⟨rfl, by decide⟩, (fun h => by cases h), und_struct (by kernel_rfl), (fun _ => by kernel_rfl)⟩
theorem tok9 : TEok Tryd.prog 9 ⟨.str, 1, 16, [.str ByteArray.empty]⟩ := ⟨by kernel_rfl, ⟨rfl, by decide⟩, (fun _ => rfl), (show Tryd.prog.underlying 9 = some (.string) by kernel_rfl), (fun h => by cases h)⟩
theorem tok10 : TEok Tryd.prog 10 ⟨.str, 1, 16, [.str ByteArray.empty]⟩ := ⟨by kernel_rfl, ⟨rfl, by decide⟩, (fun _ => rfl), (show Tryd.prog.underlying 10 = some (.string) by kernel_rfl), (fun h => by cases h)⟩
theorem tok11 : TEok Tryd.prog 11 ⟨.str, 1, 16, [.str ByteArray.empty]⟩ := ⟨by kernel_rfl, ⟨rfl, by decide⟩, (fun _ => rfl), (show Tryd.prog.underlying 11 = some (.string) by kernel_rfl), (fun h => by cases h)⟩
theorem tok12 : TEok Tryd.prog 12 ⟨.int .u64, 1, 8, [.int .u64 0]⟩ := ⟨by kernel_rfl, ⟨rfl, by decide⟩, (fun _ => rfl), (show Tryd.prog.underlying 12 = some (.int .u64) by kernel_rfl), (fun h => by cases h)⟩
theorem tok15 : TEok Tryd.prog 15 ⟨.ptr 113, 1, 8, [.nilp]⟩ := ⟨by kernel_rfl, ⟨rfl, by decide⟩, (fun _ => rfl), (show Tryd.prog.underlying 15 = some (.pointer 113) by kernel_rfl), (fun h => by cases h)⟩
theorem tok16 : TEok Tryd.prog 16 ⟨.ptr 116, 1, 8, [.nilp]⟩ := ⟨by kernel_rfl, ⟨rfl, by decide⟩, (fun _ => rfl), (show Tryd.prog.underlying 16 = some (.pointer 116) by kernel_rfl), (fun h => by cases h)⟩
theorem tok17 : TEok Tryd.prog 17 ⟨.ptr 123, 1, 8, [.nilp]⟩ := ⟨by kernel_rfl, ⟨rfl, by decide⟩, (fun _ => rfl), (show Tryd.prog.underlying 17 = some (.pointer 123) by kernel_rfl), (fun h => by cases h)⟩
theorem tok18 : TEok Tryd.prog 18 ⟨.struct [(0, 17)], 1, 8, [.nilp]⟩ := ⟨by kernel_rfl, ⟨rfl, by decide⟩, (fun h => by cases h), und_struct (by kernel_rfl), (fun h => by cases h)⟩
theorem tok19 : TEok Tryd.prog 19 ⟨.struct [(0, 17)], 1, 8, [.nilp]⟩ := ⟨by kernel_rfl, ⟨rfl, by decide⟩, (fun h => by cases h), und_struct (by kernel_rfl), (fun h => by cases h)⟩
theorem tok21 : TEok Tryd.prog 21 ⟨.int .i32, 1, 4, [.int .i32 0]⟩ := ⟨by kernel_rfl, ⟨rfl, by decide⟩, (fun _ => rfl), (show Tryd.prog.underlying 21 = some (.int .i32) by kernel_rfl), (fun h => by cases h)⟩
theorem tok22 : TEok Tryd.prog 22 ⟨.slice 50, 1, 24, [.nils]⟩ := ⟨by kernel_rfl, ⟨rfl, by decide⟩, (fun _ => rfl), (show Tryd.prog.underlying 22 = some (.slice 50) by kernel_rfl), (fun h => by cases h)⟩
theorem tok23 : TEok Tryd.prog 23 ⟨.slice 53, 1, 24, [.nils]⟩ := ⟨by kernel_rfl, ⟨rfl, by decide⟩, (fun _ => rfl), (show Tryd.prog.underlying 23 = some (.slice 53) by kernel_rfl), (fun h => by cases h)⟩
theorem tok24 : TEok Tryd.prog 24 ⟨.slice 9, 1, 24, [.nils]⟩ := ⟨by kernel_rfl, ⟨rfl, by decide⟩, (fun _ => rfl), (show Tryd.prog.underlying 24 = some (.slice 9) by kernel_rfl), (fun h => by cases h)⟩
theorem tok25 : TEok Tryd.prog 25 ⟨.struct [(0, 22), (1, 23), (2, 23), (3, 24), (4, 3), (5, 3)], 6, 112, [.nils, .nils, .nils, .nils, .int .i64 0, .int .i64 0]⟩ := ⟨by kernel_rfl, ⟨rfl, by decide⟩, (fun h => by cases h), und_struct (by kernel_rfl), (fun h => by cases h)⟩
theorem tok26 : TEok Tryd.prog 26 ⟨.struct [(0, 22), (1, 23), (2, 23), (3, 24), (4, 3), (5, 3)], 6, 112, [.nils, .nils, .nils, .nils, .int .i64 0, .int .i64 0]⟩ := ⟨by kernel_rfl, ⟨rfl, by decide⟩, (fun h => by cases h), und_struct (by kernel_rfl), (fun h => by cases h)⟩
theorem tok29 : TEok Tryd.prog 29 ⟨.slice 54, 1, 24, [.nils]⟩ := ⟨by kernel_rfl, ⟨rfl, by decide⟩, (fun _ => rfl), (show Tryd.prog.underlying 29 = some (.slice 54) by kernel_rfl), (fun h => by cases h)⟩
theorem tok30 : TEok Tryd.prog 30 ⟨.slice 61, 1, 24, [.nils]⟩ := ⟨by kernel_rfl, ⟨rfl, by decide⟩, (fun _ => rfl), (show Tryd.prog.underlying 30 = some (.slice 61) by kernel_rfl), (fun h => by cases h)⟩
theorem tok31 : TEok Tryd.prog 31 ⟨.struct [(0, 29), (1, 30), (2, 30), (3, 24), (4, 3), (5, 3)], 6, 112, [.nils, .nils, .nils, .nils, .int .i64 0, .int .i64 0]⟩ := ⟨by kernel_rfl, ⟨rfl, by decide⟩, (fun h => by cases h), und_struct (by kernel_rfl), (fun h => by cases h)⟩
theorem tok32 : TEok Tryd.prog 32 ⟨.struct [(0, 29), (1, 30), (2, 30), (3, 24), (4, 3), (5, 3)], 6, 112, [.nils, .nils, .nils, .nils, .int .i64 0, .int .i64 0]⟩ := ⟨by kernel_rfl, ⟨rfl, by decide⟩, (fun h => by cases h), und_struct (by kernel_rfl), (fun h => by cases h)⟩
theorem tok49 : TEok Tryd.prog 49 ⟨.struct [(0, 3), (1, 9), (2, 3)], 3, 32, [.int .i64 0, .str ByteArray.empty, .int .i64 0]⟩ := ⟨by kernel_rfl, ⟨rfl, by decide⟩, (fun h => by cases h), und_struct (by kernel_rfl), (fun _ => by kernel_rfl)⟩
theorem tok50 : TEok Tryd.prog 50 ⟨.struct [(0, 3), (1, 9), (2, 3)], 3, 32, [.int .i64 0, .str ByteArray.empty, .int .i64 0]⟩ := ⟨by kernel_rfl, ⟨rfl, by decide⟩, (fun h => by cases h), und_struct (by kernel_rfl), (fun _ => by kernel_rfl)⟩
theorem tok52 : TEok Tryd.prog 52 ⟨.struct [(0, 9), (1, 3)], 2, 24, [.str ByteArray.empty, .int .i64 0]⟩ := ⟨by kernel_rfl, ⟨rfl, by decide⟩, (fun h => by cases h), und_struct (by kernel_rfl), (fun _ => by kernel_rfl)⟩
theorem tok53 : TEok Tryd.prog 53 ⟨.struct [(0, 9), (1, 3)], 2, 24, [.str ByteArray.empty, .int .i64 0]⟩ := ⟨by kernel_rfl, ⟨rfl, by decide⟩, (fun h => by cases h), und_struct (by kernel_rfl), (fun _ => by kernel_rfl)⟩
theorem tok54 : TEok Tryd.prog 54 ⟨.struct [(0, 3), (1, 9), (2, 3)], 3, 32, [.int .i64 0, .str ByteArray.empty, .int .i64 0]⟩ := ⟨by kernel_rfl, ⟨rfl, by decide⟩, (fun h => by cases h), und_struct (by kernel_rfl), (fun _ => by kernel_rfl)⟩
theorem tok58 : TEok Tryd.prog 58 ⟨.slice 5, 1, 24, [.nils]⟩ := ⟨by kernel_rfl, ⟨rfl, by decide⟩, (fun _ => rfl), (show Tryd.prog.underlying 58 = some (.slice 5) by kernel_rfl), (fun h => by cases h)⟩
theorem tok59 : TEok Tryd.prog 59 ⟨.int .u64, 1, 8, [.int .u64 0]⟩ := ⟨by kernel_rfl, ⟨rfl, by decide⟩, (fun _ => rfl), (show Tryd.prog.underlying 59 = some (.int .u64) by kernel_rfl), (fun h => by cases h)⟩
theorem tok61 : TEok Tryd.prog 61 ⟨.struct [(0, 9), (1, 3)], 2, 24, [.str ByteArray.empty, .int .i64 0]⟩ := ⟨by kernel_rfl, ⟨rfl, by decide⟩, (fun h => by cases h), und_struct (by kernel_rfl), (fun _ => by kernel_rfl)⟩
theorem tok75 : TEok Tryd.prog 75 ⟨.ptr 77, 1, 8, [.nilp]⟩ := ⟨by kernel_rfl, ⟨rfl, by decide⟩, (fun _ => rfl), (show Tryd.prog.underlying 75 = some (.pointer 77) by kernel_rfl), (fun h => by cases h)⟩
theorem tok76 : TEok Tryd.prog 76 ⟨.struct [(0, 75), (1, 58)], 2, 32, [.nilp, .nils]⟩ := ⟨by kernel_rfl, ⟨rfl, by decide⟩, (fun h => by cases h), und_struct (by kernel_rfl), (fun h => by cases h)⟩
theorem tok77 : TEok Tryd.prog 77 ⟨.struct [(0, 75), (1, 58)], 2, 32, [.nilp, .nils]⟩ := ⟨by kernel_rfl, ⟨rfl, by decide⟩, (fun h => by cases h), und_struct (by kernel_rfl), (fun h => by cases h)⟩
theorem tok86 : TEok Tryd.prog 86 ⟨.arr 24 5, 24, 24, [.int .u8 0, .int .u8 0, .int .u8 0, .int .u8 0, .int .u8 0, .int .u8 0, .int .u8 0, .int .u8 0, .int .u8 0, .int .u8 0, .int .u8 0, .int .u8 0, .int .u8 0, .int .u8 0, .int .u8 0, .int .u8 0, .int .u8 0, .int .u8 0, .int .u8 0, .int .u8 0, .int .u8 0, .int .u8 0, .int .u8 0, .int .u8 0]⟩ := ⟨by kernel_rfl, ⟨rfl, by decide⟩, (fun h => by cases h), (show Tryd.prog.underlying 86 = some (.array 24 5) by kernel_rfl), (fun h => by cases h)⟩
theorem tok87 : TEok Tryd.prog 87 ⟨.int .u64, 1, 8, [.int .u64 0]⟩ := ⟨by kernel_rfl, ⟨rfl, by decide⟩, (fun _ => rfl), (show Tryd.prog.underlying 87 = some (.int .u64) by kernel_rfl), (fun h => by cases h)⟩
theorem tok92 : TEok Tryd.prog 92 ⟨.int .u32, 1, 4, [.int .u32 0]⟩ := ⟨by kernel_rfl, ⟨rfl, by decide⟩, (fun _ => rfl), (show Tryd.prog.underlying 92 = some (.int .u32) by kernel_rfl), (fun h => by cases h)⟩
theorem tok97 : TEok Tryd.prog 97 ⟨.ptr 5, 1, 8, [.nilp]⟩ := ⟨by kernel_rfl, ⟨rfl, by decide⟩, (fun _ => rfl), (show Tryd.prog.underlying 97 = some (.pointer 5) by kernel_rfl), (fun h => by cases h)⟩
theorem tok103 : TEok Tryd.prog 103 ⟨.arr 20 87, 20, 160, [.int .u64 0, .int .u64 0, .int .u64 0, .int .u64 0, .int .u64 0, .int .u64 0, .int .u64 0, .int .u64 0, .int .u64 0, .int .u64 0, .int .u64 0, .int .u64 0, .int .u64 0, .int .u64 0, .int .u64 0, .int .u64 0, .int .u64 0, .int .u64 0, .int .u64 0, .int .u64 0]⟩ := ⟨by kernel_rfl, ⟨rfl, by decide⟩, (fun h => by cases h), (show Tryd.prog.underlying 103 = some (.array 20 87) by kernel_rfl), (fun h => by cases h)⟩
theorem tok104 : TEok Tryd.prog 104 ⟨.arr 65 5, 65, 65, [.int .u8 0, .int .u8 0, .int .u8 0, .int .u8 0, .int .u8 0, .int .u8 0, .int .u8 0, .int .u8 0, .int .u8 0, .int .u8 0, .int .u8 0, .int .u8 0, .int .u8 0, .int .u8 0, .int .u8 0, .int .u8 0, .int .u8 0, .int .u8 0, .int .u8 0, .int .u8 0, .int .u8 0, .int .u8 0, .int .u8 0, .int .u8 0, .int .u8 0, .int .u8 0, .int .u8 0, .int .u8 0, .int .u8 0, .int .u8 0, .int .u8 0, .int .u8 0, .int .u8 0, .int .u8 0, .int .u8 0, .int .u8 0, .int .u8 0, .int .u8 0, .int .u8 0, .int .u8 0, .int .u8 0, .int .u8 0, .int .u8 0, .int .u8 0, .int .u8 0, .int .u8 0, .int .u8 0, .int .u8 0, .int .u8 0, .int .u8 0, .int .u8 0, .int .u8 0, .int .u8 0, .int .u8 0, .int .u8 0, .int .u8 0, .int .u8 0, .int .u8 0, .int .u8 0, .int .u8 0, .int .u8 0, .int .u8 0, .int .u8 0, .int .u8 0, .int .u8 0]⟩ := ⟨by kernel_rfl, ⟨rfl, by decide⟩, (fun h => by cases h), (show Tryd.prog.underlying 104 = some (.array 65 5) by kernel_rfl), (fun h => by cases h)⟩
theorem tok110 : TEok Tryd.prog 110 ⟨.arr 32 5, 32, 32, [.int .u8 0, .int .u8 0, .int .u8 0, .int .u8 0, .int .u8 0, .int .u8 0, .int .u8 0, .int .u8 0, .int .u8 0, .int .u8 0, .int .u8 0, .int .u8 0, .int .u8 0, .int .u8 0, .int .u8 0, .int .u8 0, .int .u8 0, .int .u8 0, .int .u8 0, .int .u8 0, .int .u8 0, .int .u8 0, .int .u8 0, .int .u8 0, .int .u8 0, .int .u8 0, .int .u8 0, .int .u8 0, .int .u8 0, .int .u8 0, .int .u8 0, .int .u8 0]⟩ := ⟨by kernel_rfl, ⟨rfl, by decide⟩, (fun h => by cases h), (show Tryd.prog.underlying 110 = some (.array 32 5) by kernel_rfl), (fun h => by cases h)⟩
theorem tok111 : TEok Tryd.prog 111 ⟨.arr 64 5, 64, 64, [.int .u8 0, .int .u8 0, .int .u8 0, .int .u8 0, .int .u8 0, .int .u8 0, .int .u8 0, .int .u8 0, .int .u8 0, .int .u8 0, .int .u8 0, .int .u8 0, .int .u8 0, .int .u8 0, .int .u8 0, .int .u8 0, .int .u8 0, .int .u8 0, .int .u8 0, .int .u8 0, .int .u8 0, .int .u8 0, .int .u8 0, .int .u8 0, .int .u8 0, .int .u8 0, .int .u8 0, .int .u8 0, .int .u8 0, .int .u8 0, .int .u8 0, .int .u8 0, .int .u8 0, .int .u8 0, .int .u8 0, .int .u8 0, .int .u8 0, .int .u8 0, .int .u8 0, .int .u8 0, .int .u8 0, .int .u8 0, .int .u8 0, .int .u8 0, .int .u8 0, .int .u8 0, .int .u8 0, .int .u8 0, .int .u8 0, .int .u8 0, .int .u8 0, .int .u8 0, .int .u8 0, .int .u8 0, .int .u8 0, .int .u8 0, .int .u8 0, .int .u8 0, .int .u8 0, .int .u8 0, .int .u8 0, .int .u8 0, .int .u8 0, .int .u8 0]⟩ := ⟨by kernel_rfl, ⟨rfl, by decide⟩, (fun h => by cases h), (show Tryd.prog.underlying 111 = some (.array 64 5) by kernel_rfl), (fun h => by cases h)⟩
theorem tok112 : TEok Tryd.prog 112 ⟨.struct [(0, 17), (1, 17), (2, 17), (3, 9)], 4, 40, [.nilp, .nilp, .nilp, .str ByteArray.empty]⟩ := ⟨by kernel_rfl, ⟨rfl, by decide⟩, (fun h => by cases h), und_struct (by kernel_rfl), (fun h => by cases h)⟩
theorem tok113 : TEok Tryd.prog 113 ⟨.struct [(0, 17), (1, 17), (2, 17), (3, 9)], 4, 40, [.nilp, .nilp, .nilp, .str ByteArray.empty]⟩ := ⟨by kernel_rfl, ⟨rfl, by decide⟩, (fun h => by cases h), und_struct (by kernel_rfl), (fun h => by cases h)⟩
theorem tok114 : TEok Tryd.prog 114 ⟨.arr 0 16, 0, 0, []⟩ := ⟨by kernel_rfl, ⟨rfl, by decide⟩, (fun h => by cases h), (show Tryd.prog.underlying 114 = some (.array 0 16) by kernel_rfl), (fun h => by cases h)⟩
theorem tok117 : TEok Tryd.prog 117 ⟨.int .u8, 1, 1, [.int .u8 0]⟩ := ⟨by kernel_rfl, ⟨rfl, by decide⟩, (fun _ => rfl), (show Tryd.prog.underlying 117 = some (.int .u8) by kernel_rfl), (fun h => by cases h)⟩
theorem tok118 : TEok Tryd.prog 118 ⟨.int .u8, 1, 1, [.int .u8 0]⟩ := ⟨by kernel_rfl, ⟨rfl, by decide⟩, (fun _ => rfl), (show Tryd.prog.underlying 118 = some (.int .u8) by kernel_rfl), (fun h => by cases h)⟩
theorem tok120 : TEok Tryd.prog 120 ⟨.int .i32, 1, 4, [.int .i32 0]⟩ := ⟨by kernel_rfl, ⟨rfl, by decide⟩, (fun _ => rfl), (show Tryd.prog.underlying 120 = some (.int .i32) by kernel_rfl), (fun h => by cases h)⟩
theorem tok121 : TEok Tryd.prog 121 ⟨.int .i32, 1, 4, [.int .i32 0]⟩ := ⟨by kernel_rfl, ⟨rfl, by decide⟩, (fun _ => rfl), (show Tryd.prog.underlying 121 = some (.int .i32) by kernel_rfl), (fun h => by cases h)⟩
theorem tok122 : TEok Tryd.prog 122 ⟨.struct [(0, 12), (1, 12), (2, 92), (3, 117), (4, 5), (5, 5), (6, 118), (7, 119), (8, 97), (9, 120), (10, 121)], 11, 48, [.int .u64 0, .int .u64 0, .int .u32 0, .int .u8 0, .int .u8 0, .int .u8 0, .int .u8 0, .raw .nilFunc, .nilp, .int .i32 0, .int .i32 0]⟩ := ⟨by kernel_rfl, ⟨rfl, by decide⟩, (fun h => by cases h), und_struct (by kernel_rfl), (fun h => by cases h)⟩
theorem tok123 : TEok Tryd.prog 123 ⟨.struct [(0, 12), (1, 12), (2, 92), (3, 117), (4, 5), (5, 5), (6, 118), (7, 119), (8, 97), (9, 120), (10, 121)], 11, 48, [.int .u64 0, .int .u64 0, .int .u32 0, .int .u8 0, .int .u8 0, .int .u8 0, .int .u8 0, .raw .nilFunc, .nilp, .int .i32 0, .int .i32 0]⟩ := ⟨by kernel_rfl, ⟨rfl, by decide⟩, (fun h => by cases h), und_struct (by kernel_rfl), (fun h => by cases h)⟩
theorem tok : Tok Tryd.prog T := fun t e h => by
  unfold T at h
  split at h <;> first
    | contradiction
    | (cases h; first | exact tok2 | exact tok3 | exact tok4 | exact tok5 | exact tok6 | exact tok7 | exact tok8 | exact tok9 | exact tok10 | exact tok11 | exact tok12 | exact tok15 | exact tok16 | exact tok17 | exact tok18 | exact tok19 | exact tok21 | exact tok22 | exact tok23 | exact tok24 | exact tok25 | exact tok26 | exact tok29 | exact tok30 | exact tok31 | exact tok32 | exact tok49 | exact tok50 | exact tok52 | exact tok53 | exact tok54 | exact tok58 | exact tok59 | exact tok61 | exact tok75 | exact tok76 | exact tok77 | exact tok86 | exact tok87 | exact tok92 | exact tok97 | exact tok103 | exact tok104 | exact tok110 | exact tok111 | exact tok112 | exact tok113 | exact tok114 | exact tok117 | exact tok118 | exact tok120 | exact tok121 | exact tok122 | exact tok123)
theorem mixed : Tryd.prog.follows .mixedOrders = true := by kernel_rfl
theorem GV : gev 0 = .raw (.pointer (some ⟨0, 0, none⟩)) ∧ gev 1 = .raw (.pointer (some ⟨1, 0, none⟩)) ∧ gev 2 = .raw (.pointer (some ⟨2, 0, none⟩)) ∧ gev 3 = .fel glob3 := ⟨rfl, rfl, rfl, rfl⟩
end Go.Pv

/- What functions of the program and of the reference do, in plain values. -/
namespace Go.Pv
open Go.Proofs Go.Mth
set_option linter.unusedSimpArgs false
set_option linter.unusedVariables false
set_option maxHeartbeats 4000000

def bkd (κ R : List Nat) (key : Nat) (hp ha : Hp) (K : PV → Hp → Prop) (res : PV) (hr : Hp) : Prop :=
  Ck (resOk res && hpB hr) ∧ KeysOk hp (ln κ) key hr ∧ Mn ha hr (ln κ) ∧ K (rk (sg κ key) res) (rkH (sg κ key) hr ++ gone hr κ 0 ++ R.map fun k => (k, HC.dead))
/-- A call that reads memory of the caller's, which then is gone. -/
theorem call_hd {P : Program} {hp : Hp} {key : Nat} (κ R : List Nat) {xs ys : List PV} {f : FuncId} {ha : Hp} {Q K : PV → Hp → Prop} (h : FnE P f ys ha Q) (hn : κ.Nodup ∧ (∀ k ∈ κ, k ∉ R) ∧ κ.length ≤ 64) (hc : cvtl (cvt hp R κ) xs = some ys) (hh : hand hp R κ κ 0 = some ha)
    (hk : ∀ res hr, Q res hr → bkd κ R key hp ha K res hr) : Call P hp key xs f K := by
  obtain ⟨res, hr, hq, hf⟩ := h
  obtain ⟨⟨h1⟩, h3, h4, h5⟩ := hk res hr hq
  simp only [Bool.and_eq_true] at h1
  rw [ln_eq] at h3 h4
  exact ⟨κ, R, false, ys, ha, res, hr, hc, hh, hf, hn, h3, Mn_mono h4, ⟨h1.1, hpB_ok h1.2⟩, fun e => Bool.noConfusion e, h5⟩
end Go.Pv

/- Plain mathematics for this seat's laws: rounds, sums of 32 bits, numbers in bytes. No program in it.
   Conditions: none beyond those that each lemma names. -/
namespace Go.Mth
open Go.RowKit
set_option linter.unusedVariables false
set_option linter.unusedSimpArgs false

theorem nd {p : Prop} [Decidable p] (h : ¬ decide p = true) : ¬ p := fun hp => h (decide_eq_true hp)
/-! ### whole numbers -/
theorem w64 {x : Int} (h0 : -9223372036854775808 ≤ x) (h1 : x ≤ 9223372036854775807) : wrap64 x = x := by unfold wrap64; omega
theorem wr64 (n : Int) (h0 : 0 ≤ n) (h1 : n < 2 ^ 32) : IntKind.i64.wrap n = n := by rw [IntKind.wrap_i64]; omega
theorem wr32 (n : Int) (h0 : 0 ≤ n) (h1 : n < 2 ^ 32) : IntKind.u32.wrap n = n := by rw [IntKind.wrap_u32]; omega
theorem xor_nat (k : IntKind) (hj : 32 ≤ k.bits) (hk : ∀ n : Int, 0 ≤ n → n < 2 ^ 32 → k.wrap n = n) (a b : Nat) (ha : a < 4294967296) (hb : b < 4294967296) :
    Go.bits .xor k a b = ((a ^^^ b : Nat) : Int) := by
  have hp : 2 ^ 32 ≤ 2 ^ k.bits := Nat.pow_le_pow_right (by decide) hj
  have ha' : a % 2 ^ k.bits = a := Nat.mod_eq_of_lt (by omega)
  have hb' : b % 2 ^ k.bits = b := Nat.mod_eq_of_lt (by omega)
  simp only [Go.bits, BitVec.ofInt_natCast, BitVec.toNat_xor, BitVec.toNat_ofNat, ha', hb']
  have h1 : a ^^^ b < 2 ^ 32 := Nat.xor_lt_two_pow (by omega) (by omega)
  exact hk _ (Int.natCast_nonneg _) (by exact_mod_cast h1)
theorem xor64 (a b : Nat) (ha : a < 4294967296) (hb : b < 4294967296) : Go.bits .xor .i64 a b = ((a ^^^ b : Nat) : Int) := xor_nat .i64 (by decide) wr64 a b ha hb
theorem xor32 (a b : Nat) (ha : a < 4294967296) (hb : b < 4294967296) : Go.bits .xor .u32 a b = ((a ^^^ b : Nat) : Int) := xor_nat .u32 (by decide) wr32 a b ha hb
theorem and_mask64 (s : Int) (i : Nat) (hi : i ≤ 32) : Go.bits .and .i64 s (2 ^ i - 1) = s % 2 ^ i := by
  have hpos : 0 < 2 ^ i := Nat.two_pow_pos i
  have hc : ((2 : Int) ^ i - 1) = ((2 ^ i - 1 : Nat) : Int) := by rw [Int.natCast_sub hpos]; simp
  have hle : 2 ^ i ≤ 2 ^ 32 := Nat.pow_le_pow_right (by decide) hi
  have hm : (2 ^ i - 1) % 2 ^ 64 = 2 ^ i - 1 := Nat.mod_eq_of_lt (by omega)
  have hd : ((s % ((2 ^ 64 : Nat) : Int)).toNat % 2 ^ i : Nat) = (s % ((2 ^ i : Nat) : Int)) := by
    have h1 : ((s % ((2 ^ 64 : Nat) : Int)).toNat : Int) = s % ((2 ^ 64 : Nat) : Int) := Int.toNat_of_nonneg (Int.emod_nonneg _ (by decide))
    rw [Int.natCast_emod, h1]
    exact Int.emod_emod_of_dvd _ (by exact_mod_cast Nat.pow_dvd_pow 2 (by omega : i ≤ 64))
  have e : ((BitVec.ofInt 64 s &&& BitVec.ofInt 64 (2 ^ i - 1)).toNat : Int) = s % ((2 ^ i : Nat) : Int) := by
    rw [hc, BitVec.ofInt_natCast, BitVec.toNat_and, BitVec.toNat_ofNat, hm, Nat.and_two_pow_sub_one_eq_mod, BitVec.toNat_ofInt]
    exact hd
  have h0 : 0 ≤ s % ((2 ^ i : Nat) : Int) := Int.emod_nonneg _ (by exact_mod_cast (by omega : 2 ^ i ≠ 0))
  have h1 : s % ((2 ^ i : Nat) : Int) < ((2 ^ i : Nat) : Int) := Int.emod_lt_of_pos _ (by exact_mod_cast hpos)
  have h2 : ((2 ^ i : Nat) : Int) ≤ ((2 ^ 32 : Nat) : Int) := by exact_mod_cast hle
  have h3 : IntKind.i64.wrap (s % ((2 ^ i : Nat) : Int)) = s % ((2 ^ i : Nat) : Int) := wr64 _ h0 (by omega)
  have h4 : Go.bits .and .i64 s (2 ^ i - 1) = IntKind.i64.wrap ((BitVec.ofInt 64 s &&& BitVec.ofInt 64 (2 ^ i - 1)).toNat : Int) := rfl
  rw [h4, e, h3]
  simp
theorem and_all (s : Int) : Go.bits .and .i64 s 4294967295 = s % 4294967296 := and_mask64 s 32 (by decide)
theorem and_255 (s : Int) : Go.bits .and .i64 s 255 = s % 256 := and_mask64 s 8 (by decide)
theorem and_127 (s : Int) : Go.bits .and .i64 s 127 = s % 128 := and_mask64 s 7 (by decide)
theorem and_1 (s : Int) : Go.bits .and .i64 s 1 = s % 2 := and_mask64 s 1 (by decide)
theorem and32_1 (n : Nat) (hn : n < 4294967296) : Go.bits .and .u32 n 1 = ((n % 2 : Nat) : Int) := by
  have h := (bits_nat .u32 32 (by decide) wr32 n 1 hn (by decide)).1
  rw [show ((1 : Nat) : Int) = 1 from rfl] at h
  rw [h, Nat.and_one_is_mod]

/-! ### sums of 32 bits -/
def stp (n : Nat) : Nat := if n % 2 = 1 then (n / 2) ^^^ 2197175160 else n / 2
def stps : Nat → Nat → Nat
  | 0, n => n
  | d + 1, n => stps d (stp n)
/-- A sum behind a byte. -/
def sb (s b : Nat) : Nat := stps 8 (s ^^^ b)
def sm (s : Nat) (l : List Nat) : Nat := l.foldl sb s
theorem xlt {a b : Nat} (ha : a < 4294967296) (hb : b < 4294967296) : a ^^^ b < 4294967296 := by
  have := Nat.xor_lt_two_pow (n := 32) (x := a) (y := b) (by omega) (by omega)
  omega
theorem stp_lt {n : Nat} (h : n < 4294967296) : stp n < 4294967296 := by
  unfold stp
  split
  · exact xlt (by omega) (by decide)
  · omega
theorem stps_lt : ∀ (d : Nat) {n : Nat}, n < 4294967296 → stps d n < 4294967296
  | 0, _, h => h
  | d + 1, _, h => stps_lt d (stp_lt h)
theorem sb_lt {s b : Nat} (hs : s < 4294967296) (hb : b < 4294967296) : sb s b < 4294967296 := stps_lt 8 (xlt hs hb)
theorem sm_lt : ∀ (l : List Nat) {s : Nat}, s < 4294967296 → (∀ x ∈ l, x < 256) → sm s l < 4294967296
  | [], _, h, _ => h
  | x :: l, s, h, hl => sm_lt l (s := sb s x) (sb_lt h (by have := hl x (by simp); omega)) (fun y hy => hl y (by simp [hy]))

/-! ### texts as lists of numbers -/
def bl (t : ByteArray) : List Nat := t.data.toList.map UInt8.toNat
theorem bl_length (t : ByteArray) : (bl t).length = t.size := by
  unfold bl
  rw [List.length_map, Array.length_toList]
  rfl
theorem bl_lt (t : ByteArray) : ∀ x ∈ bl t, x < 256 := by
  intro x hx
  obtain ⟨u, _, rfl⟩ := List.mem_map.1 hx
  exact u.toNat_lt
theorem bt_bl (t : ByteArray) (i : Nat) (h : i < t.size) : bt t (i : Int) = ((bl t).getD i 0 : Int) := by
  unfold bt b8 bl
  rw [Int.toNat_natCast, List.getD_eq_getElem?_getD, List.getD_eq_getElem?_getD, List.getElem?_map]
  cases t.data.toList[i]? <;> rfl
theorem bl_drop (t : ByteArray) (i : Nat) (h : i < t.size) : (bl t).drop i = (bl t).getD i 0 :: (bl t).drop (i + 1) := by
  have hl : i < (bl t).length := by rw [bl_length]; exact h
  rw [List.drop_eq_getElem_cons hl, List.getD_eq_getElem?_getD, List.getElem?_eq_getElem hl]
  rfl
theorem bl_getD_lt (t : ByteArray) (i : Nat) : (bl t).getD i 0 < 256 := by
  rcases Nat.lt_or_ge i (bl t).length with h | h
  · rw [List.getD_eq_getElem?_getD, List.getElem?_eq_getElem h]
    exact bl_lt t _ (List.getElem_mem h)
  · rw [List.getD_eq_getElem?_getD, List.getElem?_eq_none h]
    decide
/-- SumMore of any s and a text. -/
def sumMore (s : Int) (t : ByteArray) : Int := ((sm ((s % 4294967296).toNat ^^^ 4294967295) (bl t) ^^^ 4294967295 : Nat) : Int)
def sumOf (t : ByteArray) : Int := sumMore 0 t
theorem sumMore_range (s : Int) (t : ByteArray) : 0 ≤ sumMore s t ∧ sumMore s t < 4294967296 := by
  refine ⟨Int.natCast_nonneg _, ?_⟩
  have h0 : (s % 4294967296).toNat < 4294967296 := by omega
  have := xlt (sm_lt (bl t) (xlt h0 (by decide : 4294967295 < 4294967296)) (bl_lt t)) (by decide : 4294967295 < 4294967296)
  unfold sumMore
  omega

/-! ### numbers in so many bytes -/
def fixL : Nat → Int → List Int
  | 0, _ => []
  | d + 1, n => n % 256 :: fixL d (n / 256)
theorem fixL_length : ∀ (d : Nat) (n : Int), (fixL d n).length = d
  | 0, _ => rfl
  | d + 1, n => by simp [fixL, fixL_length d]
theorem div_div (n : Int) (d : Nat) : n / 256 / 256 ^ d = n / 256 ^ (d + 1) := by
  rw [Int.ediv_ediv_of_nonneg (by decide), Int.pow_succ, Int.mul_comm]
theorem fixL_snoc : ∀ (d : Nat) (n : Int), fixL (d + 1) n = fixL d n ++ [n / 256 ^ d % 256]
  | 0, n => by simp [fixL]
  | d + 1, n => by
    rw [show fixL (d + 1 + 1) n = n % 256 :: fixL (d + 1) (n / 256) from rfl, fixL_snoc d (n / 256), div_div]
    rfl
def fixT (n w : Int) : ByteArray := if n < 0 ∨ w < 1 ∨ 8 < w ∨ n / 256 ^ w.toNat > 0 then ⟨#[]⟩ else strOf (fixL w.toNat n)

theorem strOf_size (l : List Int) : (strOf l).size = l.length := by simp [strOf, ByteArray.size]
theorem mkE_size : (⟨#[]⟩ : ByteArray).size = 0 := rfl
theorem fixT_le (n w : Int) : (fixT n w).size ≤ 8 := by
  unfold fixT
  split
  · exact Nat.zero_le _
  · rename_i h
    rw [strOf_size, fixL_length]
    omega
theorem fixT_size (n w : Int) (h0 : 0 ≤ n) (h1 : 1 ≤ w) (h8 : w ≤ 8) (hn : n < 256 ^ w.toNat) : (fixT n w).size = w.toNat := by
  unfold fixT
  rw [if_neg (by
    have : n / 256 ^ w.toNat = 0 := Int.ediv_eq_zero_of_lt h0 hn
    omega), strOf_size, fixL_length]
theorem fixT4_size (n : Int) (h0 : 0 ≤ n) (hn : n < 4294967296) : (fixT n 4).size = 4 := fixT_size n 4 h0 (by decide) (by decide) hn
theorem fixT8_size (n : Int) (h0 : 0 ≤ n) (hn : n < 9223372036854775808) : (fixT n 8).size = 8 := fixT_size n 8 h0 (by decide) (by decide) (by
  have : (256 : Int) ^ (8 : Int).toNat = 18446744073709551616 := by decide
  omega)

/-! ### numbers in as few bytes as can be -/
def varL : Nat → Int → List Int
  | 0, n => [n % 256]
  | d + 1, n => if n > 127 then (n % 128 + 128) :: varL d (n / 128) else [n % 256]
def varT (n : Int) : ByteArray := if n < 0 ∨ 1000000000 < n then ⟨#[]⟩ else strOf (varL 4 n)
theorem varL_gt (d : Nat) (n : Int) (h : n > 127) : varL (d + 1) n = (n % 128 + 128) :: varL d (n / 128) := if_pos h
theorem varL_ngt (d : Nat) (n : Int) (h : ¬ n > 127) : varL (d + 1) n = [n % 256] := if_neg h
theorem varL_le : ∀ (d : Nat) (n : Int), (varL d n).length ≤ d + 1
  | 0, _ => by simp [varL]
  | d + 1, n => by
    unfold varL
    split
    · have := varL_le d (n / 128)
      simp; omega
    · simp
theorem varL_pos : ∀ (d : Nat) (n : Int), 0 < (varL d n).length
  | 0, _ => by simp [varL]
  | d + 1, n => by unfold varL; split <;> simp
theorem varT_le (n : Int) : (varT n).size ≤ 5 := by
  unfold varT
  split
  · exact Nat.zero_le _
  · rw [strOf_size]; exact varL_le 4 n
theorem varT_pos (n : Int) (h0 : 0 ≤ n) (h1 : n ≤ 1000000000) : 0 < (varT n).size := by
  unfold varT
  rw [if_neg (by omega), strOf_size]
  exact varL_pos 4 n
theorem or128 (m : Nat) (h : m < 256) : m ||| 128 = m % 128 + 128 := by
  have : ∀ m : Fin 256, m.val ||| 128 = m.val % 128 + 128 := by decide +kernel
  exact this ⟨m, h⟩
theorem orU8 (x : Int) : Go.bits .or .u8 (x % 256) 128 = x % 128 + 128 := by
  have h0 : x % 256 = (((x % 256).toNat : Nat) : Int) := by omega
  have h := (bits_nat .u8 8 (by decide) wraps_u8 (x % 256).toNat 128 (by omega) (by decide)).2
  rw [show ((128 : Nat) : Int) = 128 from rfl] at h
  rw [h0, h, or128 _ (by omega)]
  omega
theorem or64 (x : Int) : Go.bits .or .i64 (Go.bits .and .i64 x 127) 128 % 256 = x % 128 + 128 := by
  rw [and_127]
  have h0 : x % 128 = (((x % 128).toNat : Nat) : Int) := by omega
  have h := (bits_nat .i64 32 (by decide) wr64 (x % 128).toNat 128 (by omega) (by decide)).2
  rw [show ((128 : Nat) : Int) = 128 from rfl] at h
  rw [h0, h, or128 _ (by omega)]
  omega

/-! ### marks and frames -/
theorem toList_eq_iff (a b : ByteArray) : a.toList = b.toList ↔ a = b := by
  rw [ByteArray.toList_eq, ByteArray.toList_eq]
  exact ⟨fun h => ByteArray.ext (Array.toList_inj.1 h), fun h => by rw [h]⟩
theorem toList_nil_iff (a : ByteArray) : a.toList = ([] : List UInt8) ↔ a.size = 0 := by
  rw [ByteArray.toList_eq, ← List.length_eq_zero_iff, Array.length_toList]
  exact Iff.rfl
theorem toList_beq (a b : ByteArray) : (a.toList == b.toList) = decide (a = b) := by
  rw [Bool.eq_iff_iff, beq_iff_eq, decide_eq_true_iff]
  exact toList_eq_iff a b
def sizedT (p n : Int) : ByteArray := fixT n 4 ++ fixT (sumOf (fixT p 8 ++ fixT n 4)) 4
def verOk (v : Int) : Prop := v = 1 ∨ v = 2
instance (v : Int) : Decidable (verOk v) := by unfold verOk; infer_instance
def numOk (n : Int) : Prop := 0 ≤ n ∧ n ≤ 1000000000
instance (v : Int) : Decidable (numOk v) := by unfold numOk; infer_instance
def endMark (v p : Int) : ByteArray := if verOk v ∧ numOk p then (if v = 1 then ⟨#[255, 255, 255, 255, 15]⟩ else sizedT p 4294967295) else ⟨#[]⟩
def frameT (v p : Int) (r : ByteArray) : ByteArray :=
  if verOk v ∧ numOk p ∧ r.size ≤ 60 then (if v = 1 then varT r.size else sizedT p r.size) ++ r ++ fixT (sumOf r) 4 else ⟨#[]⟩
theorem sizedT_le (p n : Int) : (sizedT p n).size ≤ 16 := by
  unfold sizedT
  have h1 := fixT_le n 4
  have h2 := fixT_le (sumOf (fixT p 8 ++ fixT n 4)) 4
  rw [ByteArray.size_append]; omega
theorem endMark_le (v p : Int) : (endMark v p).size ≤ 16 := by
  unfold endMark
  split
  · split
    · decide
    · exact sizedT_le _ _
  · exact Nat.zero_le _
/-- Whether a text stands at a place. -/
def hasAt (b : ByteArray) (a : Int) (t : ByteArray) : Bool := decide (0 ≤ a ∧ a + t.size ≤ b.size ∧ b.extract a.toNat (a.toNat + t.size) = t)
def markAt (v p : Int) (b : ByteArray) (a : Int) : Bool := decide ((endMark v p).size ≠ 0) && hasAt b a (endMark v p)

/-! ### what stands at the end -/
def trailGo (acc : ByteArray) : List Int → ByteArray
  | [] => acc ++ ⟨#[73, 68, 88, 33]⟩
  | n :: l => if (fixT n 4).size = 0 then ⟨#[]⟩ else trailGo (acc ++ fixT n 4) l
def trailT (a b c d : Int) : ByteArray := trailGo ⟨#[]⟩ [a, b, c, d]

/-! ### rows -/
theorem rdOf_drop {α : Type} (d : α) (xs : List α) (i : Nat) (h : i < xs.length) : xs.drop i = rdOf d xs (i : Int) :: xs.drop (i + 1) := by
  unfold rdOf
  rw [List.drop_eq_getElem_cons h, Int.toNat_natCast, List.getD_eq_getElem?_getD, List.getElem?_eq_getElem h]
  rfl
theorem rd_drop (xs : List Int) (i : Nat) (h : i < xs.length) : xs.drop i = rd xs (i : Int) :: xs.drop (i + 1) := rdOf_drop 0 xs i h
theorem rdOf_mem {α : Type} (d : α) (xs : List α) (i : Nat) (h : i < xs.length) : rdOf d xs (i : Int) ∈ xs := by
  unfold rdOf
  rw [Int.toNat_natCast, List.getD_eq_getElem?_getD, List.getElem?_eq_getElem h]
  exact List.getElem_mem h
theorem rd_get (xs : List Int) (i : Nat) (h : i < xs.length) : rd xs (i : Int) = xs[i] := by
  unfold rd
  rw [Int.toNat_natCast, List.getD_eq_getElem?_getD, List.getElem?_eq_getElem h]
  rfl

/-! ### draws: a place in the bytes that are drawn from -/
def Cu (c : List Int) (i : Int) : Prop := 0 ≤ i ∧ i ≤ c.length ∧ c.length ≤ 1048576

/-! ### links -/
def linkMore (l : Int) (r : ByteArray) : Int := sumMore l (fixT r.size 4 ++ r)
def linkAll (l : Int) (rs : List ByteArray) : Int := rs.foldl linkMore l

/-! ### rows that are marked, copied, compared -/
def seqL : Nat → Int → List Int
  | 0, _ => []
  | d + 1, m => m :: seqL d (m + 1)
theorem seqL_length : ∀ (d : Nat) (m : Int), (seqL d m).length = d
  | 0, _ => rfl
  | d + 1, m => by simp [seqL, seqL_length d]
theorem seqL_snoc : ∀ (d : Nat) (m : Int), seqL (d + 1) m = seqL d m ++ [m + d]
  | 0, m => by simp [seqL]
  | d + 1, m => by
    rw [show seqL (d + 1 + 1) m = m :: seqL (d + 1) (m + 1) from rfl, seqL_snoc d (m + 1)]
    rw [show seqL (d + 1) m = m :: seqL d (m + 1) from rfl]
    simp only [List.cons_append, Int.natCast_add]
    congr 3
    omega
theorem seqL_get : ∀ (d : Nat) (m : Int) (i : Nat), i < d → rd (seqL d m) i = m + i
  | d + 1, m, 0, _ => by simp [rd, seqL]
  | d + 1, m, i + 1, h => by
    have := seqL_get d (m + 1) i (by omega)
    unfold rd at this ⊢
    rw [Int.toNat_natCast] at this ⊢
    rw [show seqL (d + 1) m = m :: seqL d (m + 1) from rfl, List.getD_cons_succ, this]
    omega
/-- Cell i of a row of which i cells are done is set. -/
theorem set_mid {α : Type} (a b : List α) (x y : α) (i : Nat) (h : a.length = i) : (a ++ x :: b).set i y = a ++ y :: b := by
  subst h
  simp
theorem take_snoc {α : Type} (d : α) (xs : List α) (i : Nat) (h : i < xs.length) : xs.take (i + 1) = xs.take i ++ [rdOf d xs (i : Int)] := by
  unfold rdOf
  rw [List.take_succ_eq_append_getElem h, Int.toNat_natCast, List.getD_eq_getElem?_getD, List.getElem?_eq_getElem h]
  rfl

/-! ### places of every so many-eth -/
def plc {α : Type} (mk : Int → Int → α) (s : Int) : List Int → Nat → List α
  | [], _ => []
  | x :: l, i => if (i : Int) % s = 0 then mk i x :: plc mk s l (i + 1) else plc mk s l (i + 1)
theorem plc_skip {α : Type} (mk : Int → Int → α) (s : Int) (l : List Int) : ∀ (m j : Nat), (∀ t : Nat, j ≤ t → t < j + m → (t : Int) % s ≠ 0) → plc mk s (l.drop j) j = plc mk s (l.drop (j + m)) (j + m)
  | 0, j, _ => rfl
  | m + 1, j, h => by
    rcases Nat.lt_or_ge j l.length with hj | hj
    · rw [List.drop_eq_getElem_cons hj]
      have h0 := h j (Nat.le_refl _) (by omega)
      rw [show plc mk s (l[j] :: l.drop (j + 1)) j = plc mk s (l.drop (j + 1)) (j + 1) by unfold plc; rw [if_neg h0]; cases l.drop (j + 1) <;> rfl]
      rw [plc_skip mk s l m (j + 1) (fun t h1 h2 => h t (by omega) (by omega)), show j + 1 + m = j + (m + 1) by omega]
    · rw [List.drop_of_length_le hj, List.drop_of_length_le (by omega)]
      rfl
theorem plc_length {α : Type} (mk : Int → Int → α) (s : Int) : ∀ (l : List Int) (i : Nat), (plc mk s l i).length ≤ l.length
  | [], _ => by simp [plc]
  | x :: l, i => by
    have := plc_length mk s l (i + 1)
    unfold plc
    split <;> simp <;> omega
def placesOf {α : Type} (mk : Int → Int → α) (s : Int) (l : List Int) : List α := if s < 1 then [] else plc mk s l 0

end Go.Mth

/- Plain mathematics for this seat's laws, second part: numbers read from bytes, heads, frames, scans. No program in it.
   Conditions: none beyond those that each lemma names. -/
namespace Go.Mth
open Go.RowKit
set_option linter.unusedVariables false
set_option linter.unusedSimpArgs false

/-! ### texts and their numbers -/
theorem bytesOf_length (t : ByteArray) : (bytesOf t).length = t.size := by
  unfold bytesOf
  rw [List.length_map, Array.length_toList]
  rfl
theorem bytesOf_range (t : ByteArray) : ∀ x ∈ bytesOf t, 0 ≤ x ∧ x ≤ 255 := by
  intro x hx
  obtain ⟨u, _, rfl⟩ := List.mem_map.1 hx
  have := u.toNat_lt
  omega
theorem bytesOf_append (a b : ByteArray) : bytesOf (a ++ b) = bytesOf a ++ bytesOf b := by
  unfold bytesOf
  rw [ByteArray.data_append, Array.toList_append, List.map_append]
theorem bytesOf_extract (t : ByteArray) (i j : Nat) : bytesOf (t.extract i j) = ((bytesOf t).take j).drop i := by
  unfold bytesOf
  rw [ByteArray.data_extract, Array.toList_extract, List.extract_eq_take_drop, ← List.map_take, ← List.map_drop, List.drop_take]
theorem bytesOf_strOf (l : List Int) (h : ∀ x ∈ l, 0 ≤ x ∧ x ≤ 255) : bytesOf (strOf l) = l := by
  unfold bytesOf strOf
  rw [List.map_map]
  refine (List.map_congr_left (fun x hx => ?_)).trans (List.map_id l)
  have := h x hx
  simp only [Function.comp, id]
  rw [UInt8.toNat_ofNat']
  omega
theorem strOf_bytesOf (t : ByteArray) : strOf (bytesOf t) = t := by
  unfold bytesOf strOf
  rw [List.map_map]
  have e : t.data.toList.map ((fun n : Int => UInt8.ofNat n.toNat) ∘ fun b : UInt8 => (b.toNat : Int)) = t.data.toList := by
    refine (List.map_congr_left (fun x hx => ?_)).trans (List.map_id _)
    simp only [Function.comp, Int.toNat_natCast, id]
    exact UInt8.ofNat_toNat
  rw [e]
theorem bytesOf_inj {a b : ByteArray} (h : bytesOf a = bytesOf b) : a = b := by
  rw [← strOf_bytesOf a, ← strOf_bytesOf b, h]
theorem bt_rd (t : ByteArray) (i : Int) : bt t i = rd (bytesOf t) i := (rd_bytesOf t i).symm

theorem pow_mono (a : Nat) (ha : 0 < a) {i j : Nat} (h : i ≤ j) : ((a : Int)) ^ i ≤ (a : Int) ^ j := by
  have := Nat.pow_le_pow_right ha h
  exact_mod_cast this
theorem bnt {p : Prop} [Decidable p] (h : ¬ p) : (!decide p) = true := by simp [h]
theorem bnf {p : Prop} [Decidable p] (h : p) : ¬ (!decide p) = true := by simp [h]

/-! ### joining bits -/
theorem wr63 (n : Int) (h0 : 0 ≤ n) (h1 : n < 2 ^ 63) : IntKind.i64.wrap n = n := by rw [IntKind.wrap_i64]; omega
theorem or_comm64 (a b : Int) : Go.bits .or .i64 a b = Go.bits .or .i64 b a := by
  have h : ∀ x y : Int, Go.bits .or .i64 x y = IntKind.i64.wrap ((BitVec.ofInt 64 x ||| BitVec.ofInt 64 y).toNat : Int) := fun _ _ => rfl
  rw [h, h, BitVec.or_comm]
/-- A part below 2^i and one above it. -/
theorem or_low (i : Nat) (n h : Int) (hn0 : 0 ≤ n) (hn : n < 2 ^ i) (hh0 : 0 ≤ h) (hh : h * 2 ^ i < 2 ^ 63) (hi : i ≤ 62) : Go.bits .or .i64 n (h * 2 ^ i) = n + h * 2 ^ i := by
  rw [or_comm64]
  have hp : (2 : Int) ^ i ≤ 2 ^ 62 := by exact_mod_cast Nat.pow_le_pow_right (by decide : 0 < 2) hi
  rw [bits_join .i64 63 (by decide) wr63 i (h * 2 ^ i) n (Int.mul_nonneg hh0 (Int.pow_nonneg (by decide))) (Int.mul_emod_left _ _) hh hn0 hn (by omega)]
  omega
theorem or_high (n x : Int) (hn0 : 0 ≤ n) (hx0 : 0 ≤ x) (hx : x < 256) (hn : n * 256 < 2 ^ 63) : Go.bits .or .i64 (n * 256) x = n * 256 + x := by
  have := or_low 8 x n hx0 (by omega) hn0 (by omega) (by decide)
  rw [or_comm64]
  rw [show (2 : Int) ^ 8 = 256 by decide] at this
  rw [this]
  omega
theorem shl7 (x : Int) (i : Nat) (hi : i ≤ 4) (hx0 : 0 ≤ x) (hx : x < 128) : shl .i64 x (7 * (i : Int)) = x * 2 ^ (7 * i) := by
  unfold shl
  rw [show (7 * (i : Int)).toNat = 7 * i by omega, show IntKind.bits .i64 = 64 from rfl, Nat.min_eq_left (by omega)]
  have h2 : (2 : Int) ^ (7 * i) ≤ 2 ^ 28 := by exact_mod_cast Nat.pow_le_pow_right (by decide : 0 < 2) (by omega : 7 * i ≤ 28)
  have h3 : (0 : Int) ≤ 2 ^ (7 * i) := Int.pow_nonneg (by decide)
  have h4 : x * 2 ^ (7 * i) ≤ 127 * 2 ^ 28 := Int.mul_le_mul (by omega) h2 h3 (by decide)
  exact wr63 _ (Int.mul_nonneg hx0 h3) (by omega)
theorem shl8 (x : Int) (i : Nat) (hi : i ≤ 6) (hx0 : 0 ≤ x) (hx : x < 256) : shl .i64 x (8 * (i : Int)) = x * 2 ^ (8 * i) := by
  unfold shl
  rw [show (8 * (i : Int)).toNat = 8 * i by omega, show IntKind.bits .i64 = 64 from rfl, Nat.min_eq_left (by omega)]
  have h2 : (2 : Int) ^ (8 * i) ≤ 2 ^ 48 := by exact_mod_cast Nat.pow_le_pow_right (by decide : 0 < 2) (by omega : 8 * i ≤ 48)
  have h3 : (0 : Int) ≤ 2 ^ (8 * i) := Int.pow_nonneg (by decide)
  have h4 : x * 2 ^ (8 * i) ≤ 255 * 2 ^ 48 := Int.mul_le_mul (by omega) h2 h3 (by decide)
  exact wr63 _ (Int.mul_nonneg hx0 h3) (by omega)
/-- The eighth byte: as it is where its top bit is clear, and below 0 where it is set. -/
theorem or_top (n x : Int) (hn0 : 0 ≤ n) (hn : n < 2 ^ 56) (hx0 : 0 ≤ x) (hx : x < 256) :
    Go.bits .or .i64 n (shl .i64 x 56) = if x < 128 then n + x * 2 ^ 56 else n + x * 2 ^ 56 - 2 ^ 64 := by
  obtain ⟨a, rfl⟩ := Int.eq_ofNat_of_zero_le hn0
  obtain ⟨c, rfl⟩ := Int.eq_ofNat_of_zero_le hx0
  have hs : shl .i64 (c : Int) 56 = IntKind.i64.wrap ((c * 2 ^ 56 : Nat) : Int) := by
    unfold shl
    rw [show (56 : Int).toNat = 56 by decide, show IntKind.bits .i64 = 64 from rfl, Nat.min_eq_left (by decide)]
    congr 1
  have h1 : BitVec.ofInt 64 (shl .i64 (c : Int) 56) = BitVec.ofNat 64 (c * 2 ^ 56) := by
    rw [hs, IntKind.wrap_i64]
    apply BitVec.eq_of_toNat_eq
    rw [BitVec.toNat_ofInt, BitVec.toNat_ofNat]
    omega
  have h : Go.bits .or .i64 (a : Int) (shl .i64 (c : Int) 56) = IntKind.i64.wrap ((BitVec.ofInt 64 (a : Int) ||| BitVec.ofInt 64 (shl .i64 (c : Int) 56)).toNat : Int) := rfl
  rw [h, h1, BitVec.ofInt_natCast, BitVec.toNat_or, BitVec.toNat_ofNat, BitVec.toNat_ofNat, Nat.mod_eq_of_lt (by omega), Nat.mod_eq_of_lt (by omega), Nat.or_comm, Nat.mul_comm c,
    ← Nat.two_pow_add_eq_or_of_lt (by omega : a < 2 ^ 56) c, IntKind.wrap_i64]
  split <;> omega

/-! ### numbers read from so many bytes -/
/-- The number of these bytes, the lowest first. -/
def le : List Int → Int
  | [] => 0
  | x :: l => x + 256 * le l
theorem le_range : ∀ (l : List Int), (∀ x ∈ l, 0 ≤ x ∧ x ≤ 255) → 0 ≤ le l ∧ le l < 256 ^ l.length
  | [], _ => by simp [le]
  | x :: l, h => by
    have h1 := h x (by simp)
    have h2 := le_range l (fun y hy => h y (by simp [hy]))
    simp only [le, List.length_cons, Int.pow_succ]
    omega
theorem le_snoc : ∀ (l : List Int) (x : Int), le (l ++ [x]) = le l + x * 256 ^ l.length
  | [], x => by simp [le]
  | y :: l, x => by
    simp only [List.cons_append, le, List.length_cons, Int.pow_succ, le_snoc l x]
    rw [Int.mul_add, Int.mul_left_comm (256 : Int) x, Int.mul_comm (256 : Int) (256 ^ l.length)]
    omega
theorem le_fixL : ∀ (d : Nat) (n : Int), 0 ≤ n → n < 256 ^ d → le (fixL d n) = n
  | 0, n, h0, h1 => by simp [fixL, le] at *; omega
  | d + 1, n, h0, h1 => by
    have hp : n / 256 < 256 ^ d := by rw [Int.pow_succ] at h1; omega
    simp only [fixL, le, le_fixL d (n / 256) (by omega) hp]
    omega
theorem fixL_range : ∀ (d : Nat) (n : Int), ∀ x ∈ fixL d n, 0 ≤ x ∧ x ≤ 255
  | 0, n, x, h => by simp [fixL] at h
  | d + 1, n, x, h => by
    rcases List.mem_cons.1 h with rfl | h
    · omega
    · exact fixL_range d _ x h
theorem bytesOf_fixT (n w : Int) (h0 : 0 ≤ n) (h1 : 1 ≤ w) (h8 : w ≤ 8) (hn : n < 256 ^ w.toNat) : bytesOf (fixT n w) = fixL w.toNat n := by
  unfold fixT
  rw [if_neg (by
    have : n / 256 ^ w.toNat = 0 := Int.ediv_eq_zero_of_lt h0 hn
    omega), bytesOf_strOf _ (fixL_range _ _)]
/-- The bytes of a text from a place on, so many. -/
def seg (b : ByteArray) (a n : Nat) : List Int := ((bytesOf b).drop a).take n
theorem seg_length (b : ByteArray) (a n : Nat) (h : a + n ≤ b.size) : (seg b a n).length = n := by
  unfold seg
  rw [List.length_take, List.length_drop, bytesOf_length]
  omega
theorem seg_range (b : ByteArray) (a n : Nat) : ∀ x ∈ seg b a n, 0 ≤ x ∧ x ≤ 255 := fun x hx => bytesOf_range b x (List.mem_of_mem_drop (List.mem_of_mem_take hx))
theorem seg_snoc (b : ByteArray) (a n : Nat) (h : a + n < b.size) : seg b a (n + 1) = seg b a n ++ [bt b ((a + n : Nat) : Int)] := by
  unfold seg
  have hl : n < ((bytesOf b).drop a).length := by rw [List.length_drop, bytesOf_length]; omega
  have hl2 : a + n < (bytesOf b).length := by rw [bytesOf_length]; omega
  rw [List.take_succ_eq_append_getElem hl, bt_rd, rd_get _ _ hl2, List.getElem_drop]
theorem seg_cons (b : ByteArray) (a n : Nat) (h : a < b.size) : seg b a (n + 1) = bt b (a : Int) :: seg b (a + 1) n := by
  unfold seg
  have hl2 : a < (bytesOf b).length := by rw [bytesOf_length]; omega
  rw [List.drop_eq_getElem_cons hl2, List.take_succ_cons, bt_rd, rd_get _ _ hl2]
theorem extract_seg (b : ByteArray) (a n : Nat) : bytesOf (b.extract a (a + n)) = seg b a n := by
  unfold seg
  rw [bytesOf_extract, List.drop_take]
  congr 1
  omega
theorem seg_mid (x t y : ByteArray) : seg (x ++ t ++ y) x.size t.size = bytesOf t := by
  unfold seg
  rw [bytesOf_append, bytesOf_append, List.append_assoc, List.drop_left' (bytesOf_length x), List.take_left' (bytesOf_length t)]
def rfix (b : ByteArray) (a w : Int) : Int × Bool :=
  if (1 ≤ w ∧ w ≤ 8) ∧ 0 ≤ a ∧ a ≤ b.size - w then (if le (seg b a.toNat w.toNat) < 2 ^ 63 then (le (seg b a.toNat w.toNat), true) else (0, false)) else (0, false)
theorem rfix_range (b : ByteArray) (a w : Int) : 0 ≤ (rfix b a w).1 ∧ (rfix b a w).1 < 2 ^ 63 := by
  unfold rfix
  split
  · split
    · exact ⟨(le_range _ (seg_range _ _ _)).1, by assumption⟩
    · exact ⟨by decide, by decide⟩
  · exact ⟨by decide, by decide⟩
theorem rfix_mid (x t y : ByteArray) (n w : Int) (h0 : 0 ≤ n) (h1 : 1 ≤ w) (h8 : w ≤ 8) (hn : n < 256 ^ w.toNat) (hn2 : n < 2 ^ 63) (ht : t = fixT n w) : rfix (x ++ t ++ y) x.size w = (n, true) := by
  subst ht
  have hs := fixT_size n w h0 h1 h8 hn
  have e : seg (x ++ fixT n w ++ y) (x.size : Int).toNat w.toNat = fixL w.toNat n := by
    have := seg_mid x (fixT n w) y
    rw [hs, bytesOf_fixT n w h0 h1 h8 hn] at this
    exact this
  unfold rfix
  rw [e, le_fixL _ _ h0 hn, if_pos (by
    rw [ByteArray.size_append, ByteArray.size_append, hs]
    omega), if_pos hn2]
end Go.Mth

/- Plain mathematics for this seat's laws, third part: numbers in as few bytes as can be, read; heads; frames; scans. No program in it.
   Conditions: none beyond those that each lemma names. -/
namespace Go.Mth
open Go.RowKit
set_option linter.unusedVariables false
set_option linter.unusedSimpArgs false

/-! ### numbers in as few bytes as can be, read -/
def acc : List Int → Int
  | [] => 0
  | x :: l => x % 128 + 128 * acc l
theorem acc_range : ∀ (l : List Int), 0 ≤ acc l ∧ acc l < 128 ^ l.length
  | [] => by simp [acc]
  | x :: l => by
    have := acc_range l
    simp only [acc, List.length_cons, Int.pow_succ]
    omega
theorem acc_snoc : ∀ (l : List Int) (x : Int), acc (l ++ [x]) = acc l + x % 128 * 128 ^ l.length
  | [], x => by simp [acc]
  | y :: l, x => by
    simp only [List.cons_append, acc, List.length_cons, Int.pow_succ, acc_snoc l x]
    rw [Int.mul_add, Int.mul_left_comm (128 : Int) (x % 128), Int.mul_comm (128 : Int) (128 ^ l.length)]
    omega
theorem acc_pos : ∀ (l : List Int) (x : Int), 0 < x → x < 128 → 0 < acc (l ++ [x])
  | [], x, h0, h1 => by simp only [List.nil_append, acc]; omega
  | y :: l, x, h0, h1 => by
    have := acc_pos l x h0 h1
    simp only [List.cons_append, acc]
    omega
theorem varL_acc : ∀ (l : List Int) (d : Nat) (x : Int), l.length ≤ d → (∀ y ∈ l, 128 ≤ y ∧ y ≤ 255) → 0 ≤ x → x < 128 → (l = [] ∨ x ≠ 0) → varL d (acc (l ++ [x])) = l ++ [x]
  | [], d, x, _, _, h0, h1, _ => by
    have e : acc ([] ++ [x]) = x := by simp only [List.nil_append, acc]; omega
    rw [e]
    cases d with
    | zero => simp only [varL, List.nil_append]; rw [Int.emod_eq_of_lt h0 (by omega)]
    | succ d => rw [varL_ngt d x (by omega), Int.emod_eq_of_lt h0 (by omega)]; rfl
  | y :: l, 0, x, hd, _, _, _, _ => by simp at hd
  | y :: l, d + 1, x, hd, hl, h0, h1, hx => by
    have hx' : x ≠ 0 := hx.resolve_left (by simp)
    have hp := acc_pos l x (by omega) h1
    have hy := hl y (by simp)
    have e : acc (y :: l ++ [x]) = y % 128 + 128 * acc (l ++ [x]) := rfl
    have hd' : l.length ≤ d := by simpa using hd
    rw [e, varL_gt _ _ (by omega), show (y % 128 + 128 * acc (l ++ [x])) / 128 = acc (l ++ [x]) by omega, show (y % 128 + 128 * acc (l ++ [x])) % 128 + 128 = y by omega,
      varL_acc l d x hd' (fun z hz => hl z (by simp [hz])) h0 h1 (.inr hx')]
    rfl
theorem varL_last : ∀ (d : Nat) (n : Int), 1 ≤ n → n < 128 ^ (d + 1) → (varL d n).getLast? ≠ some 0
  | 0, n, h1, h2 => by
    simp only [varL, List.getLast?_singleton]
    intro h
    injection h with h
    omega
  | d + 1, n, h1, h2 => by
    by_cases h : n > 127
    · rw [varL_gt d n h]
      have hp : n / 128 < 128 ^ (d + 1) := by rw [Int.pow_succ] at h2; omega
      have := varL_last d (n / 128) (by omega) hp
      have hne : varL d (n / 128) ≠ [] := fun e => by have := varL_pos d (n / 128); rw [e] at this; simp at this
      rw [List.getLast?_cons_of_ne_nil hne]
      exact this
    · rw [varL_ngt d n h]
      simp only [List.getLast?_singleton]
      intro h
      injection h with h
      omega
theorem varL_canon (l : List Int) (x : Int) (hl4 : l.length ≤ 4) (hl : ∀ y ∈ l, 128 ≤ y ∧ y ≤ 255) (h0 : 0 ≤ x) (h1 : x < 128) : varL 4 (acc (l ++ [x])) = l ++ [x] ↔ ¬ (0 < l.length ∧ x = 0) := by
  constructor
  · rintro h ⟨h2, rfl⟩
    have hr := acc_range (l ++ [0])
    by_cases hz : acc (l ++ [0]) = 0
    · rw [hz] at h
      have := congrArg List.length h
      rw [varL_ngt 3 0 (by decide), List.length_append, List.length_singleton, List.length_singleton] at this
      omega
    · refine varL_last 4 (acc (l ++ [0])) (by omega) ?_ ?_
      · have h6 : (128 : Nat) ^ (l ++ [(0 : Int)]).length ≤ 128 ^ (4 + 1) := Nat.pow_le_pow_right (by decide) (by rw [List.length_append, List.length_singleton]; omega)
        have h7 : (128 : Int) ^ (l ++ [(0 : Int)]).length ≤ 128 ^ (4 + 1) := by exact_mod_cast h6
        exact Int.lt_of_lt_of_le hr.2 h7
      · rw [h]
        exact List.getLast?_concat
  · intro h
    refine varL_acc l 4 x hl4 hl h0 h1 ?_
    cases l with
    | nil => exact .inl rfl
    | cons y l => exact .inr (fun e => h ⟨by simp, e⟩)
theorem varL_range : ∀ (d : Nat) (n : Int), 0 ≤ n → ∀ x ∈ varL d n, 0 ≤ x ∧ x ≤ 255
  | 0, n, h, x, hx => by
    simp only [varL, List.mem_singleton] at hx
    omega
  | d + 1, n, h, x, hx => by
    by_cases h1 : n > 127
    · rw [varL_gt d n h1] at hx
      rcases List.mem_cons.1 hx with rfl | hx
      · omega
      · exact varL_range d _ (by omega) x hx
    · rw [varL_ngt d n h1, List.mem_singleton] at hx
      omega
def rvI (b : ByteArray) (a : Nat) : Nat → Nat → Int × Int × Bool
  | 0, _ => (0, 0, false)
  | d + 1, i => if a + i < b.size then
      (if bt b ((a + i : Nat) : Int) ≥ 128 then rvI b a d (i + 1)
       else if (0 < i ∧ bt b ((a + i : Nat) : Int) = 0) ∨ 1000000000 < acc (seg b a (i + 1)) then (0, 0, false) else (acc (seg b a (i + 1)), ((a + i + 1 : Nat) : Int), true))
      else (0, 0, false)
/-- The number whose VarText stands there. -/
def rv (b : ByteArray) (a : Int) : Int × Int × Bool := if 0 ≤ a then rvI b a.toNat 5 0 else (0, 0, false)
theorem rvI_range (b : ByteArray) (a : Nat) : ∀ (d i : Nat), (rvI b a d i).2.2 = true → 0 ≤ (rvI b a d i).1 ∧ (rvI b a d i).1 ≤ 1000000000 ∧ (a : Int) < (rvI b a d i).2.1 ∧ (rvI b a d i).2.1 ≤ b.size
  | 0, i, h => by simp [rvI] at h
  | d + 1, i, h => by
    unfold rvI at h ⊢
    split at h
    · rename_i h1
      rw [if_pos h1]
      split at h
      · rename_i h2
        rw [if_pos h2]
        exact rvI_range b a d (i + 1) h
      · rename_i h2
        rw [if_neg h2]
        split at h
        · simp at h
        · rename_i h3
          rw [if_neg h3]
          have := acc_range (seg b a (i + 1))
          refine ⟨this.1, by omega, ?_, ?_⟩
          · show (a : Int) < ((a + i + 1 : Nat) : Int)
            omega
          · show ((a + i + 1 : Nat) : Int) ≤ b.size
            omega
    · simp at h
theorem rv_range (b : ByteArray) (a : Int) (h : (rv b a).2.2 = true) : 0 ≤ a ∧ 0 ≤ (rv b a).1 ∧ (rv b a).1 ≤ 1000000000 ∧ a < (rv b a).2.1 ∧ (rv b a).2.1 ≤ b.size := by
  unfold rv at h ⊢
  split at h
  · rename_i h1
    rw [if_pos h1]
    have := rvI_range b a.toNat 5 0 h
    exact ⟨h1, this.1, this.2.1, by omega, this.2.2.2⟩
  · simp at h
theorem rv_small (x y : ByteArray) (n : Int) (h0 : 0 ≤ n) (h1 : n < 128) : rv (x ++ varT n ++ y) x.size = (n, (x.size : Int) + ((varT n).size : Int), true) := by
  have ev : varT n = strOf [n] := by
    unfold varT
    rw [if_neg (by omega), varL_ngt 3 n (by omega), Int.emod_eq_of_lt h0 (by omega)]
  have es : (varT n).size = 1 := by rw [ev, strOf_size]; rfl
  have hb : bytesOf (varT n) = [n] := by rw [ev, bytesOf_strOf _ (by simp; omega)]
  have hseg : seg (x ++ varT n ++ y) x.size 1 = [n] := by rw [← hb, ← seg_mid x (varT n) y, es]
  have hsz : x.size < (x ++ varT n ++ y).size := by rw [ByteArray.size_append, ByteArray.size_append, es]; omega
  have hbt : bt (x ++ varT n ++ y) ((x.size + 0 : Nat) : Int) = n := by
    have := seg_cons (x ++ varT n ++ y) x.size 0 hsz
    rw [hseg] at this
    injection this with this _
    exact this.symm
  unfold rv
  rw [if_pos (by omega), Int.toNat_natCast]
  unfold rvI
  rw [if_pos (by omega), hbt, if_neg (by omega), hseg, if_neg (by simp only [acc]; omega), es]
  simp only [acc, Prod.mk.injEq]
  refine ⟨by omega, by omega, trivial⟩

/-- So many numbers, one behind the other. -/
def vars (b : ByteArray) : Nat → Int → Option (List Int × Int)
  | 0, e => some ([], e)
  | d + 1, e => if (rv b e).2.2 = true then (vars b d (rv b e).2.1).map (fun q => ((rv b e).1 :: q.1, q.2)) else none
theorem vars_some (b : ByteArray) : ∀ (d : Nat) (e : Int) (l : List Int) (e' : Int), vars b d e = some (l, e') → l.length = d ∧ (∀ x ∈ l, 0 ≤ x ∧ x ≤ 1000000000) ∧ (d = 0 → e' = e) ∧ (0 < d → 0 ≤ e ∧ 0 ≤ e' ∧ e' ≤ b.size)
  | 0, e, l, e', h => by
    simp only [vars, Option.some.injEq, Prod.mk.injEq] at h
    obtain ⟨rfl, rfl⟩ := h
    exact ⟨rfl, by simp, fun _ => rfl, fun h => absurd h (by decide)⟩
  | d + 1, e, l, e', h => by
    unfold vars at h
    split at h
    · rename_i h1
      obtain ⟨⟨q, e2⟩, hq, h2⟩ := Option.map_eq_some_iff.1 h
      simp only [Prod.mk.injEq] at h2
      obtain ⟨rfl, rfl⟩ := h2
      obtain ⟨k1, k2, k3, k4⟩ := vars_some b d _ q e2 hq
      have hr := rv_range b e h1
      refine ⟨by simp [k1], ?_, fun h => absurd h (by omega), fun _ => ⟨hr.1, ?_⟩⟩
      · intro x hx
        rcases List.mem_cons.1 hx with rfl | hx
        · omega
        · exact k2 x hx
      · by_cases hd : d = 0
        · have := k3 hd
          omega
        · have := k4 (by omega)
          omega
    · simp at h
/-- Two by two, each above the one ahead. -/
def prs {α : Type} (mk : Int → Int → α) : Int → Int → List Int → List α
  | c, a, x :: y :: l => mk (c + x) (a + y) :: prs mk (c + x) (a + y) l
  | _, _, _ => []
theorem prs_length {α : Type} (mk : Int → Int → α) : ∀ (c a : Int) (l : List Int), (prs mk c a l).length ≤ l.length
  | c, a, [] => by simp [prs]
  | c, a, [x] => by simp [prs]
  | c, a, x :: y :: l => by
    have := prs_length mk (c + x) (a + y) l
    simp only [prs, List.length_cons]
    omega
def rPlaces {α : Type} (mk : Int → Int → α) (b : ByteArray) (a : Int) : List α × Int × Bool :=
  if (rv b a).2.2 = true ∧ (rv b a).1 ≤ 1000 then (match vars b (2 * (rv b a).1.toNat) (rv b a).2.1 with | some q => (prs mk 0 0 q.1, q.2, true) | none => ([], 0, false)) else ([], 0, false)

/-! ### heads -/
def headOk (v s b l : Int) : Prop := verOk v ∧ (1 ≤ s ∧ s ≤ 20) ∧ numOk b ∧ (0 ≤ l ∧ l ≤ 4294967295)
instance (v s b l : Int) : Decidable (headOk v s b l) := by unfold headOk; infer_instance
def hdBody (v s b l : Int) : ByteArray := ⟨#[83, 69, 71, 77]⟩ ++ fixT v 1 ++ fixT s 1 ++ ⟨#[0, 0]⟩ ++ fixT b 8 ++ fixT l 4
def headT (v s b l : Int) : ByteArray := if headOk v s b l then hdBody v s b l ++ fixT (sumOf (hdBody v s b l)) 4 else ⟨#[]⟩
theorem fixT0 : fixT 0 2 = ⟨#[0, 0]⟩ := by decide +kernel
theorem hdBody_le (v s b l : Int) : (hdBody v s b l).size ≤ 38 := by
  unfold hdBody
  have h1 := fixT_le v 1
  have h2 := fixT_le s 1
  have h3 := fixT_le b 8
  have h4 := fixT_le l 4
  simp only [ByteArray.size_append]
  have h5 : (⟨#[83, 69, 71, 77]⟩ : ByteArray).size = 4 := rfl
  have h6 : (⟨#[0, 0]⟩ : ByteArray).size = 2 := rfl
  omega
theorem headT_size (v s b l : Int) (h : headOk v s b l) : (headT v s b l).size = 24 := by
  have h' := h
  unfold headOk verOk numOk at h'
  unfold headT
  rw [if_pos h]
  unfold hdBody
  have h1 := fixT_size v 1 (by omega) (by decide) (by decide) (by simp; omega)
  have h2 := fixT_size s 1 (by omega) (by decide) (by decide) (by simp; omega)
  have h3 := fixT8_size b (by omega) (by omega)
  have h4 := fixT4_size l (by omega) (by omega)
  have h7 := sumMore_range 0 (hdBody v s b l)
  have h8 := fixT4_size (sumOf (hdBody v s b l)) h7.1 h7.2
  unfold hdBody at h8
  simp only [ByteArray.size_append, h1, h2, h3, h4, h8]
  rfl
/-- The head whose HeadText the first bytes are. -/
def rHead (b : ByteArray) : Int × Int × Int × Int × Bool :=
  if b.size < 24 then (0, 0, 0, 0, false)
  else if (rfix b 8 8).2 = true ∧ headT (bt b 4) (bt b 5) (rfix b 8 8).1 (rfix b 16 4).1 = b.extract 0 24 then (bt b 4, bt b 5, (rfix b 8 8).1, (rfix b 16 4).1, true) else (0, 0, 0, 0, false)
theorem rHead_ok (b : ByteArray) (h : (rHead b).2.2.2.2 = true) : 24 ≤ b.size ∧ headOk (rHead b).1 (rHead b).2.1 (rHead b).2.2.1 (rHead b).2.2.2.1 ∧ headT (rHead b).1 (rHead b).2.1 (rHead b).2.2.1 (rHead b).2.2.2.1 = b.extract 0 24 := by
  unfold rHead at h ⊢
  split at h
  · simp at h
  · rename_i h1
    rw [if_neg h1]
    split at h
    · rename_i h2
      rw [if_pos h2]
      refine ⟨by omega, ?_, h2.2⟩
      have hs := congrArg ByteArray.size h2.2
      rw [ByteArray.size_extract] at hs
      by_cases hk : headOk (bt b 4) (bt b 5) (rfix b 8 8).1 (rfix b 16 4).1
      · exact hk
      · unfold headT at hs
        rw [if_neg hk, mkE_size] at hs
        omega
    · simp at h
theorem rHead_no (b : ByteArray) (h : ¬ (rHead b).2.2.2.2 = true) : rHead b = (0, 0, 0, 0, false) := by
  unfold rHead at h ⊢
  split at h
  · rw [if_pos (by assumption)]
  · rename_i h1
    rw [if_neg h1]
    split at h
    · simp at h
    · rename_i h2
      rw [if_neg h2]
theorem bt_mid (x t y : ByteArray) (n : Int) (h : bytesOf t = [n]) : bt (x ++ t ++ y) (x.size : Int) = n := by
  have es : t.size = 1 := by rw [← bytesOf_length, h]; rfl
  have hseg : seg (x ++ t ++ y) x.size 1 = [n] := by rw [← h, ← seg_mid x t y, es]
  have hsz : x.size < (x ++ t ++ y).size := by rw [ByteArray.size_append, ByteArray.size_append, es]; omega
  have := seg_cons (x ++ t ++ y) x.size 0 hsz
  rw [hseg] at this
  injection this with this _
  exact this.symm
theorem rHead_mk (v s b l : Int) (h : headOk v s b l) (y : ByteArray) : rHead (headT v s b l ++ y) = (v, s, b, l, true) := by
  have h' := h
  unfold headOk verOk numOk at h'
  have hs := headT_size v s b l h
  have h1 := fixT_size v 1 (by omega) (by decide) (by decide) (by simp; omega)
  have h2 := fixT_size s 1 (by omega) (by decide) (by decide) (by simp; omega)
  have h3 := fixT8_size b (by omega) (by omega)
  have h4 := fixT4_size l (by omega) (by omega)
  have b1 := bytesOf_fixT v 1 (by omega) (by decide) (by decide) (by simp; omega)
  have b2 := bytesOf_fixT s 1 (by omega) (by decide) (by decide) (by simp; omega)
  have e1 : fixL (1 : Int).toNat v = [v] := by show [v % 256] = [v]; rw [Int.emod_eq_of_lt (by omega) (by omega)]
  have e2 : fixL (1 : Int).toNat s = [s] := by show [s % 256] = [s]; rw [Int.emod_eq_of_lt (by omega) (by omega)]
  have et : headT v s b l ++ y = ⟨#[83, 69, 71, 77]⟩ ++ fixT v 1 ++ (fixT s 1 ++ ⟨#[0, 0]⟩ ++ fixT b 8 ++ fixT l 4 ++ fixT (sumOf (hdBody v s b l)) 4 ++ y) := by
    unfold headT
    rw [if_pos h]
    show (⟨#[83, 69, 71, 77]⟩ ++ fixT v 1 ++ fixT s 1 ++ ⟨#[0, 0]⟩ ++ fixT b 8 ++ fixT l 4) ++ _ ++ _ = _
    simp only [ByteArray.append_assoc]
  have p4 : bt (headT v s b l ++ y) 4 = v := by
    rw [et]
    exact bt_mid ⟨#[83, 69, 71, 77]⟩ (fixT v 1) _ v (b1.trans e1)
  have et2 : headT v s b l ++ y = (⟨#[83, 69, 71, 77]⟩ ++ fixT v 1) ++ fixT s 1 ++ (⟨#[0, 0]⟩ ++ fixT b 8 ++ fixT l 4 ++ fixT (sumOf (hdBody v s b l)) 4 ++ y) := by
    rw [et]
    simp only [ByteArray.append_assoc]
  have p5 : bt (headT v s b l ++ y) 5 = s := by
    rw [et2]
    have := bt_mid (⟨#[83, 69, 71, 77]⟩ ++ fixT v 1) (fixT s 1) (⟨#[0, 0]⟩ ++ fixT b 8 ++ fixT l 4 ++ fixT (sumOf (hdBody v s b l)) 4 ++ y) s (b2.trans e2)
    rw [ByteArray.size_append, h1] at this
    exact this
  have et3 : headT v s b l ++ y = (⟨#[83, 69, 71, 77]⟩ ++ fixT v 1 ++ fixT s 1 ++ ⟨#[0, 0]⟩) ++ fixT b 8 ++ (fixT l 4 ++ fixT (sumOf (hdBody v s b l)) 4 ++ y) := by
    rw [et]
    simp only [ByteArray.append_assoc]
  have p8 : rfix (headT v s b l ++ y) 8 8 = (b, true) := by
    rw [et3]
    have := rfix_mid (⟨#[83, 69, 71, 77]⟩ ++ fixT v 1 ++ fixT s 1 ++ ⟨#[0, 0]⟩) (fixT b 8) (fixT l 4 ++ fixT (sumOf (hdBody v s b l)) 4 ++ y) b 8 (by omega) (by decide) (by decide)
      (by have : (256 : Int) ^ (8 : Int).toNat = 18446744073709551616 := by decide
          omega) (by omega) rfl
    rw [ByteArray.size_append, ByteArray.size_append, ByteArray.size_append, h1, h2] at this
    exact this
  have et4 : headT v s b l ++ y = (⟨#[83, 69, 71, 77]⟩ ++ fixT v 1 ++ fixT s 1 ++ ⟨#[0, 0]⟩ ++ fixT b 8) ++ fixT l 4 ++ (fixT (sumOf (hdBody v s b l)) 4 ++ y) := by
    rw [et]
    simp only [ByteArray.append_assoc]
  have p16 : rfix (headT v s b l ++ y) 16 4 = (l, true) := by
    rw [et4]
    have := rfix_mid (⟨#[83, 69, 71, 77]⟩ ++ fixT v 1 ++ fixT s 1 ++ ⟨#[0, 0]⟩ ++ fixT b 8) (fixT l 4) (fixT (sumOf (hdBody v s b l)) 4 ++ y) l 4 (by omega) (by decide) (by decide)
      (by have : (256 : Int) ^ (4 : Int).toNat = 4294967296 := by decide
          omega) (by omega) rfl
    rw [ByteArray.size_append, ByteArray.size_append, ByteArray.size_append, ByteArray.size_append, h1, h2, h3] at this
    exact this
  unfold rHead
  rw [p4, p5, p8, p16, if_neg (by rw [ByteArray.size_append, hs]; omega), if_pos ⟨rfl, by
    rw [ByteArray.extract_append_eq_left hs.symm]⟩]

/-! ### frames -/
theorem frameT_le (v p : Int) (r : ByteArray) : (frameT v p r).size ≤ 84 := by
  unfold frameT
  split
  · rename_i h
    have h1 := sizedT_le p r.size
    have h2 := varT_le r.size
    have h3 := fixT_le (sumOf r) 4
    simp only [ByteArray.size_append]
    split <;> omega
  · exact Nat.zero_le _
/-- How long the record is, and where it begins. -/
def fq (v : Int) (b : ByteArray) (a : Int) : Int × Int × Bool := if v = 2 then ((rfix b a 4).1, a + 8, (rfix b a 4).2) else rv b a
def rFrameQ (v p : Int) (b : ByteArray) (a : Int) (q : Int × Int × Bool) : ByteArray × Int × Bool :=
  if (verOk v ∧ numOk p ∧ 0 ≤ a ∧ a ≤ b.size) ∧ q.2.2 = true ∧ q.1 ≤ 60 ∧ q.2.1 + q.1 ≤ b.size ∧ hasAt b a (frameT v p (b.extract q.2.1.toNat (q.2.1 + q.1).toNat)) = true
  then (b.extract q.2.1.toNat (q.2.1 + q.1).toNat, a + ((frameT v p (b.extract q.2.1.toNat (q.2.1 + q.1).toNat)).size : Int), true) else (⟨#[]⟩, 0, false)
/-- The record whose FrameText stands there. -/
def rFrame (v p : Int) (b : ByteArray) (a : Int) : ByteArray × Int × Bool := rFrameQ v p b a (fq v b a)
theorem hasAt_iff (b : ByteArray) (a : Int) (t : ByteArray) : hasAt b a t = true ↔ 0 ≤ a ∧ a + t.size ≤ b.size ∧ b.extract a.toNat (a.toNat + t.size) = t := by
  unfold hasAt
  rw [decide_eq_true_iff]
theorem frameT_pos (v p : Int) (r : ByteArray) (hv : verOk v) (hp : numOk p) (hr : r.size ≤ 60) : 5 ≤ (frameT v p r).size := by
  unfold frameT
  rw [if_pos ⟨hv, hp, hr⟩]
  have h7 := sumMore_range 0 r
  have h8 := fixT4_size (sumOf r) h7.1 h7.2
  simp only [ByteArray.size_append, h8]
  split
  · have := varT_pos r.size (by omega) (by omega)
    omega
  · unfold sizedT
    have := fixT4_size r.size (by omega) (by omega)
    rw [ByteArray.size_append]
    omega
theorem rFrame_ok (v p : Int) (b : ByteArray) (a : Int) (h : (rFrame v p b a).2.2 = true) :
    verOk v ∧ numOk p ∧ 0 ≤ a ∧ (rFrame v p b a).1.size ≤ 60 ∧ (rFrame v p b a).2.1 = a + ((frameT v p (rFrame v p b a).1).size : Int) ∧ hasAt b a (frameT v p (rFrame v p b a).1) = true ∧ a + 5 ≤ (rFrame v p b a).2.1 ∧ (rFrame v p b a).2.1 ≤ b.size := by
  unfold rFrame at h ⊢
  generalize fq v b a = q at h ⊢
  unfold rFrameQ at h ⊢
  split at h
  · rename_i h1
    rw [if_pos h1]
    have h2 := (hasAt_iff _ _ _).1 h1.2.2.2.2
    have hsz : (b.extract q.2.1.toNat (q.2.1 + q.1).toNat).size ≤ 60 := by
      rw [ByteArray.size_extract]
      have := h1.2.2.1
      omega
    have h3 := frameT_pos v p _ h1.1.1 h1.1.2.1 hsz
    refine ⟨h1.1.1, h1.1.2.1, h1.1.2.2.1, hsz, rfl, h1.2.2.2.2, ?_, ?_⟩
    · show a + 5 ≤ a + ((frameT v p _).size : Int)
      omega
    · exact h2.2.1
  · simp at h
theorem rFrame_no (v p : Int) (b : ByteArray) (a : Int) (h : ¬ (rFrame v p b a).2.2 = true) : rFrame v p b a = (⟨#[]⟩, 0, false) := by
  unfold rFrame at h ⊢
  generalize fq v b a = q at h ⊢
  unfold rFrameQ at h ⊢
  split at h
  · simp at h
  · rename_i h1
    rw [if_neg h1]
theorem hasAt_mid (x t y : ByteArray) : hasAt (x ++ t ++ y) x.size t = true := by
  rw [hasAt_iff]
  refine ⟨by omega, by rw [ByteArray.size_append, ByteArray.size_append]; omega, ?_⟩
  rw [Int.toNat_natCast]
  apply bytesOf_inj
  rw [extract_seg, seg_mid]
theorem rFrame_mid (v p : Int) (r x y : ByteArray) (hv : verOk v) (hp : numOk p) (hr : r.size ≤ 60) :
    rFrame v p (x ++ frameT v p r ++ y) x.size = (r, (x.size : Int) + ((frameT v p r).size : Int), true) := by
  have hh := hasAt_mid x (frameT v p r) y
  have hsize : (x ++ frameT v p r ++ y).size = x.size + (frameT v p r).size + y.size := by rw [ByteArray.size_append, ByteArray.size_append]
  have key : ∀ (q : Int × Int × Bool) (m : Nat), q = ((r.size : Int), (x.size : Int) + (m : Int), true) → (x ++ frameT v p r ++ y).extract (x.size + m) (x.size + m + r.size) = r → x.size + m + r.size ≤ (x ++ frameT v p r ++ y).size →
      rFrameQ v p (x ++ frameT v p r ++ y) x.size q = (r, (x.size : Int) + ((frameT v p r).size : Int), true) := by
    rintro q m rfl h4 h5
    unfold rFrameQ
    dsimp only
    rw [show ((x.size : Int) + (m : Int)).toNat = x.size + m by omega, show ((x.size : Int) + (m : Int) + (r.size : Int)).toNat = x.size + m + r.size by omega, h4]
    rw [if_pos ⟨⟨hv, hp, by omega, by omega⟩, rfl, by omega, by omega, hh⟩]
  unfold rFrame
  have hf : frameT v p r = (if v = 1 then varT r.size else sizedT p r.size) ++ r ++ fixT (sumOf r) 4 := by unfold frameT; rw [if_pos ⟨hv, hp, hr⟩]
  have mid : ∀ h : ByteArray, frameT v p r = h ++ r ++ fixT (sumOf r) 4 → (x ++ frameT v p r ++ y).extract (x.size + h.size) (x.size + h.size + r.size) = r := by
    intro h e
    apply bytesOf_inj
    rw [extract_seg, e, show x ++ (h ++ r ++ fixT (sumOf r) 4) ++ y = (x ++ h) ++ r ++ (fixT (sumOf r) 4 ++ y) by simp only [ByteArray.append_assoc], ← ByteArray.size_append, seg_mid]
  rcases hv with rfl | rfl
  · rw [if_pos rfl] at hf
    have e : x ++ frameT 1 p r ++ y = x ++ varT r.size ++ (r ++ fixT (sumOf r) 4 ++ y) := by rw [hf]; simp only [ByteArray.append_assoc]
    have hq : rv (x ++ frameT 1 p r ++ y) x.size = ((r.size : Int), (x.size : Int) + ((varT r.size).size : Int), true) := by rw [e]; exact rv_small x _ r.size (by omega) (by omega)
    refine key _ (varT r.size).size (by unfold fq; rw [if_neg (by decide)]; exact hq) (mid _ hf) ?_
    rw [hsize, hf]
    simp only [ByteArray.size_append]
    omega
  · rw [if_neg (by decide)] at hf
    have hs : (sizedT p r.size).size = 8 := by
      unfold sizedT
      have h7 := sumMore_range 0 (fixT p 8 ++ fixT r.size 4)
      have h9 := fixT4_size (sumOf (fixT p 8 ++ fixT r.size 4)) h7.1 h7.2
      rw [ByteArray.size_append, fixT4_size _ (by omega) (by omega), h9]
    have e : x ++ frameT 2 p r ++ y = x ++ fixT r.size 4 ++ (fixT (sumOf (fixT p 8 ++ fixT r.size 4)) 4 ++ r ++ fixT (sumOf r) 4 ++ y) := by
      rw [hf]
      unfold sizedT
      simp only [ByteArray.append_assoc]
    have h256 : (256 : Int) ^ (4 : Int).toNat = 4294967296 := by decide
    have hq : rfix (x ++ frameT 2 p r ++ y) x.size 4 = ((r.size : Int), true) := by
      rw [e]
      exact rfix_mid x _ _ r.size 4 (by omega) (by decide) (by decide) (by omega) (by omega) rfl
    have hm := mid _ hf
    rw [hs] at hm
    refine key _ 8 (by unfold fq; rw [if_pos rfl, hq]; rfl) hm ?_
    rw [hsize, hf]
    simp only [ByteArray.size_append, hs]
    omega

theorem fixT_inj4 (a b : Int) (ha0 : 0 ≤ a) (ha : a < 4294967296) (hb0 : 0 ≤ b) (hb : b < 4294967296) (h : fixT a 4 = fixT b 4) : a = b := by
  have h256 : (256 : Int) ^ (4 : Int).toNat = 4294967296 := by decide
  have e := congrArg bytesOf h
  rw [bytesOf_fixT a 4 ha0 (by decide) (by decide) (by omega), bytesOf_fixT b 4 hb0 (by decide) (by decide) (by omega)] at e
  have e2 := congrArg le e
  rw [le_fixL _ _ ha0 (by omega), le_fixL _ _ hb0 (by omega)] at e2
  exact e2
theorem sizedT_inj (p q n m : Int) (hn0 : 0 ≤ n) (hn : n < 4294967296) (hm0 : 0 ≤ m) (hm : m < 4294967296) (h : sizedT p n = sizedT q m) : n = m ∧ sumOf (fixT p 8 ++ fixT n 4) = sumOf (fixT q 8 ++ fixT m 4) := by
  unfold sizedT at h
  have e1 := ByteArray.append_inj_left h (by rw [fixT4_size n hn0 hn, fixT4_size m hm0 hm])
  have e2 := fixT_inj4 n m hn0 hn hm0 hm e1
  subst e2
  rw [ByteArray.append_right_inj] at h
  have r1 := sumMore_range 0 (fixT p 8 ++ fixT n 4)
  have r2 := sumMore_range 0 (fixT q 8 ++ fixT n 4)
  exact ⟨rfl, fixT_inj4 _ _ r1.1 r1.2 r2.1 r2.2 h⟩
theorem sizedT_size (p n : Int) (hn0 : 0 ≤ n) (hn : n < 4294967296) : (sizedT p n).size = 8 := by
  unfold sizedT
  have h7 := sumMore_range 0 (fixT p 8 ++ fixT n 4)
  have h9 := fixT4_size (sumOf (fixT p 8 ++ fixT n 4)) h7.1 h7.2
  rw [ByteArray.size_append, fixT4_size _ hn0 hn, h9]
theorem hasAt_head (t u v : ByteArray) (n : Nat) (ht : t.size = n) (hv : v.size = n) (x y : ByteArray) (a : Int) (ha : a = x.size) (h : hasAt (x ++ (t ++ u)) a (v ++ y) = true) : t = v := by
  obtain ⟨h0, h1, h2⟩ := (hasAt_iff _ _ _).1 h
  subst ha
  rw [Int.toNat_natCast] at h2
  have e := congrArg bytesOf h2
  rw [extract_seg] at e
  have e2 := congrArg (List.take n) e
  unfold seg at e2
  rw [List.take_take, bytesOf_append, List.drop_left' (bytesOf_length x), bytesOf_append, bytesOf_append, Nat.min_eq_left (by rw [ByteArray.size_append]; omega),
    List.take_left' (by rw [bytesOf_length, ht]), List.take_left' (by rw [bytesOf_length, hv])] at e2
  exact bytesOf_inj e2
theorem places_78 : ∀ n : Fin 61, sumOf (fixT 7 8 ++ fixT (n.val : Int) 4) ≠ sumOf (fixT 8 8 ++ fixT (n.val : Int) 4) := by decide +kernel
/-- A frame of the newer form is of one place alone. -/
theorem frame_78 (r : ByteArray) : ¬ (rFrame 2 8 (frameT 2 7 r) 0).2.2 = true := by
  intro h
  obtain ⟨hv, hp, _, hsz, _, hat, _, hle⟩ := rFrame_ok _ _ _ _ h
  generalize (rFrame 2 8 (frameT 2 7 r) 0).1 = r' at hsz hat
  have hv2 : verOk 2 := .inr rfl
  by_cases hr : r.size ≤ 60
  · have e7 : frameT 2 7 r = sizedT 7 r.size ++ (r ++ fixT (sumOf r) 4) := by
      unfold frameT
      rw [if_pos ⟨hv2, by decide, hr⟩, if_neg (by decide), ByteArray.append_assoc]
    have e8 : frameT 2 8 r' = sizedT 8 r'.size ++ (r' ++ fixT (sumOf r') 4) := by
      unfold frameT
      rw [if_pos ⟨hv2, by decide, hsz⟩, if_neg (by decide), ByteArray.append_assoc]
    rw [e7, e8, show sizedT 7 r.size ++ (r ++ fixT (sumOf r) 4) = ⟨#[]⟩ ++ (sizedT 7 r.size ++ (r ++ fixT (sumOf r) 4)) from ByteArray.empty_append.symm] at hat
    have e := hasAt_head _ _ _ 8 (sizedT_size 7 r.size (by omega) (by omega)) (sizedT_size 8 r'.size (by omega) (by omega)) ⟨#[]⟩ _ 0 rfl hat
    obtain ⟨e1, e2⟩ := sizedT_inj 7 8 r.size r'.size (by omega) (by omega) (by omega) (by omega) e
    rw [← e1] at e2
    exact places_78 ⟨r.size, by omega⟩ e2
  · have e7 : frameT 2 7 r = ⟨#[]⟩ := by
      unfold frameT
      rw [if_neg (fun x => hr x.2.2)]
    rw [e7] at hat
    have := (hasAt_iff _ _ _).1 hat
    have h5 := frameT_pos 2 8 r' hv2 (by decide) hsz
    have h6 : (⟨#[]⟩ : ByteArray).size = 0 := rfl
    omega

/-! ### scans -/
def scanGo (v base : Int) (b : ByteArray) : Nat → List ByteArray → List Int → Int → List ByteArray × List Int × Int × Bool
  | 0, rs, os, e => (rs, os, e, false)
  | d + 1, rs, os, e =>
    if markAt v (base + rs.length) b e = true then (rs, os, e, true)
    else if (rFrame v (base + rs.length) b e).2.2 = true then scanGo v base b d (rs ++ [(rFrame v (base + rs.length) b e).1]) (os ++ [e]) (rFrame v (base + rs.length) b e).2.1
    else (rs, os, e, false)
/-- What is told of a file: its head's numbers, its records, where they begin, where the last one ends, whether it is marked. -/
def scan (b : ByteArray) : Bool × Int × Int × Int × Int × List ByteArray × List Int × Int × Bool :=
  if (rHead b).2.2.2.2 = true then (true, (rHead b).1, (rHead b).2.1, (rHead b).2.2.1, (rHead b).2.2.2.1, scanGo (rHead b).1 (rHead b).2.2.1 b (b.size + 1) [] [] 24)
  else (false, 0, 0, 0, 0, [], [], 0, false)
/-- What holds of a scan's state. -/
def ScInv (b : ByteArray) (rs : List ByteArray) (os : List Int) (e : Int) : Prop :=
  rs.length = os.length ∧ 24 ≤ e ∧ e ≤ b.size ∧ 24 + 5 * (rs.length : Int) ≤ e ∧ (∀ r ∈ rs, r.size ≤ 60) ∧ ∀ o ∈ os, 0 ≤ o ∧ o ≤ b.size
theorem scInv_step (v base : Int) (b : ByteArray) (rs : List ByteArray) (os : List Int) (e : Int) (h : ScInv b rs os e) (hf : (rFrame v (base + rs.length) b e).2.2 = true) :
    ScInv b (rs ++ [(rFrame v (base + rs.length) b e).1]) (os ++ [e]) (rFrame v (base + rs.length) b e).2.1 := by
  obtain ⟨h1, h2, h3, h4, h5, h6⟩ := h
  obtain ⟨_, _, _, k1, _, _, k2, k3⟩ := rFrame_ok _ _ _ _ hf
  refine ⟨by simp [h1], by omega, k3, by simp only [List.length_append, List.length_singleton]; omega, ?_, ?_⟩
  · intro r hr
    rcases List.mem_append.1 hr with hr | hr
    · exact h5 r hr
    · rw [List.mem_singleton.1 hr]; exact k1
  · intro o ho
    rcases List.mem_append.1 ho with ho | ho
    · exact h6 o ho
    · rw [List.mem_singleton.1 ho]; omega
theorem scanGo_inv (v base : Int) (b : ByteArray) : ∀ (d : Nat) (rs : List ByteArray) (os : List Int) (e : Int), ScInv b rs os e →
    ScInv b (scanGo v base b d rs os e).1 (scanGo v base b d rs os e).2.1 (scanGo v base b d rs os e).2.2.1
  | 0, rs, os, e, h => h
  | d + 1, rs, os, e, h => by
    unfold scanGo
    split
    · exact h
    · split
      · rename_i hf
        exact scanGo_inv v base b d _ _ _ (scInv_step v base b rs os e h hf)
      · exact h
theorem scan_inv (b : ByteArray) (h : (scan b).1 = true) : ScInv b (scan b).2.2.2.2.2.1 (scan b).2.2.2.2.2.2.1 (scan b).2.2.2.2.2.2.2.1 := by
  unfold scan at h ⊢
  split at h
  · rename_i h1
    rw [if_pos h1]
    have := (rHead_ok b h1).1
    exact scanGo_inv _ _ _ _ _ _ _ ⟨rfl, by omega, by omega, by simp, by simp, by simp⟩
  · simp at h
theorem scan_no (b : ByteArray) (h : ¬ (scan b).1 = true) : scan b = (false, 0, 0, 0, 0, [], [], 0, false) := by
  unfold scan at h ⊢
  split at h
  · simp at h
  · rename_i h1
    rw [if_neg h1]
theorem scan_head (b : ByteArray) (h : (scan b).1 = true) : (rHead b).2.2.2.2 = true ∧ (scan b).2.1 = (rHead b).1 ∧ (scan b).2.2.1 = (rHead b).2.1 ∧ (scan b).2.2.2.1 = (rHead b).2.2.1 ∧ (scan b).2.2.2.2.1 = (rHead b).2.2.2.1 := by
  unfold scan at h ⊢
  split at h
  · rename_i h1
    rw [if_pos h1]
    exact ⟨h1, rfl, rfl, rfl, rfl⟩
  · simp at h
theorem scan_recsLen (b : ByteArray) : ((scan b).2.2.2.2.2.1.length : Int) ≤ b.size := by
  by_cases h : (scan b).1 = true
  · obtain ⟨_, h2, h3, h4, _⟩ := scan_inv b h
    omega
  · rw [scan_no b h]
    exact Int.natCast_nonneg _
theorem scan_offsLen (b : ByteArray) : ((scan b).2.2.2.2.2.2.1.length : Int) ≤ b.size := by
  by_cases h : (scan b).1 = true
  · obtain ⟨h1, h2, h3, h4, _⟩ := scan_inv b h
    omega
  · rw [scan_no b h]
    exact Int.natCast_nonneg _
end Go.Mth

/- Plain mathematics for this seat's laws, fourth part: lists of places, what stands behind the frames, sealed files. No program in it.
   Conditions: none beyond those that each lemma names. -/
namespace Go.Mth
open Go.RowKit
set_option linter.unusedVariables false
set_option linter.unusedSimpArgs false

/-! ### lists of places -/
/-- How much a is above b, as text. -/
def upT (a b : Int) : ByteArray := if b ≤ a ∧ a - b ≤ 1000000000 then varT (a - b) else ⟨#[]⟩
theorem stepT_le (a b : Int) : (upT a b).size ≤ 5 := by
  unfold upT
  split
  · exact varT_le _
  · exact Nat.zero_le _
def plGo : ByteArray → Int → Int → List (Int × Int) → ByteArray
  | o, _, _, [] => o
  | o, lc, la, p :: l => if (upT p.1 lc).size = 0 ∨ (upT p.2 la).size = 0 then ⟨#[]⟩ else plGo (o ++ upT p.1 lc ++ upT p.2 la) p.1 p.2 l
def placesT (l : List (Int × Int)) : ByteArray := plGo (varT l.length) 0 0 l
theorem plGo_le : ∀ (l : List (Int × Int)) (o : ByteArray) (lc la : Int), (plGo o lc la l).size ≤ o.size + 10 * l.length
  | [], o, _, _ => by simp [plGo]
  | p :: l, o, lc, la => by
    unfold plGo
    split
    · exact Nat.zero_le _
    · have := plGo_le l (o ++ upT p.1 lc ++ upT p.2 la) p.1 p.2
      have h1 := stepT_le p.1 lc
      have h2 := stepT_le p.2 la
      rw [ByteArray.size_append, ByteArray.size_append] at this
      rw [List.length_cons]
      omega
theorem placesT_le (l : List (Int × Int)) : (placesT l).size ≤ 5 + 10 * l.length := by
  have := plGo_le l (varT l.length) 0 0
  have := varT_le l.length
  unfold placesT
  omega
theorem plc_map {α β : Type} (mk : Int → Int → α) (g : α → β) (s : Int) : ∀ (l : List Int) (i : Nat), (plc mk s l i).map g = plc (fun a b => g (mk a b)) s l i
  | [], _ => rfl
  | x :: l, i => by
    unfold plc
    split
    · rw [List.map_cons, plc_map mk g s l (i + 1)]
    · exact plc_map mk g s l (i + 1)
theorem placesOf_map {α β : Type} (mk : Int → Int → α) (g : α → β) (s : Int) (l : List Int) : (placesOf mk s l).map g = placesOf (fun a b => g (mk a b)) s l := by
  unfold placesOf
  split
  · rfl
  · exact plc_map mk g s l 0
theorem placesOf_le {α : Type} (mk : Int → Int → α) (s : Int) (l : List Int) : (placesOf mk s l).length ≤ l.length := by
  unfold placesOf
  split
  · exact Nat.zero_le _
  · exact plc_length mk s l 0

/-! ### what stands behind the frames -/
theorem fixT4_full (n : Int) (h : (fixT n 4).size ≠ 0) : (fixT n 4).size = 4 ∧ 0 ≤ n ∧ n < 4294967296 := by
  have h256 : (256 : Int) ^ (4 : Int).toNat = 4294967296 := by decide
  unfold fixT at h ⊢
  split at h
  · exact absurd rfl h
  · rename_i h1
    rw [if_neg h1, strOf_size, fixL_length]
    rw [h256] at h1
    exact ⟨rfl, by omega, by omega⟩
theorem trailGo_le : ∀ (l : List Int) (acc : ByteArray), (trailGo acc l).size ≤ acc.size + 8 * l.length + 4
  | [], acc => by
    unfold trailGo
    rw [ByteArray.size_append]
    have : (⟨#[73, 68, 88, 33]⟩ : ByteArray).size = 4 := rfl
    simp only [List.length_nil]
    omega
  | n :: l, acc => by
    unfold trailGo
    split
    · exact Nat.zero_le _
    · have := trailGo_le l (acc ++ fixT n 4)
      have h := fixT_le n 4
      rw [ByteArray.size_append] at this
      rw [List.length_cons]
      omega
theorem trailT_le (a b c d : Int) : (trailT a b c d).size ≤ 36 := by
  have := trailGo_le [a, b, c, d] ⟨#[]⟩
  have h0 : (⟨#[]⟩ : ByteArray).size = 0 := rfl
  unfold trailT
  simp only [List.length_cons, List.length_nil] at this
  omega
theorem trailT_size (a b c d : Int) (h : (trailT a b c d).size ≠ 0) : (fixT a 4).size ≠ 0 ∧ (fixT b 4).size ≠ 0 ∧ (fixT c 4).size ≠ 0 ∧ (fixT d 4).size ≠ 0 ∧ trailT a b c d = fixT a 4 ++ fixT b 4 ++ fixT c 4 ++ fixT d 4 ++ ⟨#[73, 68, 88, 33]⟩ := by
  unfold trailT trailGo at h ⊢
  split at h
  · exact absurd rfl h
  · rename_i h1
    rw [if_neg h1]
    unfold trailGo at h ⊢
    split at h
    · exact absurd rfl h
    · rename_i h2
      rw [if_neg h2]
      unfold trailGo at h ⊢
      split at h
      · exact absurd rfl h
      · rename_i h3
        rw [if_neg h3]
        unfold trailGo at h ⊢
        split at h
        · exact absurd rfl h
        · rename_i h4
          rw [if_neg h4]
          refine ⟨h1, h2, h3, h4, ?_⟩
          unfold trailGo
          rw [show (⟨#[]⟩ : ByteArray) ++ fixT a 4 = fixT a 4 from ByteArray.empty_append]
/-- The places, in plain pairs. -/
def placesP (s : Int) (os : List Int) : List (Int × Int) := placesOf (fun a b => (a, b)) s os
def footT (v s b l : Int) (os : List Int) (e : Int) : ByteArray :=
  if headOk v s b l then
    (if (endMark v (b + os.length)).size = 0 ∨ (placesT (placesP s os)).size = 0 ∨ (trailT e os.length s 0).size = 0 then ⟨#[]⟩
     else endMark v (b + os.length) ++ placesT (placesP s os) ++ trailT e os.length s (sumOf (endMark v (b + os.length) ++ placesT (placesP s os) ++ (trailT e os.length s 0).extract 0 12)))
  else ⟨#[]⟩
theorem footT_le (v s b l : Int) (os : List Int) (e : Int) : (footT v s b l os e).size ≤ 57 + 10 * os.length := by
  unfold footT
  split
  · split
    · exact Nat.zero_le _
    · have h1 := endMark_le v (b + os.length)
      have h2 := placesT_le (placesP s os)
      have h3 := trailT_le e os.length s (sumOf (endMark v (b + os.length) ++ placesT (placesP s os) ++ (trailT e os.length s 0).extract 0 12))
      have h4 : (placesP s os).length ≤ os.length := placesOf_le _ _ _
      rw [ByteArray.size_append, ByteArray.size_append]
      omega
  · exact Nat.zero_le _

/-! ### sealed files -/
/-- The frames behind what stands, and where each begins. -/
def frGo (v b : Int) : ByteArray → List Int → List ByteArray → ByteArray × List Int
  | t, os, [] => (t, os)
  | t, os, r :: l => frGo v b (t ++ frameT v (b + os.length) r) (os ++ [(t.size : Int)]) l
theorem frGo_le (v b : Int) : ∀ (l : List ByteArray) (t : ByteArray) (os : List Int), (frGo v b t os l).1.size ≤ t.size + 84 * l.length ∧ (frGo v b t os l).2.length = os.length + l.length
  | [], t, os => by simp [frGo]
  | r :: l, t, os => by
    have := frGo_le v b l (t ++ frameT v (b + os.length) r) (os ++ [(t.size : Int)])
    have h := frameT_le v (b + os.length) r
    rw [ByteArray.size_append, List.length_append, List.length_singleton] at this
    unfold frGo
    rw [List.length_cons]
    omega
def sealOk (v s b l : Int) (rs : List ByteArray) : Prop := headOk v s b l ∧ rs.length ≤ 1000 ∧ b + rs.length ≤ 1000000000 ∧ ∀ r ∈ rs, r.size ≤ 60
instance (v s b l : Int) (rs : List ByteArray) : Decidable (sealOk v s b l rs) := by unfold sealOk; infer_instance
def sealT (v s b l : Int) (rs : List ByteArray) : ByteArray :=
  if sealOk v s b l rs then (frGo v b (headT v s b l) [] rs).1 ++ footT v s b l (frGo v b (headT v s b l) [] rs).2 (frGo v b (headT v s b l) [] rs).1.size else ⟨#[]⟩
theorem headT_le (v s b l : Int) : (headT v s b l).size ≤ 46 := by
  unfold headT
  split
  · have h1 := hdBody_le v s b l
    have h2 := fixT_le (sumOf (hdBody v s b l)) 4
    rw [ByteArray.size_append]
    omega
  · exact Nat.zero_le _
theorem sealT_le (v s b l : Int) (rs : List ByteArray) : (sealT v s b l rs).size ≤ 100000 := by
  unfold sealT
  split
  · rename_i h
    obtain ⟨_, h1, _, _⟩ := h
    have h2 := frGo_le v b rs (headT v s b l) []
    have h3 := footT_le v s b l (frGo v b (headT v s b l) [] rs).2 (frGo v b (headT v s b l) [] rs).1.size
    have h4 := headT_le v s b l
    rw [ByteArray.size_append]
    simp only [List.length_nil] at h2
    omega
  · exact Nat.zero_le _
/-! ### scans, further -/
theorem endMark_ge (v p : Int) (hv : verOk v) (hp : numOk p) : 5 ≤ (endMark v p).size := by
  unfold endMark
  rw [if_pos ⟨hv, hp⟩]
  split
  · decide
  · rw [sizedT_size p 4294967295 (by decide) (by decide)]
    decide
theorem scan_bare (v s b l : Int) (hk : headOk v s b l) (x : ByteArray) (hx : x.size < 5) : scan (headT v s b l ++ x) = (true, v, s, b, l, [], [], 24, false) := by
  have hsz := headT_size v s b l hk
  have hb : (headT v s b l ++ x).size = 24 + x.size := by rw [ByteArray.size_append, hsz]
  have hm := rHead_mk v s b l hk x
  unfold scan
  rw [hm, if_pos rfl]
  dsimp only
  unfold scanGo
  have h1 : ¬ markAt v (b + (([] : List ByteArray).length : Int)) (headT v s b l ++ x) 24 = true := by
    unfold markAt
    rw [Bool.and_eq_true]
    rintro ⟨h2, h3⟩
    obtain ⟨_, h4, _⟩ := (hasAt_iff _ _ _).1 h3
    have h5 : (([] : List ByteArray).length : Int) = 0 := rfl
    have h6 := endMark_ge v (b + (([] : List ByteArray).length : Int)) hk.1 (by rw [h5, Int.add_zero]; exact hk.2.2.1)
    omega
  rw [if_neg h1]
  have h2 : ¬ (rFrame v (b + (([] : List ByteArray).length : Int)) (headT v s b l ++ x) 24).2.2 = true := by
    intro h3
    obtain ⟨_, _, _, _, _, _, h4, h5⟩ := rFrame_ok _ _ _ _ h3
    omega
  rw [if_neg h2]
end Go.Mth

/- What functions of the program and of the reference do, in plain values. -/
namespace Go.Pv
open Go.Proofs Go.Mth
set_option linter.unusedSimpArgs false
set_option linter.unusedVariables false
set_option maxHeartbeats 4000000

/-! ### bounds, sums, numbers in bytes -/
theorem spec_l01In (n lo hi : Int) : Fn Tryd.prog 25 [.int .i64 n, .int .i64 lo, .int .i64 hi] [] (.bool (decide (lo ≤ n ∧ n ≤ hi))) [] := by
  refine fn_x tok (n := 15) (rs := [.tmp 6]) Tryd.func25 (by decide) rfl rfl rfl rfl ?_
  (try simp (maxSteps := 1000000) (disch := first | omega | (simp only [LN, numOk, verOk] <;> omega) | exact Ck.mk rfl) only [VC, T, Nat.reduceMul, Nat.reduceAdd, Nat.reduceSub, Nat.reduceLT, Nat.reduceEqDiff, Nat.reduceLeDiff, Nat.reduceBEq, reduceCtorEq, Int.reduceToNat, ↓reduceIte])
  repeat' (first
    | (refine br_go (fun e f => ?_) (fun e f => ?_) <;> (try simp only [BB] at f) <;> (try simp only [numOk, verOk] at f) <;> (try simp (maxSteps := 1000000) (disch := first | omega | (simp only [LN, numOk, verOk] <;> omega) | exact Ck.mk rfl) only [e, VC, T, Nat.reduceMul, Nat.reduceAdd, Nat.reduceSub, Nat.reduceLT, Nat.reduceEqDiff, Nat.reduceLeDiff, Nat.reduceBEq, reduceCtorEq, Int.reduceToNat, ↓reduceIte]) <;> (try clear e))
    | (refine pick_go (fun e f => ?_) (fun e f => ?_) <;> (try simp only [BB] at f) <;> (try simp only [numOk, verOk] at f) <;> (try simp (maxSteps := 1000000) (disch := first | omega | (simp only [LN, numOk, verOk] <;> omega) | exact Ck.mk rfl) only [e, VC, T, Nat.reduceMul, Nat.reduceAdd, Nat.reduceSub, Nat.reduceLT, Nat.reduceEqDiff, Nat.reduceLeDiff, Nat.reduceBEq, reduceCtorEq, Int.reduceToNat, ↓reduceIte]) <;> (try clear e)))
  all_goals (simp [EQ, *] <;> omega)
theorem impl_within (n lo hi : Int) : Fn Tryd.prog 38 [.int .i64 n, .int .i64 lo, .int .i64 hi] [] (.bool (decide (lo ≤ n ∧ n ≤ hi))) [] := by
  refine fn_x tok (n := 15) (rs := [.tmp 6]) Tryd.func38 (by decide) rfl rfl rfl rfl ?_
  (try simp (maxSteps := 1000000) (disch := first | omega | (simp only [LN, numOk, verOk] <;> omega) | exact Ck.mk rfl) only [VC, T, Nat.reduceMul, Nat.reduceAdd, Nat.reduceSub, Nat.reduceLT, Nat.reduceEqDiff, Nat.reduceLeDiff, Nat.reduceBEq, reduceCtorEq, Int.reduceToNat, ↓reduceIte])
  repeat' (first
    | (refine br_go (fun e f => ?_) (fun e f => ?_) <;> (try simp only [BB] at f) <;> (try simp only [numOk, verOk] at f) <;> (try simp (maxSteps := 1000000) (disch := first | omega | (simp only [LN, numOk, verOk] <;> omega) | exact Ck.mk rfl) only [e, VC, T, Nat.reduceMul, Nat.reduceAdd, Nat.reduceSub, Nat.reduceLT, Nat.reduceEqDiff, Nat.reduceLeDiff, Nat.reduceBEq, reduceCtorEq, Int.reduceToNat, ↓reduceIte]) <;> (try clear e))
    | (refine pick_go (fun e f => ?_) (fun e f => ?_) <;> (try simp only [BB] at f) <;> (try simp only [numOk, verOk] at f) <;> (try simp (maxSteps := 1000000) (disch := first | omega | (simp only [LN, numOk, verOk] <;> omega) | exact Ck.mk rfl) only [e, VC, T, Nat.reduceMul, Nat.reduceAdd, Nat.reduceSub, Nat.reduceLT, Nat.reduceEqDiff, Nat.reduceLeDiff, Nat.reduceBEq, reduceCtorEq, Int.reduceToNat, ↓reduceIte]) <;> (try clear e)))
  all_goals (simp [EQ, *] <;> omega)
theorem impl_isNumber (n : Int) : Fn Tryd.prog 29 [.int .i64 n] [] (.bool (decide (numOk n))) [] := by
  refine fn_x tok (n := 5) (rs := [.tmp 2]) Tryd.func29 (by decide) rfl rfl rfl rfl ?_
  (try simp (maxSteps := 1000000) (disch := first | omega | (simp only [LN, numOk, verOk] <;> omega) | exact Ck.mk rfl) only [VC, T, Nat.reduceMul, Nat.reduceAdd, Nat.reduceSub, Nat.reduceLT, Nat.reduceEqDiff, Nat.reduceLeDiff, Nat.reduceBEq, reduceCtorEq, Int.reduceToNat, ↓reduceIte])
  repeat' (first
    | (refine br_go (fun e f => ?_) (fun e f => ?_) <;> (try simp only [BB] at f) <;> (try simp only [numOk, verOk] at f) <;> (try simp (maxSteps := 1000000) (disch := first | omega | (simp only [LN, numOk, verOk] <;> omega) | exact Ck.mk rfl) only [e, VC, T, Nat.reduceMul, Nat.reduceAdd, Nat.reduceSub, Nat.reduceLT, Nat.reduceEqDiff, Nat.reduceLeDiff, Nat.reduceBEq, reduceCtorEq, Int.reduceToNat, ↓reduceIte]) <;> (try clear e))
    | (refine pick_go (fun e f => ?_) (fun e f => ?_) <;> (try simp only [BB] at f) <;> (try simp only [numOk, verOk] at f) <;> (try simp (maxSteps := 1000000) (disch := first | omega | (simp only [LN, numOk, verOk] <;> omega) | exact Ck.mk rfl) only [e, VC, T, Nat.reduceMul, Nat.reduceAdd, Nat.reduceSub, Nat.reduceLT, Nat.reduceEqDiff, Nat.reduceLeDiff, Nat.reduceBEq, reduceCtorEq, Int.reduceToNat, ↓reduceIte]) <;> (try clear e))
    | ((first | refine call_x (impl_within _ _ _) rfl ⟨rfl⟩ ?_); (try simp (maxSteps := 1000000) (disch := first | omega | (simp only [LN, numOk, verOk] <;> omega) | exact Ck.mk rfl) only [VC, T, Nat.reduceMul, Nat.reduceAdd, Nat.reduceSub, Nat.reduceLT, Nat.reduceEqDiff, Nat.reduceLeDiff, Nat.reduceBEq, reduceCtorEq, Int.reduceToNat, ↓reduceIte])))
  all_goals rfl
theorem xor64c (a c : Nat) (C : Int) (hc : C = (c : Int)) (ha : a < 4294967296) (h : c < 4294967296) : Go.bits .xor .i64 a C = ((a ^^^ c : Nat) : Int) := by rw [hc]; exact xor64 a c ha h
theorem xor32c (a c : Nat) (C : Int) (hc : C = (c : Int)) (ha : a < 4294967296) (h : c < 4294967296) : Go.bits .xor .u32 a C = ((a ^^^ c : Nat) : Int) := by rw [hc]; exact xor32 a c ha h
theorem sb_step (n d : Nat) : stps (d + 1) n = stps d (stp n) := rfl
end Go.Pv

/- What functions of the program and of the reference do, in plain values. -/
namespace Go.Pv
open Go.Proofs Go.Mth
set_option linter.unusedSimpArgs false
set_option linter.unusedVariables false
set_option maxHeartbeats 4000000

/-! ### numbers in so many bytes, and in as few as can be -/
theorem shr8 (n : Int) : shr .i64 n 8 = n / 256 := by
  unfold shr
  rw [Int.fdiv_eq_ediv_of_nonneg _ (by decide)]; rfl
theorem shr7 (n : Int) : shr .i64 n 7 = n / 128 := by
  unfold shr
  rw [Int.fdiv_eq_ediv_of_nonneg _ (by decide)]; rfl
theorem shr_pow (n : Int) (d : Nat) (h : d ≤ 8) : shr .i64 n (8 * (d : Int)) = n / 256 ^ d := by
  unfold shr
  rw [show (8 * (d : Int)).toNat = 8 * d by omega, show IntKind.bits .i64 = 64 from rfl, Nat.min_eq_left (by omega), Int.pow_mul, Int.fdiv_eq_ediv_of_nonneg _ (Int.pow_nonneg (by decide))]
  rfl
theorem div_pow (n : Int) (i : Nat) : n / 256 ^ i / 256 = n / 256 ^ (i + 1) := by
  rw [Int.ediv_ediv_of_nonneg (Int.pow_nonneg (by decide)), Int.pow_succ]
def bytesOk (l : List Int) : Prop := ∀ x ∈ l, 0 ≤ x ∧ x < 256
theorem fixL_byte (d : Nat) (n : Int) : ∀ x ∈ fixL d n, 0 ≤ x ∧ x < 256 := fun x hx => by have := fixL_range d n x hx; omega
theorem fix_row (n : Int) (i w : Nat) (h : i < w) : (fixL i n ++ List.replicate (w - i) 0).set i (n / 256 ^ i % 256) = fixL (i + 1) n ++ List.replicate (w - (i + 1)) 0 := by
  obtain ⟨d, e⟩ : ∃ d, w - i = d + 1 := ⟨w - i - 1, by omega⟩
  rw [e, show w - (i + 1) = d by omega, List.set_append_right _ _ (by rw [fixL_length]; omega), fixL_length, Nat.sub_self, List.replicate_succ, fixL_snoc]
  simp
end Go.Pv

/- What functions of the program and of the reference do, in plain values. -/
namespace Go.Pv
open Go.Proofs Go.Mth
set_option linter.unusedSimpArgs false
set_option linter.unusedVariables false
set_option maxHeartbeats 4000000

/-! ### numbers read -/
theorem wsmall (n : Int) (h0 : -9223372036854775808 ≤ n) (h1 : n < 9223372036854775808) : IntKind.i64.wrap n = n := by rw [IntKind.wrap_i64]; omega
theorem acc_or (b : ByteArray) (a i : Nat) (hi : i ≤ 4) (h : a + i < b.size) :
    Go.bits .or .i64 (acc (seg b a i)) (shl .i64 (bt b ((a : Int) + i) % 128) (7 * (i : Int))) = acc (seg b a (i + 1)) := by
  have hl := seg_length b a i (by omega)
  have hr := acc_range (seg b a i)
  rw [hl] at hr
  have hp : (128 : Int) ^ i = 2 ^ (7 * i) := by rw [Int.pow_mul]; rfl
  rw [hp] at hr
  have h28 : (2 : Int) ^ (7 * i) ≤ 2 ^ 28 := by exact_mod_cast Nat.pow_le_pow_right (by decide : 0 < 2) (by omega : 7 * i ≤ 28)
  rw [← Int.natCast_add, shl7 _ i hi (by omega) (by omega), or_low (7 * i) _ _ hr.1 hr.2 (by omega) (by
    have h4 : bt b ((a + i : Nat) : Int) % 128 * 2 ^ (7 * i) ≤ 127 * 2 ^ 28 := Int.mul_le_mul (by omega) h28 (Int.pow_nonneg (by decide)) (by decide)
    omega) (by omega), seg_snoc b a i h, acc_snoc, hl, hp]
def rvP (x : Int × Int × Bool) : PV := .tup [.int .i64 x.1, .int .i64 x.2.1, .bool x.2.2]
theorem rvI_end (b : ByteArray) (a i : Nat) : rvI b a 0 i = (0, 0, false) := rfl
end Go.Pv

/- What functions of the program and of the reference do, in plain values. -/
namespace Go.Pv
open Go.Proofs Go.Mth
set_option linter.unusedSimpArgs false
set_option linter.unusedVariables false
set_option maxHeartbeats 4000000

/-! ### numbers of so many bytes, read -/
def rfP (x : Int × Bool) : PV := .tup [.int .i64 x.1, .bool x.2]
theorem shl_le (b : ByteArray) (a i w : Nat) (hi : i < w) (h8 : w ≤ 8) (ha : a + w ≤ b.size) :
    Go.bits .or .i64 (le (seg b a i)) (shl .i64 (bt b ((a : Int) + i)) (8 * (i : Int))) = if i < 7 ∨ bt b ((a : Int) + i) < 128 then le (seg b a (i + 1)) else le (seg b a (i + 1)) - 2 ^ 64 := by
  have hbr := bt_range b ((a : Int) + i)
  have hr := le_range (seg b a i) (seg_range _ _ _)
  have hl := seg_length b a i (by omega)
  rw [hl] at hr
  have hp : (256 : Int) ^ i = 2 ^ (8 * i) := by rw [Int.pow_mul]; rfl
  have hs : le (seg b a (i + 1)) = le (seg b a i) + bt b ((a : Int) + i) * 256 ^ i := by rw [seg_snoc b a i (by omega), le_snoc, hl, Int.natCast_add]
  by_cases h6 : i ≤ 6
  · rw [hp] at hr hs
    have h48 : (2 : Int) ^ (8 * i) ≤ 2 ^ 48 := by exact_mod_cast Nat.pow_le_pow_right (by decide : 0 < 2) (by omega : 8 * i ≤ 48)
    rw [shl8 _ i h6 (by omega) (by omega), or_low (8 * i) _ _ hr.1 hr.2 (by omega) (by
      have h4 : bt b ((a : Int) + i) * 2 ^ (8 * i) ≤ 255 * 2 ^ 48 := Int.mul_le_mul (by omega) h48 (Int.pow_nonneg (by decide)) (by decide)
      omega) (by omega), ← hs, if_pos (.inl (by omega))]
  · obtain rfl : i = 7 := by omega
    have h56 : (256 : Int) ^ 7 = 2 ^ 56 := by decide
    rw [h56] at hr hs
    rw [show (8 * ((7 : Nat) : Int)) = 56 by rfl, or_top _ _ hr.1 hr.2 hbr.1 (by omega), hs]
    by_cases h : bt b ((a : Int) + (7 : Nat)) < 128
    · rw [if_pos h, if_pos (.inr h)]
    · rw [if_neg h, if_neg (by omega)]
theorem le_lt (b : ByteArray) (a i : Nat) (ha : a + i ≤ b.size) (h : i ≤ 8) : 0 ≤ le (seg b a i) ∧ (i ≤ 7 → le (seg b a i) < 72057594037927936) ∧ le (seg b a i) < 18446744073709551616 := by
  have hr := le_range (seg b a i) (seg_range _ _ _)
  rw [seg_length b a i ha] at hr
  have h8 : (256 : Int) ^ i ≤ 256 ^ 8 := pow_mono 256 (by decide) h
  have e8 : (256 : Int) ^ 8 = 18446744073709551616 := by decide
  refine ⟨hr.1, fun h7 => ?_, by omega⟩
  have h7' : (256 : Int) ^ i ≤ 256 ^ 7 := pow_mono 256 (by decide) h7
  have e7 : (256 : Int) ^ 7 = 72057594037927936 := by decide
  omega
theorem le_top8 (b : ByteArray) (a : Nat) (ha : a + 8 ≤ b.size) : le (seg b a 8) = le (seg b a 7) + bt b ((a : Int) + 7) * 72057594037927936 := by
  rw [seg_snoc b a 7 (by omega), le_snoc, seg_length b a 7 (by omega), Int.natCast_add]; rfl
theorem le_top (b : ByteArray) (a w : Nat) (ha : a + w ≤ b.size) (i : Nat) (hi : i ≤ w) : le (seg b (a + i) (w - i)) ≤ le (seg b a w) := by
  induction i with
  | zero => exact Int.le_refl _
  | succ i ih =>
    have h1 := ih (by omega)
    have e : w - i = (w - (i + 1)) + 1 := by omega
    rw [e, seg_cons b (a + i) (w - (i + 1)) (by omega)] at h1
    have hbr := bt_range b ((a + i : Nat) : Int)
    have hr := le_range (seg b (a + i + 1) (w - (i + 1))) (seg_range _ _ _)
    simp only [le] at h1
    rw [show a + (i + 1) = a + i + 1 by omega]
    omega
theorem shl_1 (n : Int) (h0 : 0 ≤ n) (h1 : n * 256 < 9223372036854775808) : shl .i64 n 8 = n * 256 := by
  unfold shl
  rw [show min (8 : Int).toNat IntKind.i64.bits = 8 by rfl, wsmall _ (by omega) (by omega)]
  rfl
end Go.Pv

/- What functions of the program and of the reference do, in plain values. -/
namespace Go.Pv
open Go.Proofs Go.Mth
set_option linter.unusedSimpArgs false
set_option linter.unusedVariables false
set_option maxHeartbeats 4000000

/-! ### heads and links -/
def rhP (x : Int × Int × Int × Int × Bool) : PV := .tup [.agg [.int .i64 x.1, .int .i64 x.2.1, .int .i64 x.2.2.1, .int .i64 x.2.2.2.1], .bool x.2.2.2.2]
theorem sumOf_lt (t : ByteArray) : sumOf t < 9223372036854775808 := by have := (sumMore_range 0 t).2; unfold sumOf; omega
theorem size_mk (l : List UInt8) : ByteArray.size ⟨l.toArray⟩ = l.length := by simp [ByteArray.size]
theorem hdT_no {v s b l : Int} (h : ¬ headOk v s b l) : headT v s b l = ⟨#[]⟩ := if_neg h
theorem hdT_ok {v s b l : Int} (h : headOk v s b l) : headT v s b l = hdBody v s b l ++ fixT (sumOf (hdBody v s b l)) 4 := if_pos h
theorem rHead_no {b : ByteArray} (h : b.size < 24) : rHead b = (0, 0, 0, 0, false) := if_pos h
theorem rfix_lt (b : ByteArray) (a w : Int) : (rfix b a w).1 < 9223372036854775808 := (rfix_range b a w).2
theorem linkAll_snoc (l : Int) (rs : List ByteArray) (i : Nat) (h : i < rs.length) : linkMore (linkAll l (rs.take i)) (rs.getD i default) = linkAll l (rs.take (i + 1)) := by
  unfold linkAll
  rw [take_snoc default rs i h, List.foldl_append]
  rfl
theorem getD_mem {α : Type} [Inhabited α] (l : List α) (i : Nat) (h : i < l.length) : l.getD i default ∈ l := by
  rw [List.getD_eq_getElem?_getD, List.getElem?_eq_getElem h]; exact List.getElem_mem h
end Go.Pv

/- What functions of the program and of the reference do, in plain values. -/
namespace Go.Pv
open Go.Proofs Go.Mth
set_option linter.unusedSimpArgs false
set_option linter.unusedVariables false
set_option maxHeartbeats 4000000

/-! ### frames -/
theorem varT_size0 (n : Int) : (varT n).size = 0 ↔ ¬ (0 ≤ n ∧ n ≤ 1000000000) := by
  constructor
  · intro h k; have := varT_pos n k.1 k.2; omega
  · intro h; unfold varT; rw [if_pos (by omega)]; rfl
theorem stringslite_HasPrefix (s p : ByteArray) : Fn Tryd.prog 54 [.str s, .str p] [] (.bool (decide (p.size ≤ s.size ∧ s.extract 0 p.size = p))) [] := by
  refine fn_x tok (n := 18) (rs := [.tmp 4]) Tryd.func54 (by decide) rfl rfl rfl rfl ?_
  (try simp (maxSteps := 1000000) (disch := first | omega | (simp only [LN, numOk, verOk, rfP, rvP, rhP] <;> omega) | exact Ck.mk rfl) only [VC, T, Nat.reduceMul, Nat.reduceAdd, Nat.reduceSub, Nat.reduceLT, Nat.reduceEqDiff, Nat.reduceLeDiff, Nat.reduceBEq, reduceCtorEq, Int.reduceToNat, ↓reduceIte, rfP, rvP, rhP])
  repeat' (first
    | (refine br_go (fun e f => ?_) (fun e f => ?_) <;> (try simp only [BB] at f) <;> (try simp only [numOk, verOk] at f) <;> (try simp (maxSteps := 1000000) (disch := first | omega | (simp only [LN, numOk, verOk, rfP, rvP, rhP] <;> omega) | exact Ck.mk rfl) only [e, VC, T, Nat.reduceMul, Nat.reduceAdd, Nat.reduceSub, Nat.reduceLT, Nat.reduceEqDiff, Nat.reduceLeDiff, Nat.reduceBEq, reduceCtorEq, Int.reduceToNat, ↓reduceIte, rfP, rvP, rhP]) <;> (try clear e))
    | (refine pick_go (fun e f => ?_) (fun e f => ?_) <;> (try simp only [BB] at f) <;> (try simp only [numOk, verOk] at f) <;> (try simp (maxSteps := 1000000) (disch := first | omega | (simp only [LN, numOk, verOk, rfP, rvP, rhP] <;> omega) | exact Ck.mk rfl) only [e, VC, T, Nat.reduceMul, Nat.reduceAdd, Nat.reduceSub, Nat.reduceLT, Nat.reduceEqDiff, Nat.reduceLeDiff, Nat.reduceBEq, reduceCtorEq, Int.reduceToNat, ↓reduceIte, rfP, rvP, rhP]) <;> (try clear e)))
  have h : ¬ p.size ≤ s.size := by omega
  simp [h]
theorem strings_HasPrefix (s p : ByteArray) : Fn Tryd.prog 41 [.str s, .str p] [] (.bool (decide (p.size ≤ s.size ∧ s.extract 0 p.size = p))) [] := by
  refine fn_x tok (n := 8) (rs := [.tmp 4]) Tryd.func41 (by decide) rfl rfl rfl rfl ?_
  (try simp (maxSteps := 1000000) (disch := first | omega | (simp only [LN, numOk, verOk, rfP, rvP, rhP] <;> omega) | exact Ck.mk rfl) only [VC, T, Nat.reduceMul, Nat.reduceAdd, Nat.reduceSub, Nat.reduceLT, Nat.reduceEqDiff, Nat.reduceLeDiff, Nat.reduceBEq, reduceCtorEq, Int.reduceToNat, ↓reduceIte, rfP, rvP, rhP])
  repeat' (first
    | (refine br_go (fun e f => ?_) (fun e f => ?_) <;> (try simp only [BB] at f) <;> (try simp only [numOk, verOk] at f) <;> (try simp (maxSteps := 1000000) (disch := first | omega | (simp only [LN, numOk, verOk, rfP, rvP, rhP] <;> omega) | exact Ck.mk rfl) only [e, VC, T, Nat.reduceMul, Nat.reduceAdd, Nat.reduceSub, Nat.reduceLT, Nat.reduceEqDiff, Nat.reduceLeDiff, Nat.reduceBEq, reduceCtorEq, Int.reduceToNat, ↓reduceIte, rfP, rvP, rhP]) <;> (try clear e))
    | (refine pick_go (fun e f => ?_) (fun e f => ?_) <;> (try simp only [BB] at f) <;> (try simp only [numOk, verOk] at f) <;> (try simp (maxSteps := 1000000) (disch := first | omega | (simp only [LN, numOk, verOk, rfP, rvP, rhP] <;> omega) | exact Ck.mk rfl) only [e, VC, T, Nat.reduceMul, Nat.reduceAdd, Nat.reduceSub, Nat.reduceLT, Nat.reduceEqDiff, Nat.reduceLeDiff, Nat.reduceBEq, reduceCtorEq, Int.reduceToNat, ↓reduceIte, rfP, rvP, rhP]) <;> (try clear e))
    | ((first | refine call_x (stringslite_HasPrefix _ _) rfl ⟨rfl⟩ ?_); (try simp (maxSteps := 1000000) (disch := first | omega | (simp only [LN, numOk, verOk, rfP, rvP, rhP] <;> omega) | exact Ck.mk rfl) only [VC, T, Nat.reduceMul, Nat.reduceAdd, Nat.reduceSub, Nat.reduceLT, Nat.reduceEqDiff, Nat.reduceLeDiff, Nat.reduceBEq, reduceCtorEq, Int.reduceToNat, ↓reduceIte, rfP, rvP, rhP])))
theorem hasPre_at (b : ByteArray) (a : Int) (t : ByteArray) (h0 : 0 ≤ a) (h1 : a ≤ b.size) : decide (t.size ≤ (b.extract a.toNat b.size).size ∧ (b.extract a.toNat b.size).extract 0 t.size = t) = hasAt b a t := by
  unfold hasAt
  rw [decide_eq_decide, ByteArray.size_extract, ByteArray.extract_extract]
  by_cases hs : a + t.size ≤ (b.size : Int)
  · rw [show min (a.toNat + t.size) b.size = a.toNat + t.size by omega]
    constructor
    · rintro ⟨_, h2⟩
      exact ⟨h0, hs, by simpa using h2⟩
    · rintro ⟨_, _, h2⟩
      exact ⟨by omega, by simpa using h2⟩
  · exact ⟨fun h' => absurd h'.1 (by omega), fun h' => absurd h'.2.1 hs⟩
theorem hasAt_no (b : ByteArray) (a : Int) (t : ByteArray) (h : ¬ (0 ≤ a ∧ a ≤ b.size)) : hasAt b a t = false := by
  unfold hasAt
  rw [decide_eq_false_iff_not]
  intro k; omega
theorem markAt_0 {v p : Int} {b : ByteArray} {a : Int} (h : (endMark v p).size = 0) : markAt v p b a = false := by unfold markAt; simp [h]
theorem markAt_1 {v p : Int} {b : ByteArray} {a : Int} (h : ¬ (endMark v p).size = 0) : markAt v p b a = hasAt b a (endMark v p) := by unfold markAt; simp [h]
theorem rvI_no (b : ByteArray) (a : Nat) : ∀ (d i : Nat), (rvI b a d i).2.2 = false → rvI b a d i = (0, 0, false)
  | 0, i, _ => rfl
  | d + 1, i, h => by
    unfold rvI at h ⊢
    split at h
    · rename_i h1
      rw [if_pos h1]
      split at h
      · rename_i h2
        rw [if_pos h2]; exact rvI_no b a d (i + 1) h
      · rename_i h2
        rw [if_neg h2]
        split at h
        · rename_i h3; rw [if_pos h3]
        · cases h
    · rename_i h1; rw [if_neg h1]
theorem rv_any (b : ByteArray) (a : Int) : 0 ≤ (rv b a).1 ∧ (rv b a).1 ≤ 1000000000 ∧ 0 ≤ (rv b a).2.1 ∧ (rv b a).2.1 ≤ b.size := by
  cases h : (rv b a).2.2 with
  | true => have := rv_range b a h; omega
  | false =>
    have : rv b a = (0, 0, false) := by
      unfold rv at h ⊢
      split
      · rename_i h0; rw [if_pos h0] at h; exact rvI_no b _ _ _ h
      · rfl
    rw [this]; simp
def frP (x : ByteArray × Int × Bool) : PV := .tup [.str x.1, .int .i64 x.2.1, .bool x.2.2]
theorem rFrameQ_no {v p : Int} {b : ByteArray} {a : Int} {q : Int × Int × Bool} (h : ¬ ((verOk v ∧ numOk p ∧ 0 ≤ a ∧ a ≤ b.size) ∧ q.2.2 = true ∧ q.1 ≤ 60 ∧ q.2.1 + q.1 ≤ b.size ∧ hasAt b a (frameT v p (b.extract q.2.1.toNat (q.2.1 + q.1).toNat)) = true)) : rFrameQ v p b a q = (⟨#[]⟩, 0, false) := if_neg h
theorem rFrameQ_ok {v p : Int} {b : ByteArray} {a : Int} {q : Int × Int × Bool} (h : (verOk v ∧ numOk p ∧ 0 ≤ a ∧ a ≤ b.size) ∧ q.2.2 = true ∧ q.1 ≤ 60 ∧ q.2.1 + q.1 ≤ b.size ∧ hasAt b a (frameT v p (b.extract q.2.1.toNat (q.2.1 + q.1).toNat)) = true) : rFrameQ v p b a q = (b.extract q.2.1.toNat (q.2.1 + q.1).toNat, a + ((frameT v p (b.extract q.2.1.toNat (q.2.1 + q.1).toNat)).size : Int), true) := if_pos h
theorem rfix_ok4 {b : ByteArray} {a : Int} (h : (rfix b a 4).2 = true) : 0 ≤ a ∧ a ≤ (b.size : Int) - 4 := by
  unfold rfix at h
  split at h
  · rename_i h1; exact h1.2
  · cases h
theorem frameT_pos' (v p : Int) (r : ByteArray) (hr : r.size ≤ 60) (h : ¬ (frameT v p r).size = 0) : verOk v ∧ numOk p := by
  by_cases hx : verOk v ∧ numOk p ∧ r.size ≤ 60
  · exact ⟨hx.1, hx.2.1⟩
  · exfalso
    apply h
    unfold frameT
    rw [if_neg hx]
    rfl
end Go.Pv

/- What functions of the program and of the reference do, in plain values. -/
namespace Go.Pv
open Go.Proofs Go.Mth
set_option linter.unusedSimpArgs false
set_option linter.unusedVariables false
set_option maxHeartbeats 4000000

/-! ### trailers -/
theorem trailGo_step (acc : ByteArray) (l : List Int) (i : Nat) (h : i < l.length) : trailGo acc (l.drop i) = if (fixT (l.getD i default) 4).size = 0 then ⟨#[]⟩ else trailGo (acc ++ fixT (l.getD i default) 4) (l.drop (i + 1)) := by
  rw [List.drop_eq_getElem_cons h, List.getD_eq_getElem?_getD, List.getElem?_eq_getElem h]; rfl
def rTrailer (b : ByteArray) : Int × Int × Int × Int × Bool :=
  if 20 ≤ b.size ∧ b.extract (b.size - 4) b.size = ⟨#[73, 68, 88, 33]⟩ then ((rfix b (b.size - 20) 4).1, (rfix b (b.size - 16) 4).1, (rfix b (b.size - 12) 4).1, (rfix b (b.size - 8) 4).1, true) else (0, 0, 0, 0, false)
def tv (b : ByteArray) (j i : Nat) : Int := if j < i then (rfix b (b.size - 20 + 4 * (j : Int)) 4).1 else 0
def rtP (t : Int × Int × Int × Int × Bool) : PV := .tup [.int .i64 t.1, .int .i64 t.2.1, .int .i64 t.2.2.1, .int .i64 t.2.2.2.1, .bool t.2.2.2.2]
end Go.Pv

/- What functions of the program and of the reference do, in plain values. -/
namespace Go.Pv
open Go.Proofs Go.Mth
set_option linter.unusedSimpArgs false
set_option linter.unusedVariables false
set_option maxHeartbeats 4000000

/-! ### places -/
def plP (p : Int × Int) : PV := .agg [.int .i64 p.1, .int .i64 p.2]
theorem plP_len (ps : List (Int × Int)) (i : Nat) : (flat ((ps.map plP).getD i .junk)).length = if i < ps.length then 2 else 1 := by
  rw [List.getD_eq_getElem?_getD, List.getElem?_map]
  by_cases h : i < ps.length
  · rw [List.getElem?_eq_getElem h, if_pos h]; rfl
  · rw [List.getElem?_eq_none (by omega), if_neg h]; rfl
theorem plc_step (s : Int) (os : List Int) (i : Nat) (h : i < os.length) : plc (fun a b => (a, b)) s (os.drop i) i = if (i : Int) % s = 0 then ((i : Int), os.getD i default) :: plc (fun a b => (a, b)) s (os.drop (i + 1)) (i + 1) else plc (fun a b => (a, b)) s (os.drop (i + 1)) (i + 1) := by
  rw [List.drop_eq_getElem_cons h, List.getD_eq_getElem?_getD, List.getElem?_eq_getElem h]; rfl
theorem placesP_le (s : Int) (os : List Int) : (placesP s os).length ≤ os.length := by
  unfold placesP placesOf
  split
  · simp
  · exact plc_length _ _ _ _
theorem upT_no {a b : Int} (h : ¬ (b ≤ a ∧ a - b ≤ 1000000000)) : upT a b = ⟨#[]⟩ := if_neg h
theorem upT_ok {a b : Int} (h : b ≤ a ∧ a - b ≤ 1000000000) : upT a b = varT (a - b) := if_pos h
theorem varT_if (a b : Int) : varT (if b ≤ a then a - b else -1) = upT a b := by
  by_cases h : b ≤ a
  · rw [if_pos h]
    by_cases h2 : a - b ≤ 1000000000
    · rw [upT_ok ⟨h, h2⟩]
    · rw [upT_no fun x => h2 x.2]; unfold varT; rw [if_pos (.inr (by omega))]
  · rw [if_neg h, upT_no fun x => h x.1]; rfl
theorem plGo_step (ps : List (Int × Int)) (i : Nat) (h : i < ps.length) (o : ByteArray) (lc la : Int) : plGo o lc la (ps.drop i) = if (upT (ps.getD i default).1 lc).size = 0 ∨ (upT (ps.getD i default).2 la).size = 0 then ⟨#[]⟩ else plGo (o ++ upT (ps.getD i default).1 lc ++ upT (ps.getD i default).2 la) (ps.getD i default).1 (ps.getD i default).2 (ps.drop (i + 1)) := by
  rw [List.drop_eq_getElem_cons h, List.getD_eq_getElem?_getD, List.getElem?_eq_getElem h]; rfl
def i64 (x : Int) : Prop := -9223372036854775808 ≤ x ∧ x ≤ 9223372036854775807
end Go.Pv

/- Plain mathematics, fifth part: texts back from scans, scans of frames, sealed files. No program in it. -/
namespace Go.Mth
open Go.RowKit
set_option linter.unusedVariables false
set_option linter.unusedSimpArgs false

/-! ### frames -/
theorem frGo_snoc (v b : Int) : ∀ (l : List ByteArray) (t : ByteArray) (os : List Int) (r : ByteArray), frGo v b t os (l ++ [r]) = ((frGo v b t os l).1 ++ frameT v (b + (frGo v b t os l).2.length) r, (frGo v b t os l).2 ++ [((frGo v b t os l).1.size : Int)])
  | [], t, os, r => rfl
  | x :: l, t, os, r => by
    rw [List.cons_append]
    show frGo v b (t ++ frameT v (b + os.length) x) (os ++ [(t.size : Int)]) (l ++ [r]) = _
    rw [frGo_snoc v b l]; rfl
theorem frGo_pre (v b : Int) : ∀ (l : List ByteArray) (t : ByteArray) (os : List Int), ∃ z o, (frGo v b t os l).1 = t ++ z ∧ (frGo v b t os l).2 = os ++ o
  | [], t, os => ⟨⟨#[]⟩, [], (ByteArray.append_empty).symm, (List.append_nil _).symm⟩
  | x :: l, t, os => by
    obtain ⟨z, o, h1, h2⟩ := frGo_pre v b l (t ++ frameT v (b + os.length) x) (os ++ [(t.size : Int)])
    exact ⟨frameT v (b + os.length) x ++ z, [(t.size : Int)] ++ o, by show (frGo v b (t ++ frameT v (b + os.length) x) (os ++ [(t.size : Int)]) l).1 = _; rw [h1, ByteArray.append_assoc], by show (frGo v b (t ++ frameT v (b + os.length) x) (os ++ [(t.size : Int)]) l).2 = _; rw [h2, List.append_assoc]⟩
theorem extract_hasAt (b : ByteArray) (a : Int) (t : ByteArray) (h : hasAt b a t = true) : b.extract 0 (a.toNat + t.size) = b.extract 0 a.toNat ++ t := by
  obtain ⟨h0, h1, h2⟩ := (hasAt_iff _ _ _).1 h
  apply bytesOf_inj
  have e := congrArg bytesOf h2
  rw [bytesOf_extract] at e
  rw [bytesOf_append, bytesOf_extract, bytesOf_extract, ← e, List.drop_zero, List.drop_zero]
  have k := (List.take_append_drop a.toNat ((bytesOf b).take (a.toNat + t.size))).symm
  rw [List.take_take, Nat.min_eq_left (by omega)] at k
  exact k

/-! ### texts back from scans -/
theorem scanGo_text (v base : Int) (hd b : ByteArray) : ∀ (d : Nat) (rs : List ByteArray) (os : List Int) (e : Int), 0 ≤ e → rs.length = os.length → frGo v base hd [] rs = (b.extract 0 e.toNat, os) → e ≤ b.size →
    frGo v base hd [] (scanGo v base b d rs os e).1 = (b.extract 0 (scanGo v base b d rs os e).2.2.1.toNat, (scanGo v base b d rs os e).2.1)
  | 0, rs, os, e, _, _, h, _ => h
  | d + 1, rs, os, e, h0, hl, h, he => by
    unfold scanGo
    split
    · exact h
    · split
      · rename_i hf
        obtain ⟨_, _, k0, k1, k2, k3, k4, k5⟩ := rFrame_ok _ _ _ _ hf
        refine scanGo_text v base hd b d _ _ _ (by omega) (by simp [hl]) ?_ k5
        rw [frGo_snoc, h]
        simp only
        rw [← hl, k2, Int.toNat_add k0 (by omega), Int.toNat_natCast, extract_hasAt b e _ k3]
        congr 2
        rw [ByteArray.size_extract]
        have : min e.toNat b.size - 0 = e.toNat := by omega
        rw [this]
        simp [Int.toNat_of_nonneg h0]
      · exact h
theorem scan_text (b : ByteArray) (h : (scan b).1 = true) : frGo (scan b).2.1 (scan b).2.2.2.1 (headT (scan b).2.1 (scan b).2.2.1 (scan b).2.2.2.1 (scan b).2.2.2.2.1) [] (scan b).2.2.2.2.2.1 = (b.extract 0 (scan b).2.2.2.2.2.2.2.1.toNat, (scan b).2.2.2.2.2.2.1) := by
  unfold scan at h ⊢
  split at h
  · rename_i h1
    rw [if_pos h1]
    obtain ⟨k1, k2, k3⟩ := rHead_ok b h1
    exact scanGo_text _ _ _ b _ [] [] 24 (by decide) rfl (by rw [k3]; rfl) (by omega)
  · cases h

/-! ### scans of frames -/
theorem var_255 : ∀ n : Fin 61, varT (n.val : Int) ≠ ⟨#[255]⟩ ∧ (varT (n.val : Int)).size = 1 := by decide +kernel
theorem noMark (v p : Int) (r x y : ByteArray) (hv : verOk v) (hp : numOk p) (hr : r.size ≤ 60) : markAt v p (x ++ frameT v p r ++ y) x.size = false := by
  rw [Bool.eq_false_iff]
  intro h
  unfold markAt at h
  rw [Bool.and_eq_true] at h
  have h2 := h.2
  unfold frameT at h2
  rw [if_pos ⟨hv, hp, hr⟩] at h2
  unfold endMark at h2
  rw [if_pos (⟨hv, hp⟩ : verOk v ∧ numOk p)] at h2
  by_cases h1 : v = 1
  · rw [if_pos h1, if_pos h1] at h2
    obtain ⟨k1, k2⟩ := var_255 ⟨r.size, by omega⟩
    refine k1 (hasAt_head (varT r.size) (r ++ fixT (sumOf r) 4 ++ y) ⟨#[255]⟩ 1 k2 rfl x ⟨#[255, 255, 255, 15]⟩ x.size rfl ?_)
    have e1 : (⟨#[255]⟩ : ByteArray) ++ ⟨#[255, 255, 255, 15]⟩ = ⟨#[255, 255, 255, 255, 15]⟩ := rfl
    rw [e1]
    simpa only [ByteArray.append_assoc] using h2
  · rw [if_neg h1, if_neg h1] at h2
    have e := hasAt_head (fixT r.size 4) (fixT (sumOf (fixT p 8 ++ fixT r.size 4)) 4 ++ r ++ fixT (sumOf r) 4 ++ y) (fixT 4294967295 4) 4 (fixT4_size _ (by omega) (by omega)) (fixT4_size _ (by decide) (by decide)) x (fixT (sumOf (fixT p 8 ++ fixT 4294967295 4)) 4) x.size rfl (by
      unfold sizedT at h2
      simpa only [ByteArray.append_assoc] using h2)
    have := fixT_inj4 r.size 4294967295 (by omega) (by omega) (by decide) (by decide) e
    omega
theorem scanGo_frames (v base : Int) (hv : verOk v) (y : ByteArray) : ∀ (l : List ByteArray) (t : ByteArray) (os : List Int) (rs : List ByteArray) (d : Nat), rs.length = os.length → 0 ≤ base → base + (os.length + l.length) ≤ 1000000000 → (∀ r ∈ l, r.size ≤ 60) →
    scanGo v base ((frGo v base t os l).1 ++ y) (d + l.length) rs os t.size = scanGo v base ((frGo v base t os l).1 ++ y) d (rs ++ l) (frGo v base t os l).2 ((frGo v base t os l).1.size : Int)
  | [], t, os, rs, d, _, _, _, _ => by simp [frGo]
  | r :: l, t, os, rs, d, hl, hb, hn, hr => by
    have hp : numOk (base + (os.length : Int)) := ⟨by omega, by rw [List.length_cons] at hn; omega⟩
    obtain ⟨z, o, h1, h2⟩ := frGo_pre v base l (t ++ frameT v (base + os.length) r) (os ++ [(t.size : Int)])
    have e : frGo v base t os (r :: l) = frGo v base (t ++ frameT v (base + os.length) r) (os ++ [(t.size : Int)]) l := rfl
    rw [e]
    have hb1 : (frGo v base (t ++ frameT v (base + os.length) r) (os ++ [(t.size : Int)]) l).1 ++ y = t ++ frameT v (base + os.length) r ++ (z ++ y) := by rw [h1, ByteArray.append_assoc]
    have ih := scanGo_frames v base hv y l (t ++ frameT v (base + os.length) r) (os ++ [(t.size : Int)]) (rs ++ [r]) d (by simp [hl]) hb (by rw [List.length_append, List.length_singleton]; rw [List.length_cons] at hn; omega) (fun x hx => hr x (List.mem_cons_of_mem _ hx))
    rw [show d + (r :: l).length = (d + l.length) + 1 by rw [List.length_cons]; omega]
    have hm := noMark v (base + os.length) r t (z ++ y) hv hp (hr r List.mem_cons_self)
    have hf := rFrame_mid v (base + os.length) r t (z ++ y) hv hp (hr r List.mem_cons_self)
    rw [scanGo, hl, hb1, hm, if_neg (by decide), hf, if_pos rfl]
    rw [hb1] at ih
    rw [ByteArray.size_append, Int.natCast_add] at ih
    rw [ih, List.append_assoc]; rfl
theorem scan_frames (v s b l : Int) (rs : List ByteArray) (y : ByteArray) (hk : headOk v s b l) (hn : b + rs.length ≤ 1000000000) (hr : ∀ r ∈ rs, r.size ≤ 60) :
    ∃ d, scan ((frGo v b (headT v s b l) [] rs).1 ++ y) = (true, v, s, b, l, scanGo v b ((frGo v b (headT v s b l) [] rs).1 ++ y) (d + 1) rs (frGo v b (headT v s b l) [] rs).2 ((frGo v b (headT v s b l) [] rs).1.size : Int)) := by
  obtain ⟨z, o, h1, h2⟩ := frGo_pre v b rs (headT v s b l) []
  have hsz := headT_size v s b l hk
  have hle : rs.length ≤ z.size := by
    have : ∀ (l : List ByteArray) (t : ByteArray) (os : List Int), b + (os.length + l.length) ≤ 1000000000 → (∀ r ∈ l, r.size ≤ 60) → t.size + l.length ≤ (frGo v b t os l).1.size := fun l => by
      induction l with
      | nil => intro t os _ _; exact Nat.le_refl _
      | cons r l ih =>
        intro t os h3 h4
        have h5 := ih (t ++ frameT v (b + os.length) r) (os ++ [(t.size : Int)]) (by rw [List.length_append, List.length_singleton]; rw [List.length_cons] at h3; omega) (fun x hx => h4 x (List.mem_cons_of_mem _ hx))
        have h6 := frameT_pos v (b + os.length) r hk.1 ⟨by have := hk.2.2.1.1; omega, by rw [List.length_cons] at h3; omega⟩ (h4 r List.mem_cons_self)
        rw [ByteArray.size_append] at h5
        show _ ≤ (frGo v b (t ++ frameT v (b + os.length) r) (os ++ [(t.size : Int)]) l).1.size
        rw [List.length_cons]
        omega
    have h3 := this rs (headT v s b l) [] (by simp only [List.length_nil]; omega) hr
    rw [h1, ByteArray.size_append] at h3
    omega
  have hmk := rHead_mk v s b l hk (z ++ y)
  refine ⟨((frGo v b (headT v s b l) [] rs).1 ++ y).size - rs.length, ?_⟩
  have e : (frGo v b (headT v s b l) [] rs).1 ++ y = headT v s b l ++ (z ++ y) := by rw [h1, ByteArray.append_assoc]
  unfold scan
  rw [e, hmk, if_pos rfl, ← e]
  dsimp only
  have ht := scanGo_frames v b hk.1 y rs (headT v s b l) [] [] (((frGo v b (headT v s b l) [] rs).1 ++ y).size - rs.length + 1) rfl hk.2.2.1.1 (by simp only [List.length_nil]; omega) hr
  have h24 : (((headT v s b l).size : Nat) : Int) = 24 := by rw [hsz]; rfl
  rw [h24] at ht
  have hsz2 : rs.length ≤ ((frGo v b (headT v s b l) [] rs).1 ++ y).size := by rw [h1, ByteArray.size_append, ByteArray.size_append]; omega
  rw [show ((frGo v b (headT v s b l) [] rs).1 ++ y).size - rs.length + 1 + rs.length = ((frGo v b (headT v s b l) [] rs).1 ++ y).size + 1 by omega] at ht
  rw [ht]; rfl
/-- A mark stands behind the frames. -/
theorem scan_marked (v s b l : Int) (rs : List ByteArray) (y : ByteArray) (hk : headOk v s b l) (hn : b + rs.length ≤ 1000000000) (hr : ∀ r ∈ rs, r.size ≤ 60) (x : ByteArray) (hy : y = endMark v (b + rs.length) ++ x) :
    scan ((frGo v b (headT v s b l) [] rs).1 ++ y) = (true, v, s, b, l, rs, (frGo v b (headT v s b l) [] rs).2, ((frGo v b (headT v s b l) [] rs).1.size : Int), true) := by
  obtain ⟨d, h⟩ := scan_frames v s b l rs y hk hn hr
  rw [h]
  have hp : numOk (b + (rs.length : Int)) := ⟨by have := hk.2.2.1.1; omega, hn⟩
  have hm : markAt v (b + rs.length) ((frGo v b (headT v s b l) [] rs).1 ++ y) ((frGo v b (headT v s b l) [] rs).1.size : Int) = true := by
    unfold markAt
    have := endMark_ge v (b + rs.length) hk.1 hp
    rw [Bool.and_eq_true]
    refine ⟨decide_eq_true (by omega), ?_⟩
    rw [hy, ← ByteArray.append_assoc]
    exact hasAt_mid _ _ _
  rw [scanGo, hm, if_pos rfl]

/-! ### feet are there -/
def okO : Int → List Int → Prop
  | _, [] => True
  | a, x :: l => a ≤ x ∧ x ≤ 1000000000 ∧ okO x l
def okP : Int → Int → List (Int × Int) → Prop
  | _, _, [] => True
  | c, a, p :: l => c ≤ p.1 ∧ p.1 ≤ 1000000000 ∧ a ≤ p.2 ∧ p.2 ≤ 1000000000 ∧ okP p.1 p.2 l
theorem okO_le {a a' : Int} (h : a' ≤ a) : ∀ {l : List Int}, okO a l → okO a' l
  | [], _ => trivial
  | x :: l, ⟨h1, h2, h3⟩ => ⟨by omega, h2, h3⟩
theorem okP_le {c c' a a' : Int} (h : c' ≤ c) (h' : a' ≤ a) : ∀ {l : List (Int × Int)}, okP c a l → okP c' a' l
  | [], _ => trivial
  | x :: l, ⟨h1, h2, h3, h4, h5⟩ => ⟨by omega, h2, by omega, h4, h5⟩
theorem okP_cons {c a : Int} {p : Int × Int} {l : List (Int × Int)} (h1 : c ≤ p.1) (h2 : p.1 ≤ 1000000000) (h3 : a ≤ p.2) (h4 : p.2 ≤ 1000000000) (h5 : okP p.1 p.2 l) : okP c a (p :: l) := ⟨h1, h2, h3, h4, h5⟩
theorem okO_out {a x : Int} {l : List Int} (h : okO a (x :: l)) : a ≤ x ∧ x ≤ 1000000000 ∧ okO x l := h
theorem plc_ok (s : Int) (l : List Int) : ∀ (i : Nat) (a : Int), okO a l → (i : Int) + (l.length : Int) ≤ 1000000000 → okP i a (plc (fun a b => (a, b)) s l i) := by
  induction l with
  | nil => intro i a _ _; exact trivial
  | cons x l ih =>
    intro i a h hi
    obtain ⟨h1, h2, h3⟩ := okO_out h
    rw [List.length_cons] at hi
    have ih := ih (i + 1) x h3 (by omega)
    unfold plc
    split
    · exact okP_cons (Int.le_refl _) (by simp only; omega) h1 h2 (okP_le (by simp only; omega) (Int.le_refl _) ih)
    · exact okP_le (by omega) h1 ih
theorem upT_pos (a b : Int) (h : b ≤ a) (h2 : a - b ≤ 1000000000) : 0 < (upT a b).size := by
  unfold upT
  rw [if_pos ⟨h, h2⟩]
  exact varT_pos _ (by omega) h2
theorem plGo_pos : ∀ (l : List (Int × Int)) (o : ByteArray) (c a : Int), 0 ≤ c → 0 ≤ a → okP c a l → 0 < o.size → 0 < (plGo o c a l).size
  | [], o, c, a, _, _, _, h => h
  | p :: l, o, c, a, hc, ha, ⟨h1, h2, h3, h4, h5⟩, h => by
    have k1 := upT_pos p.1 c h1 (by omega)
    have k2 := upT_pos p.2 a h3 (by omega)
    unfold plGo
    rw [if_neg (by omega)]
    exact plGo_pos l _ _ _ (by omega) (by omega) h5 (by rw [ByteArray.size_append, ByteArray.size_append]; omega)
theorem placesT_pos (s : Int) (os : List Int) (h : okO 0 os) (hl : os.length ≤ 1000000000) : 0 < (placesT (placesP s os)).size := by
  unfold placesT
  have hle : (placesP s os).length ≤ os.length := placesOf_le _ _ _
  refine plGo_pos _ _ 0 0 (by decide) (by decide) ?_ (varT_pos _ (by omega) (by omega))
  unfold placesP placesOf
  split
  · trivial
  · exact plc_ok s os 0 0 h (by omega)
theorem frGo_ok (v b : Int) : ∀ (l : List ByteArray) (t : ByteArray) (os : List Int), t.size + 84 * l.length ≤ 1000000000 → ∃ o, (frGo v b t os l).2 = os ++ o ∧ okO t.size o
  | [], t, os, _ => ⟨[], (List.append_nil _).symm, trivial⟩
  | r :: l, t, os, h => by
    have hf := frameT_le v (b + os.length) r
    rw [List.length_cons] at h
    obtain ⟨o, h1, h2⟩ := frGo_ok v b l (t ++ frameT v (b + os.length) r) (os ++ [(t.size : Int)]) (by rw [ByteArray.size_append]; omega)
    refine ⟨(t.size : Int) :: o, ?_, Int.le_refl _, by omega, okO_le (by rw [ByteArray.size_append]; omega) h2⟩
    show (frGo v b (t ++ frameT v (b + os.length) r) (os ++ [(t.size : Int)]) l).2 = _
    rw [h1, List.append_assoc]; rfl
theorem trailT_pos (a b c d : Int) (ha : 0 ≤ a ∧ a < 4294967296) (hb : 0 ≤ b ∧ b < 4294967296) (hc : 0 ≤ c ∧ c < 4294967296) (hd : 0 ≤ d ∧ d < 4294967296) : trailT a b c d = fixT a 4 ++ fixT b 4 ++ fixT c 4 ++ fixT d 4 ++ ⟨#[73, 68, 88, 33]⟩ ∧ (trailT a b c d).size = 20 := by
  have h1 := fixT4_size a ha.1 ha.2
  have h2 := fixT4_size b hb.1 hb.2
  have h3 := fixT4_size c hc.1 hc.2
  have h4 := fixT4_size d hd.1 hd.2
  have e : trailT a b c d = fixT a 4 ++ fixT b 4 ++ fixT c 4 ++ fixT d 4 ++ ⟨#[73, 68, 88, 33]⟩ := by
    unfold trailT trailGo
    rw [if_neg (by omega)]
    unfold trailGo
    rw [if_neg (by omega)]
    unfold trailGo
    rw [if_neg (by omega)]
    unfold trailGo
    rw [if_neg (by omega)]
    unfold trailGo
    rw [show (⟨#[]⟩ : ByteArray) ++ fixT a 4 = fixT a 4 from ByteArray.empty_append]
  refine ⟨e, ?_⟩
  rw [e]
  simp only [ByteArray.size_append, h1, h2, h3, h4]
  rfl
theorem foot_ok (v s b l : Int) (os : List Int) (e : Int) (hk : headOk v s b l) (hn : b + os.length ≤ 1000000000) (ho : okO 0 os) (he : 0 ≤ e ∧ e < 4294967296) :
    footT v s b l os e = endMark v (b + os.length) ++ (placesT (placesP s os) ++ trailT e os.length s (sumOf (endMark v (b + os.length) ++ placesT (placesP s os) ++ (trailT e os.length s 0).extract 0 12))) := by
  have hp : numOk (b + (os.length : Int)) := ⟨by have := hk.2.2.1.1; omega, hn⟩
  have h1 := endMark_ge v (b + os.length) hk.1 hp
  have h2 := placesT_pos s os ho (by have := hk.2.2.1.1; omega)
  have h3 := (trailT_pos e os.length s 0 he (by have := hk.2.2.1.1; omega) (by have := hk.2.1; omega) (by decide)).2
  unfold footT
  rw [if_pos hk, if_neg (by omega), ByteArray.append_assoc]
theorem seal_ok (v s b l : Int) (rs : List ByteArray) (h : sealOk v s b l rs) : ∃ x, sealT v s b l rs = (frGo v b (headT v s b l) [] rs).1 ++ (endMark v (b + rs.length) ++ x) ∧ 20 ≤ x.size ∧
    footT v s b l (frGo v b (headT v s b l) [] rs).2 (frGo v b (headT v s b l) [] rs).1.size = endMark v (b + rs.length) ++ x := by
  obtain ⟨hk, hl, hn, hr⟩ := id h
  obtain ⟨h1, h2⟩ := frGo_le v b rs (headT v s b l) []
  have h3 := headT_size v s b l hk
  obtain ⟨o, h4, h5⟩ := frGo_ok v b rs (headT v s b l) [] (by omega)
  rw [List.nil_append] at h4
  rw [List.length_nil, Nat.zero_add] at h2
  have hf := foot_ok v s b l (frGo v b (headT v s b l) [] rs).2 (frGo v b (headT v s b l) [] rs).1.size hk (by rw [h2]; exact hn) (by rw [h4]; exact okO_le (by omega) h5) ⟨by omega, by omega⟩
  have h6 := fun q => (trailT_pos ((frGo v b (headT v s b l) [] rs).1.size : Int) (frGo v b (headT v s b l) [] rs).2.length s (sumOf q) (by omega) (by omega) (by have := hk.2.1; omega) (sumMore_range 0 q)).2
  rw [h2] at hf h6
  refine ⟨_, ?_, ?_, hf⟩
  · unfold sealT
    rw [if_pos h, hf]
  · rw [ByteArray.size_append, h6]
    omega
theorem scan_seal (v s b l : Int) (rs : List ByteArray) (h : sealOk v s b l rs) : scan (sealT v s b l rs) = (true, v, s, b, l, rs, (frGo v b (headT v s b l) [] rs).2, ((frGo v b (headT v s b l) [] rs).1.size : Int), true) := by
  obtain ⟨x, h1, _, _⟩ := seal_ok v s b l rs h
  rw [h1]
  exact scan_marked v s b l rs _ h.1 h.2.2.1 h.2.2.2 x rfl
theorem seal_size (v s b l : Int) (rs : List ByteArray) (h : sealOk v s b l rs) : 49 ≤ (sealT v s b l rs).size := by
  obtain ⟨x, h1, h2, _⟩ := seal_ok v s b l rs h
  obtain ⟨z, o, h3, _⟩ := frGo_pre v b rs (headT v s b l) []
  have h4 := headT_size v s b l h.1
  have h5 := endMark_ge v (b + rs.length) h.1.1 ⟨by have := h.1.2.2.1.1; omega, h.2.2.1⟩
  rw [h1, h3]
  simp only [ByteArray.size_append]
  omega
theorem seal_no (v s b l : Int) (rs : List ByteArray) (h : ¬ sealOk v s b l rs) : sealT v s b l rs = ⟨#[]⟩ := if_neg h
theorem seal_iff (v s b l : Int) (rs : List ByteArray) : (sealT v s b l rs).size = 0 ↔ ¬ sealOk v s b l rs := by
  constructor
  · intro h k; have := seal_size v s b l rs k; omega
  · intro h; rw [seal_no _ _ _ _ _ h]; rfl

/-! ### sealed files read -/
abbrev Sc := Bool × Int × Int × Int × Int × List ByteArray × List Int × Int × Bool
def scSeal (t : Sc) : ByteArray := sealT t.2.1 t.2.2.1 t.2.2.2.1 t.2.2.2.2.1 t.2.2.2.2.2.1
def sealedB (b : ByteArray) : Bool := (scan b).1 && decide (scSeal (scan b) = b)
/-- The head and the records of a sealed file. -/
def rSealed (b : ByteArray) : (Int × Int × Int × Int) × List ByteArray × Bool :=
  if sealedB b = true then (((scan b).2.1, (scan b).2.2.1, (scan b).2.2.2.1, (scan b).2.2.2.2.1), (scan b).2.2.2.2.2.1, true) else ((0, 0, 0, 0), [], false)
theorem sealed_ok (b : ByteArray) (h : sealedB b = true) : (scan b).1 = true ∧ scSeal (scan b) = b ∧ sealOk (scan b).2.1 (scan b).2.2.1 (scan b).2.2.2.1 (scan b).2.2.2.2.1 (scan b).2.2.2.2.2.1 ∧ (scan b).2.2.2.2.2.2.2.2 = true := by
  unfold sealedB at h
  rw [Bool.and_eq_true, decide_eq_true_eq] at h
  obtain ⟨h1, h2⟩ := h
  have h3 := (scan_head b h1).1
  have h4 := (rHead_ok b h3).1
  have hs : sealOk (scan b).2.1 (scan b).2.2.1 (scan b).2.2.2.1 (scan b).2.2.2.2.1 (scan b).2.2.2.2.2.1 := Decidable.byContradiction fun k => by
    have := (seal_iff _ _ _ _ _).2 k
    unfold scSeal at h2
    rw [h2] at this
    omega
  refine ⟨h1, h2, hs, ?_⟩
  have := scan_seal _ _ _ _ _ hs
  unfold scSeal at h2
  rw [h2] at this
  rw [this]
theorem sealed_seal (v s b l : Int) (rs : List ByteArray) (h : sealOk v s b l rs) : sealedB (sealT v s b l rs) = true := by
  unfold sealedB scSeal
  rw [scan_seal v s b l rs h]
  simp
/-- What is known of a scan of a text of n bytes. -/
def ScF (n : Nat) (t : Sc) : Prop :=
  (t.1 = true → headOk t.2.1 t.2.2.1 t.2.2.2.1 t.2.2.2.2.1 ∧ 24 ≤ t.2.2.2.2.2.2.2.1) ∧ (t.1 = false → t = (false, 0, 0, 0, 0, [], [], 0, false)) ∧ (0 ≤ t.2.2.2.1 ∧ t.2.2.2.1 ≤ 1000000000) ∧ t.2.2.2.2.2.2.1.length = t.2.2.2.2.2.1.length ∧ t.2.2.2.2.2.1.length ≤ n ∧
    (∀ r ∈ t.2.2.2.2.2.1, r.size ≤ 60) ∧ (∀ o ∈ t.2.2.2.2.2.2.1, 0 ≤ o ∧ o ≤ n) ∧ 0 ≤ t.2.2.2.2.2.2.2.1 ∧ t.2.2.2.2.2.2.2.1 ≤ n
theorem scan_f (b : ByteArray) : ScF b.size (scan b) := by
  by_cases h : (scan b).1 = true
  · obtain ⟨h1, h2, h3, h4, h5, h6⟩ := scan_inv b h
    obtain ⟨k1, k2, k3, k4, k5⟩ := scan_head b h
    have hk := (rHead_ok b k1).2.1
    rw [← k2, ← k3, ← k4, ← k5] at hk
    exact ⟨fun _ => ⟨hk, h2⟩, (fun e => by rw [h] at e; cases e), hk.2.2.1, h1.symm, by omega, h5, h6, by omega, h3⟩
  · have e := scan_no b h
    rw [e]
    exact ⟨fun h => Bool.noConfusion h, fun _ => rfl, ⟨by decide, by decide⟩, rfl, Nat.zero_le _, fun _ h => absurd h (by simp), fun _ h => absurd h (by simp), Int.le_refl _, Int.natCast_nonneg _⟩
end Go.Mth

/- Names of files, in plain numbers. -/
namespace Go.Mth
open Go.RowKit

/-! ### sixteen digits -/
def hexD (d : Int) : Int := if d < 10 then 48 + d else 87 + d
/-- So many digits, the highest first. -/
def hexL : Nat → Int → List Int
  | 0, _ => []
  | k + 1, n => hexL k (n / 16) ++ [hexD (n % 16)]
theorem hexL_length : ∀ (k : Nat) (n : Int), (hexL k n).length = k
  | 0, _ => rfl
  | k + 1, n => by rw [hexL, List.length_append, hexL_length k]; rfl
theorem hexD_range (d : Int) (h0 : 0 ≤ d) (h1 : d < 16) : 0 ≤ hexD d ∧ hexD d ≤ 255 := by unfold hexD; split <;> omega
theorem hexL_range : ∀ (k : Nat) (n : Int), ∀ x ∈ hexL k n, 0 ≤ x ∧ x ≤ 255
  | 0, _, x, h => by simp [hexL] at h
  | k + 1, n, x, h => by
    rcases List.mem_append.1 h with h | h
    · exact hexL_range k _ x h
    · rw [List.mem_singleton.1 h]; exact hexD_range _ (by omega) (by omega)
/-- The value of a digit; -1 of what is none (small letters alone). -/
def hexV (c : Int) : Int := if 48 ≤ c ∧ c ≤ 57 then c - 48 else if 97 ≤ c ∧ c ≤ 102 then c - 87 else -1
theorem hexV_D (d : Int) (h0 : 0 ≤ d) (h1 : d < 16) : hexV (hexD d) = d := by
  unfold hexV hexD
  split <;> (repeat' split) <;> omega
theorem hexD_V (c : Int) (h : 0 ≤ hexV c) : hexD (hexV c) = c ∧ hexV c < 16 := by
  unfold hexV hexD at *
  (repeat' split) <;> omega
/-- The number of so many digits; none if one is no digit. -/
def hexN : Int → List Int → Option Int
  | n, [] => some n
  | n, c :: l => if 0 ≤ hexV c then hexN (16 * n + hexV c) l else none
theorem hexN_app : ∀ (l : List Int) (n : Int) (m : List Int), hexN n (l ++ m) = (hexN n l).bind fun k => hexN k m
  | [], _, _ => rfl
  | c :: l, n, m => by
    rw [List.cons_append, hexN, hexN]
    split
    · exact hexN_app l _ m
    · rfl
theorem hexN_L : ∀ (k : Nat) (n : Int), 0 ≤ n → n < 16 ^ k → hexN 0 (hexL k n) = some n
  | 0, n, h0, h1 => by
    have : n = 0 := by simp at h1; omega
    rw [this]; rfl
  | k + 1, n, h0, h1 => by
    have hp : n / 16 < 16 ^ k := by rw [Int.pow_succ] at h1; omega
    rw [hexL, hexN_app, hexN_L k (n / 16) (by omega) hp]
    show hexN (n / 16) [hexD (n % 16)] = some n
    unfold hexN
    rw [hexV_D _ (by omega) (by omega), if_pos (by omega)]
    unfold hexN
    congr 1; omega
/-- The name of a file of a base. -/
def segL (n : Int) : List Int := [115] ++ hexL 8 n ++ [46, 115, 101, 103]
def segT (n : Int) : ByteArray := if numOk n then strOf (segL n) else ⟨#[]⟩
def tmpT (n : Int) : ByteArray := if numOk n then strOf (segL n ++ [46, 116, 109, 112]) else ⟨#[]⟩
theorem segL_range (n : Int) : ∀ x ∈ segL n, 0 ≤ x ∧ x ≤ 255 := fun x h => by
  unfold segL at h
  rcases List.mem_append.1 h with h | h
  · rcases List.mem_append.1 h with h | h
    · rw [List.mem_singleton.1 h]; decide
    · exact hexL_range _ _ x h
  · simp at h; omega
theorem segL_length (n : Int) : (segL n).length = 13 := by
  unfold segL
  rw [List.length_append, List.length_append, hexL_length]; rfl
theorem segT_size (n : Int) (h : numOk n) : (segT n).size = 13 := by
  unfold segT
  rw [if_pos h, strOf_size, segL_length]
theorem tmpT_size (n : Int) (h : numOk n) : (tmpT n).size = 17 := by
  unfold tmpT
  rw [if_pos h, strOf_size, List.length_append, segL_length]; rfl
theorem segT_le (n : Int) : (segT n).size ≤ 13 := by
  by_cases h : numOk n
  · rw [segT_size n h]; exact Nat.le_refl _
  · unfold segT; rw [if_neg h]; exact Nat.zero_le _
theorem tmpT_le (n : Int) : (tmpT n).size ≤ 17 := by
  by_cases h : numOk n
  · rw [tmpT_size n h]; exact Nat.le_refl _
  · unfold tmpT; rw [if_neg h]; exact Nat.zero_le _
theorem bytesOf_segT (n : Int) (h : numOk n) : bytesOf (segT n) = segL n := by
  unfold segT
  rw [if_pos h, bytesOf_strOf _ (segL_range n)]
theorem bytesOf_tmpT (n : Int) (h : numOk n) : bytesOf (tmpT n) = segL n ++ [46, 116, 109, 112] := by
  unfold tmpT
  rw [if_pos h, bytesOf_strOf _ (fun x hx => by
    rcases List.mem_append.1 hx with hx | hx
    · exact segL_range n x hx
    · simp at hx; omega)]
/-- The eight digits of a name. -/
def digits (b : ByteArray) : List Int := ((bytesOf b).drop 1).take 8
theorem digits_seg (n : Int) (h : numOk n) : digits (segT n) = hexL 8 n := by
  unfold digits
  rw [bytesOf_segT n h]
  unfold segL
  rw [List.append_assoc, List.drop_left' (by rfl), List.take_left' (hexL_length 8 n)]
theorem digits_tmp (n : Int) (h : numOk n) : digits (tmpT n) = hexL 8 n := by
  unfold digits
  rw [bytesOf_tmpT n h]
  unfold segL
  rw [List.append_assoc, List.append_assoc, List.drop_left' (by rfl), List.take_left' (hexL_length 8 n)]
theorem hexN_8 (n : Int) (h : numOk n) : hexN 0 (hexL 8 n) = some n := hexN_L 8 n h.1 (by have := h.2; show n < 4294967296; omega)
/-- What a name is, and its base. -/
def nameOf (b : ByteArray) : Int × Int :=
  match hexN 0 (digits b) with
  | some n => if segT n = b ∧ numOk n then (1, n) else if tmpT n = b ∧ numOk n then (2, n) else (0, 0)
  | none => (0, 0)
theorem nameOf_seg (n : Int) (h : numOk n) : nameOf (segT n) = (1, n) := by
  unfold nameOf
  rw [digits_seg n h, hexN_8 n h]
  simp only
  rw [if_pos ⟨trivial, h⟩]
theorem segT_ne_tmpT (n m : Int) (h : numOk n) (k : numOk m) : segT n ≠ tmpT m := fun e => by
  have := congrArg ByteArray.size e
  rw [segT_size n h, tmpT_size m k] at this
  omega
theorem nameOf_tmp (n : Int) (h : numOk n) : nameOf (tmpT n) = (2, n) := by
  unfold nameOf
  rw [digits_tmp n h, hexN_8 n h]
  simp only
  rw [if_neg (fun e => segT_ne_tmpT n n h h e.1), if_pos ⟨trivial, h⟩]
/-- A name that is that of a base is told so, whatever number was read. -/
theorem nameOf_of_seg (b : ByteArray) (n : Int) (h : numOk n) (e : b = segT n) : nameOf b = (1, n) := by rw [e]; exact nameOf_seg n h
theorem nameOf_of_tmp (b : ByteArray) (n : Int) (h : numOk n) (e : b = tmpT n) : nameOf b = (2, n) := by rw [e]; exact nameOf_tmp n h
theorem nameOf_other (b : ByteArray) (h1 : ∀ n, numOk n → b ≠ segT n) (h2 : ∀ n, numOk n → b ≠ tmpT n) : nameOf b = (0, 0) := by
  unfold nameOf
  split
  · rename_i n _
    rw [if_neg (fun e => h1 n e.2 e.1.symm), if_neg (fun e => h2 n e.2 e.1.symm)]
  · rfl
theorem nameOf_kind (b : ByteArray) : (nameOf b = (1, (nameOf b).2) ∧ numOk (nameOf b).2 ∧ b = segT (nameOf b).2) ∨ (nameOf b = (2, (nameOf b).2) ∧ numOk (nameOf b).2 ∧ b = tmpT (nameOf b).2) ∨ nameOf b = (0, 0) := by
  unfold nameOf
  split
  · split
    · rename_i h; exact .inl ⟨rfl, h.2, h.1.symm⟩
    · split
      · rename_i h; exact .inr (.inl ⟨rfl, h.2, h.1.symm⟩)
      · exact .inr (.inr rfl)
  · exact .inr (.inr rfl)
end Go.Mth

/- Disks, in plain numbers: nodes, entries, the texts of a row's files. -/
namespace Go.Mth
open Go.RowKit

abbrev Nd := Int × ByteArray × Int
abbrev Et := ByteArray × Int
abbrev Dk := List Nd × List Et × List Et × List ByteArray × Int × Int

/-- The place of the first that is so, from i on; -1 if none is. -/
def findI {α : Type} (p : α → Bool) : List α → Nat → Int
  | [], _ => -1
  | x :: r, i => if p x = true then i else findI p r (i + 1)
theorem findI_step {α : Type} [Inhabited α] (p : α → Bool) (xs : List α) (i : Nat) (h : i < xs.length) : findI p (xs.drop i) i = if p (xs.getD i default) = true then (i : Int) else findI p (xs.drop (i + 1)) (i + 1) := by
  rw [List.drop_eq_getElem_cons h, List.getD_eq_getElem?_getD, List.getElem?_eq_getElem h]; rfl
theorem findI_end {α : Type} (p : α → Bool) (xs : List α) (i : Nat) (h : xs.length ≤ i) : findI p (xs.drop i) i = -1 := by
  rw [List.drop_eq_nil_of_le h]; rfl
theorem findI_cases {α : Type} [Inhabited α] (p : α → Bool) : ∀ (xs : List α) (i : Nat), findI p xs i = -1 ∧ (∀ x ∈ xs, p x = false) ∨ ∃ k : Nat, findI p xs i = ((i + k : Nat) : Int) ∧ k < xs.length ∧ p (xs.getD k default) = true ∧ ∀ j, j < k → p (xs.getD j default) = false
  | [], i => .inl ⟨rfl, fun x h => by simp at h⟩
  | x :: r, i => by
    unfold findI
    cases hp : p x with
    | true =>
      rw [if_pos rfl]
      exact .inr ⟨0, rfl, by simp, by simpa using hp, fun j h => by omega⟩
    | false =>
      rw [if_neg (by simp)]
      rcases findI_cases p r (i + 1) with ⟨h1, h2⟩ | ⟨k, h1, h2, h3, h4⟩
      · exact .inl ⟨h1, fun y hy => by rcases List.mem_cons.1 hy with rfl | hy; exact hp; exact h2 y hy⟩
      · refine .inr ⟨k + 1, by rw [h1]; congr 1; omega, by simp; omega, by simpa using h3, fun j hj => ?_⟩
        cases j with
        | zero => simpa using hp
        | succ j => simpa using h4 j (by omega)
theorem findI_range {α : Type} [Inhabited α] (p : α → Bool) (xs : List α) : findI p xs 0 = -1 ∨ (0 ≤ findI p xs 0 ∧ findI p xs 0 < xs.length ∧ p (xs.getD (findI p xs 0).toNat default) = true) := by
  rcases findI_cases p xs 0 with ⟨h1, _⟩ | ⟨k, h1, h2, h3, _⟩
  · exact .inl h1
  · rw [h1]; exact .inr ⟨by omega, by omega, by simpa using h3⟩

def placeI (es : List Et) (n : ByteArray) : Int := findI (fun e => decide (e.1 = n)) es 0
def nodeI (ns : List Nd) (k : Int) : Int := findI (fun x => decide (x.1 = k)) ns 0
def noNd : Nd := (0, ⟨#[]⟩, 0)
theorem placeI_r (es : List Et) (n : ByteArray) : placeI es n = -1 ∨ (0 ≤ placeI es n ∧ placeI es n < es.length) := by
  rcases findI_range (fun e : Et => decide (e.1 = n)) es with h | ⟨h1, h2, _⟩
  · exact .inl h
  · exact .inr ⟨h1, h2⟩
theorem nodeI_r (ns : List Nd) (k : Int) : nodeI ns k = -1 ∨ (0 ≤ nodeI ns k ∧ nodeI ns k < ns.length) := by
  rcases findI_range (fun x : Nd => decide (x.1 = k)) ns with h | ⟨h1, h2, _⟩
  · exact .inl h
  · exact .inr ⟨h1, h2⟩
/-- The number of a name; 0 without one. -/
def entT (es : List Et) (n : ByteArray) : Int := if placeI es n < 0 then 0 else (es.getD (placeI es n).toNat default).2
/-- The place of the node of a name. -/
def nodeP (d : Dk) (n : ByteArray) : Int := if placeI d.2.1 n < 0 then -1 else nodeI d.1 (d.2.1.getD (placeI d.2.1 n).toNat default).2
theorem nodeP_r (d : Dk) (n : ByteArray) : nodeP d n = -1 ∨ (0 ≤ nodeP d n ∧ nodeP d n < d.1.length) := by
  unfold nodeP
  split
  · exact .inl rfl
  · exact nodeI_r _ _
def nodeT (d : Dk) (n : ByteArray) : Nd × Bool := if nodeP d n < 0 then (noNd, false) else (d.1.getD (nodeP d n).toNat default, true)
def fileT (d : Dk) (n : ByteArray) : ByteArray × Bool := ((nodeT d n).1.2.1, (nodeT d n).2)
def textT (d : Dk) (b : Int) : ByteArray := (fileT d (segT b)).1

/-- How large a disk is. -/
structure DkOk (d : Dk) : Prop where
  ns : d.1.length ≤ 1048576
  es : d.2.1.length ≤ 1048576
  os : d.2.2.1.length ≤ 1048576
  ss : d.2.2.2.1.length ≤ 1048576
  nt : ∀ n ∈ d.1, n.2.1.size ≤ 1048576
  et : ∀ e ∈ d.2.1, e.1.size ≤ 1048576
  ot : ∀ e ∈ d.2.2.1, e.1.size ≤ 1048576
  st : ∀ s ∈ d.2.2.2.1, s.size ≤ 1048576
theorem fileT_le {d : Dk} (h : DkOk d) (n : ByteArray) : (fileT d n).1.size ≤ 1048576 := by
  unfold fileT nodeT
  split
  · exact Nat.zero_le _
  · rename_i hn
    refine h.nt _ ?_
    rcases nodeP_r d n with h1 | ⟨h1, h2⟩
    · omega
    · simp only
      rw [List.getD_eq_getElem?_getD, List.getElem?_eq_getElem (by omega)]
      exact List.getElem_mem _
theorem textT_le {d : Dk} (h : DkOk d) (b : Int) : (textT d b).size ≤ 1048576 := fileT_le h _

/-! ### the files that go on from one another -/
def recs (b : ByteArray) : List ByteArray := (scan b).2.2.2.2.2.1
def goOk (t : ByteArray) (b l : Int) : Prop := ((rHead t).2.2.2.2 = true ∧ (rHead t).2.2.1 = b ∧ (rHead t).2.2.2.1 = l) ∧ 0 < (recs t).length
instance (t : ByteArray) (b l : Int) : Decidable (goOk t b l) := inferInstanceAs (Decidable (_ ∧ _))
def chGo (d : Dk) : Nat → Int → Int → List Int
  | 0, _, _ => []
  | k + 1, b, l => if goOk (textT d b) b l then b :: chGo d k (b + (recs (textT d b)).length) (linkAll l (recs (textT d b))) else []
def chainT (d : Dk) : List Int := chGo d 16 0 0
theorem chGo_length (d : Dk) : ∀ (k : Nat) (b l : Int), (chGo d k b l).length ≤ k
  | 0, _, _ => Nat.le_refl _
  | k + 1, b, l => by
    unfold chGo
    split
    · rw [List.length_cons]; have := chGo_length d k (b + (recs (textT d b)).length) (linkAll l (recs (textT d b))); omega
    · exact Nat.zero_le _
theorem chainT_length (d : Dk) : (chainT d).length ≤ 16 := chGo_length d 16 0 0
/-- One file more. -/
theorem chGo_snoc (d : Dk) (L : List Int) (b l : Int) (h : chainT d = L ++ chGo d (16 - L.length) b l) (hl : L.length < 16) (hg : goOk (textT d b) b l) :
    chainT d = (L ++ [b]) ++ chGo d (16 - (L ++ [b]).length) (b + (recs (textT d b)).length) (linkAll l (recs (textT d b))) := by
  rw [h, show 16 - L.length = (16 - (L ++ [b]).length) + 1 by rw [List.length_append, List.length_singleton]; omega]
  conv => lhs; unfold chGo
  rw [if_pos hg, List.append_assoc]; rfl
theorem chGo_stop (d : Dk) (L : List Int) (b l : Int) (h : chainT d = L ++ chGo d (16 - L.length) b l) (hg : 16 ≤ L.length ∨ ¬ goOk (textT d b) b l) : chainT d = L := by
  rw [h]
  by_cases hl : 16 ≤ L.length
  · rw [show 16 - L.length = 0 by omega]; simp [chGo]
  · rw [show 16 - L.length = (15 - L.length) + 1 by omega]
    unfold chGo
    rw [if_neg (hg.resolve_left hl), List.append_nil]
theorem recs_le (b : ByteArray) : (recs b).length ≤ b.size ∧ (∀ r ∈ recs b, r.size ≤ 60) := ⟨(scan_f b).2.2.2.2.1, (scan_f b).2.2.2.2.2.1⟩
theorem chGo_range {d : Dk} (h : DkOk d) : ∀ (k : Nat) (b l : Int), 0 ≤ b → ∀ x ∈ chGo d k b l, 0 ≤ x ∧ x ≤ b + 1048576 * k
  | 0, _, _, _, x, hx => by simp [chGo] at hx
  | k + 1, b, l, hb, x, hx => by
    unfold chGo at hx
    split at hx
    · rcases List.mem_cons.1 hx with rfl | hx
      · omega
      · have h1 := (recs_le (textT d b)).1
        have h2 := textT_le h b
        have := chGo_range h k (b + (recs (textT d b)).length) (linkAll l (recs (textT d b))) (by omega) x hx
        omega
    · simp at hx
theorem chainT_range {d : Dk} (h : DkOk d) : ∀ x ∈ chainT d, 0 ≤ x ∧ x ≤ 16777216 := fun x hx => by
  have := chGo_range h 16 0 0 (Int.le_refl _) x hx
  omega
theorem rHead_no0 (b : ByteArray) (h : ¬ (rHead b).2.2.2.2 = true) : rHead b = (0, 0, 0, 0, false) := by
  unfold rHead at h ⊢
  split
  · rfl
  · split
    · rename_i h1 h2
      rw [if_neg h1, if_pos h2] at h
      exact absurd rfl h
    · rfl
theorem scan_ver (b : ByteArray) : (scan b).2.1 = (rHead b).1 := by
  unfold scan
  split
  · rfl
  · rename_i h; rw [rHead_no0 b h]
theorem scan_base (b : ByteArray) : (scan b).2.2.2.1 = (rHead b).2.2.1 := by
  unfold scan
  split
  · rfl
  · rename_i h; rw [rHead_no0 b h]
theorem scan_link (b : ByteArray) : (scan b).2.2.2.2.1 = (rHead b).2.2.2.1 := by
  unfold scan
  split
  · rfl
  · rename_i h; rw [rHead_no0 b h]
def rowT (d : Dk) : List ByteArray := (chainT d).flatMap fun b => recs (textT d b)
def linkT (d : Dk) : Int := linkAll 0 (rowT d)
def textsT (d : Dk) : List ByteArray := (chainT d).map (textT d)
def versT (d : Dk) : List Int := (chainT d).map fun b => (rHead (textT d b)).1
def oldT (l : List Int) : Int := l.foldr (fun v n => (if v = 1 then 1 else 0) + n) 0
def behindT (d : Dk) (b : Int) : List Int := (chainT d).filter fun x => decide (b < x)
theorem flat_le (d : Dk) (h : DkOk d) : ∀ l : List Int, (l.flatMap fun b => recs (textT d b)).length ≤ 1048576 * l.length ∧ ∀ r ∈ (l.flatMap fun b => recs (textT d b)), r.size ≤ 60
  | [] => ⟨by simp, fun r h => by simp at h⟩
  | b :: l => by
    obtain ⟨h1, h2⟩ := flat_le d h l
    obtain ⟨h3, h4⟩ := recs_le (textT d b)
    have h5 := textT_le h b
    rw [List.flatMap_cons, List.length_append, List.length_cons]
    refine ⟨by omega, fun r hr => ?_⟩
    rcases List.mem_append.1 hr with hr | hr
    · exact h4 r hr
    · exact h2 r hr
theorem rowT_le {d : Dk} (h : DkOk d) : (rowT d).length ≤ 16777216 ∧ ∀ r ∈ rowT d, r.size ≤ 60 := by
  obtain ⟨h1, h2⟩ := flat_le d h (chainT d)
  have := chainT_length d
  exact ⟨by unfold rowT; omega, h2⟩
/-! ### digits, as they are laid -/
theorem hexL_zero : ∀ k : Nat, hexL k 0 = List.replicate k 48
  | 0 => rfl
  | k + 1 => by
    rw [hexL, show (0 : Int) / 16 = 0 by rfl, hexL_zero k, show hexD ((0 : Int) % 16) = 48 by rfl, List.replicate_succ']
theorem hexL_pad : ∀ (k m : Nat) (n : Int), 0 ≤ n → n < 16 ^ k → hexL (k + m) n = List.replicate m 48 ++ hexL k n
  | 0, m, n, h0, h1 => by
    have : n = 0 := by simp at h1; omega
    subst this
    rw [Nat.zero_add, hexL_zero]
    simp [hexL]
  | k + 1, m, n, h0, h1 => by
    have hp : n / 16 < 16 ^ k := by rw [Int.pow_succ] at h1; omega
    rw [show k + 1 + m = (k + m) + 1 by omega, hexL, hexL, hexL_pad k m (n / 16) (by omega) hp, List.append_assoc]
/-- Digits that are laid from the lowest on: u is what is left of n behind the digits of L. -/
structure Hx (n u : Int) (L : List Int) : Prop where
  cut : ∀ k, hexL (k + L.length) n = hexL k u ++ L
  val : n < 16 ^ L.length * (u + 1)
  low : 0 ≤ u
  top : 16 ^ L.length * u ≤ n
  one : L = [] ∨ 1 ≤ u
theorem Hx.start {n : Int} (h : 0 ≤ n) : Hx n n [] := ⟨fun k => by simp, by simp; omega, h, by simp, .inl rfl⟩
theorem Hx.step {n u : Int} {L : List Int} (h : Hx n u L) (hu : 16 ≤ u) : Hx n (u / 16) (hexD (u % 16) :: L) := by
  have hp : (0 : Int) < 16 ^ L.length := Int.pow_pos (by decide)
  refine ⟨fun k => ?_, ?_, by omega, ?_, .inr (by omega)⟩
  · rw [List.length_cons, show k + (L.length + 1) = (k + 1) + L.length by omega, h.cut, hexL, List.append_assoc]; rfl
  · rw [List.length_cons, Int.pow_succ, Int.mul_assoc]
    exact Int.lt_of_lt_of_le h.val (Int.mul_le_mul_of_nonneg_left (by omega) (by omega))
  · rw [List.length_cons, Int.pow_succ, Int.mul_assoc]
    exact Int.le_trans (Int.mul_le_mul_of_nonneg_left (by omega) (by omega)) h.top
theorem Hx.len {n u : Int} {L : List Int} (h : Hx n u L) (hn : n < 4294967296) : L.length ≤ 7 := by
  rcases h.one with h1 | h2
  · subst h1; simp
  · refine Decidable.byContradiction fun hc => ?_
    have h1 := h.top
    have e : ((16 ^ 8 : Nat) : Int) ≤ ((16 ^ L.length : Nat) : Int) := Int.ofNat_le.2 (Nat.pow_le_pow_right (by decide) (by omega))
    rw [Int.natCast_pow] at e
    have h3 : (16 : Int) ^ L.length * 1 ≤ 16 ^ L.length * u := Int.mul_le_mul_of_nonneg_left h2 (by have : (0 : Int) < 16 ^ L.length := Int.pow_pos (by decide); omega)
    have h4 : ((16 ^ 8 : Nat) : Int) = 4294967296 := by rfl
    have h5 : ((16 ^ L.length : Nat) : Int) = (16 : Int) ^ L.length := Int.natCast_pow 16 L.length
    omega
theorem Hx.le {n u : Int} {L : List Int} (h : Hx n u L) : u ≤ n := by
  have hp : (0 : Int) < 16 ^ L.length := Int.pow_pos (by decide)
  have h1 : 1 * u ≤ 16 ^ L.length * u := Int.mul_le_mul_of_nonneg_right (by omega) h.low
  have := h.top
  omega
/-- All digits laid. -/
theorem Hx.fin {n u : Int} {L : List Int} (h : Hx n u L) (hu : u < 16) : hexD u :: L = hexL (L.length + 1) n ∧ n < 16 ^ (L.length + 1) := by
  have e := h.cut 1
  have h0 := h.low
  rw [show 1 + L.length = L.length + 1 by omega, show hexL 1 u = [hexD (u % 16)] from rfl, show u % 16 = u by omega] at e
  refine ⟨e.symm, ?_⟩
  have hp : (0 : Int) < 16 ^ L.length := Int.pow_pos (by decide)
  rw [Int.pow_succ]
  exact Int.lt_of_lt_of_le h.val (Int.mul_le_mul_of_nonneg_left (by omega) (by omega))
end Go.Mth

/- What functions of the program and of the reference do, in plain values. -/
namespace Go.Pv
open Go.Proofs Go.Mth
set_option linter.unusedSimpArgs false
set_option linter.unusedVariables false
set_option maxHeartbeats 4000000

/-! ### names of files -/
theorem isPow16 : Fn Tryd.prog 64 [.int .i64 16] [] (.bool true) [] := by
  have h : Go.bits .and .i64 16 (16 - 1) = 0 := by decide
  refine fn_x tok (n := 8) (rs := [.tmp 2]) Tryd.func64 (by decide) rfl rfl rfl rfl ?_
  (try simp (maxSteps := 1000000) (disch := first | omega | (simp only [LN, numOk, verOk, h, decide_true] <;> omega) | exact Ck.mk rfl) only [VC, T, Nat.reduceMul, Nat.reduceAdd, Nat.reduceSub, Nat.reduceLT, Nat.reduceEqDiff, Nat.reduceLeDiff, Nat.reduceBEq, reduceCtorEq, Int.reduceToNat, ↓reduceIte, h, decide_true])
  repeat' (first
    | (refine br_go (fun e f => ?_) (fun e f => ?_) <;> (try simp only [BB] at f) <;> (try simp only [numOk, verOk] at f) <;> (try simp (maxSteps := 1000000) (disch := first | omega | (simp only [LN, numOk, verOk, h, decide_true] <;> omega) | exact Ck.mk rfl) only [e, VC, T, Nat.reduceMul, Nat.reduceAdd, Nat.reduceSub, Nat.reduceLT, Nat.reduceEqDiff, Nat.reduceLeDiff, Nat.reduceBEq, reduceCtorEq, Int.reduceToNat, ↓reduceIte, h, decide_true]) <;> (try clear e))
    | (refine pick_go (fun e f => ?_) (fun e f => ?_) <;> (try simp only [BB] at f) <;> (try simp only [numOk, verOk] at f) <;> (try simp (maxSteps := 1000000) (disch := first | omega | (simp only [LN, numOk, verOk, h, decide_true] <;> omega) | exact Ck.mk rfl) only [e, VC, T, Nat.reduceMul, Nat.reduceAdd, Nat.reduceSub, Nat.reduceLT, Nat.reduceEqDiff, Nat.reduceLeDiff, Nat.reduceBEq, reduceCtorEq, Int.reduceToNat, ↓reduceIte, h, decide_true]) <;> (try clear e)))
theorem tz16 : Fn Tryd.prog 69 [.int .u64 16] [] (.int .i64 4) [] := by
  have h1 : IntKind.u64.wrap (0 - 16) = 18446744073709551600 := by decide
  have h2 : Go.bits .and .u64 16 18446744073709551600 = 16 := by decide
  have h3 : IntKind.u64.wrap (16 * 285870213051353865) = 4573923408821661840 := by decide
  have h4 : shr .u64 4573923408821661840 58 = 15 := by decide
  have h5 : (glob3.drop 15) = .int .u8 4 :: glob3.drop 16 := by rfl
  refine fn_x tok (n := 14) (rs := [.tmp 2]) Tryd.func69 (by decide) rfl rfl rfl rfl ?_
  (try simp (maxSteps := 1000000) (disch := first | omega | (simp only [LN, numOk, verOk, h1, h2, h3, h4, h5, GV, List.length_cons, List.getD_cons_zero] <;> omega) | exact Ck.mk rfl) only [VC, T, Nat.reduceMul, Nat.reduceAdd, Nat.reduceSub, Nat.reduceLT, Nat.reduceEqDiff, Nat.reduceLeDiff, Nat.reduceBEq, reduceCtorEq, Int.reduceToNat, ↓reduceIte, h1, h2, h3, h4, h5, GV, List.length_cons, List.getD_cons_zero])
  repeat' (first
    | (refine br_go (fun e f => ?_) (fun e f => ?_) <;> (try simp only [BB] at f) <;> (try simp only [numOk, verOk] at f) <;> (try simp (maxSteps := 1000000) (disch := first | omega | (simp only [LN, numOk, verOk, h1, h2, h3, h4, h5, GV, List.length_cons, List.getD_cons_zero] <;> omega) | exact Ck.mk rfl) only [e, VC, T, Nat.reduceMul, Nat.reduceAdd, Nat.reduceSub, Nat.reduceLT, Nat.reduceEqDiff, Nat.reduceLeDiff, Nat.reduceBEq, reduceCtorEq, Int.reduceToNat, ↓reduceIte, h1, h2, h3, h4, h5, GV, List.length_cons, List.getD_cons_zero]) <;> (try clear e))
    | (refine pick_go (fun e f => ?_) (fun e f => ?_) <;> (try simp only [BB] at f) <;> (try simp only [numOk, verOk] at f) <;> (try simp (maxSteps := 1000000) (disch := first | omega | (simp only [LN, numOk, verOk, h1, h2, h3, h4, h5, GV, List.length_cons, List.getD_cons_zero] <;> omega) | exact Ck.mk rfl) only [e, VC, T, Nat.reduceMul, Nat.reduceAdd, Nat.reduceSub, Nat.reduceLT, Nat.reduceEqDiff, Nat.reduceLeDiff, Nat.reduceBEq, reduceCtorEq, Int.reduceToNat, ↓reduceIte, h1, h2, h3, h4, h5, GV, List.length_cons, List.getD_cons_zero]) <;> (try clear e)))
theorem tzu16 : Fn Tryd.prog 65 [.int .u64 16] [] (.int .i64 4) [] := by
  refine fn_x tok (n := 8) (rs := [.tmp 2]) Tryd.func65 (by decide) rfl rfl rfl rfl ?_
  (try simp (maxSteps := 1000000) (disch := first | omega | (simp only [LN, numOk, verOk] <;> omega) | exact Ck.mk rfl) only [VC, T, Nat.reduceMul, Nat.reduceAdd, Nat.reduceSub, Nat.reduceLT, Nat.reduceEqDiff, Nat.reduceLeDiff, Nat.reduceBEq, reduceCtorEq, Int.reduceToNat, ↓reduceIte])
  repeat' (first
    | (refine br_go (fun e f => ?_) (fun e f => ?_) <;> (try simp only [BB] at f) <;> (try simp only [numOk, verOk] at f) <;> (try simp (maxSteps := 1000000) (disch := first | omega | (simp only [LN, numOk, verOk] <;> omega) | exact Ck.mk rfl) only [e, VC, T, Nat.reduceMul, Nat.reduceAdd, Nat.reduceSub, Nat.reduceLT, Nat.reduceEqDiff, Nat.reduceLeDiff, Nat.reduceBEq, reduceCtorEq, Int.reduceToNat, ↓reduceIte]) <;> (try clear e))
    | (refine pick_go (fun e f => ?_) (fun e f => ?_) <;> (try simp only [BB] at f) <;> (try simp only [numOk, verOk] at f) <;> (try simp (maxSteps := 1000000) (disch := first | omega | (simp only [LN, numOk, verOk] <;> omega) | exact Ck.mk rfl) only [e, VC, T, Nat.reduceMul, Nat.reduceAdd, Nat.reduceSub, Nat.reduceLT, Nat.reduceEqDiff, Nat.reduceLeDiff, Nat.reduceBEq, reduceCtorEq, Int.reduceToNat, ↓reduceIte]) <;> (try clear e))
    | ((first | refine call_x (tz16) rfl ⟨rfl⟩ ?_); (try simp (maxSteps := 1000000) (disch := first | omega | (simp only [LN, numOk, verOk] <;> omega) | exact Ck.mk rfl) only [VC, T, Nat.reduceMul, Nat.reduceAdd, Nat.reduceSub, Nat.reduceLT, Nat.reduceEqDiff, Nat.reduceLeDiff, Nat.reduceBEq, reduceCtorEq, Int.reduceToNat, ↓reduceIte])))
theorem splice_app (m : Nat) (L : List Int) (d : Int) : splice ((List.replicate (m + 1) (0 : Int) ++ L).map (PV.int .u8)) m [.int .u8 d] = (List.replicate m (0 : Int) ++ d :: L).map (PV.int .u8) := by
  have e : List.replicate (m + 1) (0 : Int) ++ L = List.replicate m 0 ++ 0 :: L := by rw [List.replicate_succ', List.append_assoc]; rfl
  have hl : (List.replicate m (PV.int .u8 0)).length = m := List.length_replicate
  rw [e]
  simp only [splice, List.map_append, List.map_replicate, List.map_cons, List.length_singleton]
  rw [List.take_left' hl, show m + 1 = (List.replicate m (PV.int .u8 0)).length + 1 by rw [hl], List.drop_append]
  simp
theorem data_bytes (l : List Int) : (l.map (PV.int .u8)).all data1 = true := by
  rw [List.all_eq_true]
  intro x hx
  obtain ⟨y, _, rfl⟩ := List.mem_map.1 hx
  rfl
def digT : ByteArray := ⟨#[48, 49, 50, 51, 52, 53, 54, 55, 56, 57, 97, 98, 99, 100, 101, 102, 103, 104, 105, 106, 107, 108, 109, 110, 111, 112, 113, 114, 115, 116, 117, 118, 119, 120, 121, 122]⟩
def hexT : ByteArray := ⟨#[48, 49, 50, 51, 52, 53, 54, 55, 56, 57, 97, 98, 99, 100, 101, 102]⟩
theorem digT_at (d : Int) (h0 : 0 ≤ d) (h1 : d < 16) : ((b8 ⟨#[48, 49, 50, 51, 52, 53, 54, 55, 56, 57, 97, 98, 99, 100, 101, 102, 103, 104, 105, 106, 107, 108, 109, 110, 111, 112, 113, 114, 115, 116, 117, 118, 119, 120, 121, 122]⟩ d.toNat).toNat : Int) = hexD d := by
  obtain ⟨n, rfl⟩ := Int.eq_ofNat_of_zero_le h0
  have h : n < 16 := by omega
  revert h
  exact (by decide : ∀ n < 16, ((b8 ⟨#[48, 49, 50, 51, 52, 53, 54, 55, 56, 57, 97, 98, 99, 100, 101, 102, 103, 104, 105, 106, 107, 108, 109, 110, 111, 112, 113, 114, 115, 116, 117, 118, 119, 120, 121, 122]⟩ ((n : Nat) : Int).toNat).toNat : Int) = hexD ((n : Nat) : Int)) n
theorem hexT_at (d : Int) (h0 : 0 ≤ d) (h1 : d < 16) : ((b8 ⟨#[48, 49, 50, 51, 52, 53, 54, 55, 56, 57, 97, 98, 99, 100, 101, 102]⟩ d.toNat).toNat : Int) = hexD d := by
  obtain ⟨n, rfl⟩ := Int.eq_ofNat_of_zero_le h0
  have h : n < 16 := by omega
  revert h
  exact (by decide : ∀ n < 16, ((b8 ⟨#[48, 49, 50, 51, 52, 53, 54, 55, 56, 57, 97, 98, 99, 100, 101, 102]⟩ ((n : Nat) : Int).toNat).toNat : Int) = hexD ((n : Nat) : Int)) n
theorem clo_bytes (hp : Hp) (k : IntKind) (l : List Int) : clol (clo2 hp) (l.map (PV.int k)) = True := by
  induction l with
  | nil => rfl
  | cons x l ih => exact eq_true ⟨trivial, of_eq_true ih⟩
theorem and_u15 (u : Int) (h0 : 0 ≤ u) (h1 : u < 4294967296) : Go.bits .and .u64 u 15 = u % 16 := by
  obtain ⟨n, rfl⟩ := Int.eq_ofNat_of_zero_le h0
  have h4 : Go.bits .and .u64 (n : Int) 15 = IntKind.u64.wrap ((BitVec.ofInt 64 (n : Int) &&& BitVec.ofInt 64 15).toNat : Int) := rfl
  have h5 : n % 2 ^ 4 < 2 ^ 4 := Nat.mod_lt _ (by decide)
  rw [h4, BitVec.ofInt_natCast, BitVec.toNat_and, BitVec.toNat_ofNat, show (BitVec.ofInt 64 15).toNat = 2 ^ 4 - 1 from rfl, Nat.mod_eq_of_lt (by omega), Nat.and_two_pow_sub_one_eq_mod]
  show (((n % 2 ^ 4 : Nat) : Int)) % 18446744073709551616 = _
  omega
theorem shr4 (u : Int) (h0 : 0 ≤ u) : shr .u64 u 4 = u / 16 := by
  show u.fdiv 16 = _
  exact Int.fdiv_eq_ediv_of_nonneg u (by decide)
theorem laid_take (L : List Int) (h : L.length ≤ 7) : List.take (0 + (65 - (L.length : Int) - 1).toNat * 1) (List.replicate (65 - L.length) (0 : Int) ++ L) = List.replicate (64 - L.length) 0 := by
  rw [show 0 + (65 - (L.length : Int) - 1).toNat * 1 = 64 - L.length by omega, List.take_append_of_le_length (by rw [List.length_replicate]; omega), List.take_replicate]
  congr 1; omega
theorem laid_drop (L : List Int) (h : L.length ≤ 7) : List.drop (0 + (65 - (L.length : Int) - 1).toNat * 1 + 1) (List.replicate (65 - L.length) (0 : Int) ++ L) = L := by
  exact List.drop_left' (by rw [List.length_replicate]; omega)
theorem laid_all (L : List Int) (d : Int) (h : L.length ≤ 7) : List.drop (65 - (L.length : Int) - 1).toNat (List.take 65 (List.map (PV.int .u8) (List.replicate (64 - L.length) 0 ++ [d]) ++ List.map (PV.int .u8) L)) = List.map (PV.int .u8) (d :: L) := by
  rw [← List.map_append, List.append_assoc, List.take_of_length_le (by simp; omega), List.map_append]
  exact List.drop_left' (by simp; omega)
theorem fmtBits (n : Int) (h0 : 0 ≤ n) (h1 : n < 4294967296) : FnV Tryd.prog 51 [.far [], .int .u64 n, .int .i64 16, .bool false, .bool false] (fun r => ∃ k : Nat, k < 8 ∧ n < 16 ^ (k + 1) ∧ r = .tup [.far [], .str (strOf (hexL (k + 1) n))]) := by
  refine fn_v tok (n := 102) (rs := [.tmp 10, .tmp 11]) Tryd.func51 (by decide) rfl rfl rfl rfl ?_
  (try simp (maxSteps := 1000000) (disch := first | omega | (simp only [LN, numOk, verOk] <;> omega) | exact Ck.mk rfl) only [VC, T, Nat.reduceMul, Nat.reduceAdd, Nat.reduceSub, Nat.reduceLT, Nat.reduceEqDiff, Nat.reduceLeDiff, Nat.reduceBEq, reduceCtorEq, Int.reduceToNat, ↓reduceIte])
  repeat' (first
    | (refine br_go (fun e f => ?_) (fun e f => ?_) <;> (try simp only [BB] at f) <;> (try simp only [numOk, verOk] at f) <;> (try simp (maxSteps := 1000000) (disch := first | omega | (simp only [LN, numOk, verOk] <;> omega) | exact Ck.mk rfl) only [e, VC, T, Nat.reduceMul, Nat.reduceAdd, Nat.reduceSub, Nat.reduceLT, Nat.reduceEqDiff, Nat.reduceLeDiff, Nat.reduceBEq, reduceCtorEq, Int.reduceToNat, ↓reduceIte]) <;> (try clear e))
    | (refine pick_go (fun e f => ?_) (fun e f => ?_) <;> (try simp only [BB] at f) <;> (try simp only [numOk, verOk] at f) <;> (try simp (maxSteps := 1000000) (disch := first | omega | (simp only [LN, numOk, verOk] <;> omega) | exact Ck.mk rfl) only [e, VC, T, Nat.reduceMul, Nat.reduceAdd, Nat.reduceSub, Nat.reduceLT, Nat.reduceEqDiff, Nat.reduceLeDiff, Nat.reduceBEq, reduceCtorEq, Int.reduceToNat, ↓reduceIte]) <;> (try clear e))
    | ((first | refine call_x (isPow16) rfl ⟨rfl⟩ ?_ | refine call_x (tzu16) rfl ⟨rfl⟩ ?_); (try simp (maxSteps := 1000000) (disch := first | omega | (simp only [LN, numOk, verOk] <;> omega) | exact Ck.mk rfl) only [VC, T, Nat.reduceMul, Nat.reduceAdd, Nat.reduceSub, Nat.reduceLT, Nat.reduceEqDiff, Nat.reduceLeDiff, Nat.reduceBEq, reduceCtorEq, Int.reduceToNat, ↓reduceIte])))
  refine lp_go (fun x : Int × List Int => ⟨102, [(1, .int .u64 x.1), (12, .ref 832 0), (13, .int .i64 (65 - x.2.length)), (14, .int .u64 4), (15, .int .u64 16), (16, .int .u64 15), (3, .bool false), (4, .bool false), (10, .nils)], [(832, .box 104 ((List.replicate (65 - x.2.length) (0 : Int) ++ x.2).map (.int .u8)))]⟩) (fun x => Hx n x.1 x.2) (fun x => x.1.toNat) (n, []) ?_ (Hx.start h0) ?_
  · (simp (disch := first | omega | (simp only [LN, numOk, verOk] <;> omega) | exact Ck.mk rfl) only [SB, EQ, Nat.reduceMul, Nat.reduceAdd, Nat.reduceSub, Nat.reduceLT, Nat.reduceEqDiff, Nat.reduceLeDiff, Nat.reduceBEq, reduceCtorEq, Int.reduceToNat, ↓reduceIte]; try omega)
    exact ⟨by omega, rfl, of_eq_true (clo_bytes _ _ _)⟩
  · rintro ⟨u, L⟩ hx N hN
    simp only at hx ⊢
    have hl := hx.len h1
    have hu0 := hx.low
    have hun := hx.le
    have a1 := and_u15 u hu0 (by omega)
    have a2 := shr4 u hu0
    have t1 := laid_take L hl
    have t2 := laid_drop L hl
    have t3 := fun d => laid_all L d hl
    have d1 : bt ⟨#[48, 49, 50, 51, 52, 53, 54, 55, 56, 57, 97, 98, 99, 100, 101, 102, 103, 104, 105, 106, 107, 108, 109, 110, 111, 112, 113, 114, 115, 116, 117, 118, 119, 120, 121, 122]⟩ (u % 16) = hexD (u % 16) := digT_at _ (by omega) (by omega)
    have d2 : u < 16 → bt ⟨#[48, 49, 50, 51, 52, 53, 54, 55, 56, 57, 97, 98, 99, 100, 101, 102, 103, 104, 105, 106, 107, 108, 109, 110, 111, 112, 113, 114, 115, 116, 117, 118, 119, 120, 121, 122]⟩ u = hexD u := fun h => digT_at _ hu0 h
    (try simp (maxSteps := 1000000) (disch := first | omega | (simp only [LN, numOk, verOk, a1, a2, t1, t2, t3, d1, d2, List.all_append, data_bytes, Bool.and_self] <;> omega) | exact Ck.mk rfl) only [VC, T, Nat.reduceMul, Nat.reduceAdd, Nat.reduceSub, Nat.reduceLT, Nat.reduceEqDiff, Nat.reduceLeDiff, Nat.reduceBEq, reduceCtorEq, Int.reduceToNat, ↓reduceIte, a1, a2, t1, t2, t3, d1, d2, List.all_append, data_bytes, Bool.and_self])
    repeat' (first
      | (refine br_go (fun e f => ?_) (fun e f => ?_) <;> (try simp only [BB] at f) <;> (try simp only [numOk, verOk] at f) <;> (try simp (maxSteps := 1000000) (disch := first | omega | (simp only [LN, numOk, verOk, a1, a2, t1, t2, t3, d1, d2, List.all_append, data_bytes, Bool.and_self] <;> omega) | exact Ck.mk rfl) only [e, VC, T, Nat.reduceMul, Nat.reduceAdd, Nat.reduceSub, Nat.reduceLT, Nat.reduceEqDiff, Nat.reduceLeDiff, Nat.reduceBEq, reduceCtorEq, Int.reduceToNat, ↓reduceIte, a1, a2, t1, t2, t3, d1, d2, List.all_append, data_bytes, Bool.and_self]) <;> (try clear e))
      | (refine pick_go (fun e f => ?_) (fun e f => ?_) <;> (try simp only [BB] at f) <;> (try simp only [numOk, verOk] at f) <;> (try simp (maxSteps := 1000000) (disch := first | omega | (simp only [LN, numOk, verOk, a1, a2, t1, t2, t3, d1, d2, List.all_append, data_bytes, Bool.and_self] <;> omega) | exact Ck.mk rfl) only [e, VC, T, Nat.reduceMul, Nat.reduceAdd, Nat.reduceSub, Nat.reduceLT, Nat.reduceEqDiff, Nat.reduceLeDiff, Nat.reduceBEq, reduceCtorEq, Int.reduceToNat, ↓reduceIte, a1, a2, t1, t2, t3, d1, d2, List.all_append, data_bytes, Bool.and_self]) <;> (try clear e)))
    · refine hN (u / 16, hexD (u % 16) :: L) _ (hx.step f) (by simp only; omega) ?_
      (simp (disch := first | omega | (simp only [LN, numOk, verOk] <;> omega) | exact Ck.mk rfl) only [SB, EQ, Nat.reduceMul, Nat.reduceAdd, Nat.reduceSub, Nat.reduceLT, Nat.reduceEqDiff, Nat.reduceLeDiff, Nat.reduceBEq, reduceCtorEq, Int.reduceToNat, ↓reduceIte]; try omega)
      exact ⟨by omega, by rw [← List.map_append, List.append_assoc, show 65 - (L.length + 1) = 64 - L.length by omega]; rfl, of_eq_true (clo_bytes _ _ _)⟩
    · obtain ⟨q1, q2⟩ := hx.fin f
      rw [show PV.int .u8 (hexD u) :: List.map (PV.int .u8) L = (hexL (L.length + 1) n).map (PV.int .u8) by rw [← q1]; rfl]
      refine ⟨fun z hz => ?_, L.length, by omega, q2, by rw [strP_map .u8 _ rfl]⟩
      obtain ⟨x, hx', rfl⟩ := List.mem_map.1 hz
      have := hexL_range _ _ x hx'
      exact ⟨by omega, by omega⟩
theorem intFormat16 (n : Int) (h0 : 0 ≤ n) (h1 : n < 4294967296) : FnV Tryd.prog 39 [.int .i64 n, .int .i64 16] (fun r => ∃ k : Nat, k < 8 ∧ n < 16 ^ (k + 1) ∧ r = .str (strOf (hexL (k + 1) n))) := by
  have e1 : n % 18446744073709551616 = n := by omega
  have e2 : decide (n < 0) = false := decide_eq_false (by omega)
  refine fn_v tok (n := 54) (rs := [.tmp 4]) Tryd.func39 (by decide) rfl rfl rfl rfl ?_
  (try simp (maxSteps := 1000000) (disch := first | omega | (simp only [LN, numOk, verOk, e1, e2] <;> omega) | exact Ck.mk rfl) only [VC, T, Nat.reduceMul, Nat.reduceAdd, Nat.reduceSub, Nat.reduceLT, Nat.reduceEqDiff, Nat.reduceLeDiff, Nat.reduceBEq, reduceCtorEq, Int.reduceToNat, ↓reduceIte, e1, e2])
  repeat' (first
    | (refine br_go (fun e f => ?_) (fun e f => ?_) <;> (try simp only [BB] at f) <;> (try simp only [numOk, verOk] at f) <;> (try simp (maxSteps := 1000000) (disch := first | omega | (simp only [LN, numOk, verOk, e1, e2] <;> omega) | exact Ck.mk rfl) only [e, VC, T, Nat.reduceMul, Nat.reduceAdd, Nat.reduceSub, Nat.reduceLT, Nat.reduceEqDiff, Nat.reduceLeDiff, Nat.reduceBEq, reduceCtorEq, Int.reduceToNat, ↓reduceIte, e1, e2]) <;> (try clear e))
    | (refine pick_go (fun e f => ?_) (fun e f => ?_) <;> (try simp only [BB] at f) <;> (try simp only [numOk, verOk] at f) <;> (try simp (maxSteps := 1000000) (disch := first | omega | (simp only [LN, numOk, verOk, e1, e2] <;> omega) | exact Ck.mk rfl) only [e, VC, T, Nat.reduceMul, Nat.reduceAdd, Nat.reduceSub, Nat.reduceLT, Nat.reduceEqDiff, Nat.reduceLeDiff, Nat.reduceBEq, reduceCtorEq, Int.reduceToNat, ↓reduceIte, e1, e2]) <;> (try clear e)))
  refine call_v (fmtBits n h0 h1) rfl ?_
  rintro _ ⟨k, hk, hn, rfl⟩
  refine ⟨⟨rfl⟩, ?_⟩
  (try simp (maxSteps := 1000000) (disch := first | omega | (simp only [LN, numOk, verOk] <;> omega) | exact Ck.mk rfl) only [VC, T, Nat.reduceMul, Nat.reduceAdd, Nat.reduceSub, Nat.reduceLT, Nat.reduceEqDiff, Nat.reduceLeDiff, Nat.reduceBEq, reduceCtorEq, Int.reduceToNat, ↓reduceIte])
  repeat' (first
    | (refine br_go (fun e f => ?_) (fun e f => ?_) <;> (try simp only [BB] at f) <;> (try simp only [numOk, verOk] at f) <;> (try simp (maxSteps := 1000000) (disch := first | omega | (simp only [LN, numOk, verOk] <;> omega) | exact Ck.mk rfl) only [e, VC, T, Nat.reduceMul, Nat.reduceAdd, Nat.reduceSub, Nat.reduceLT, Nat.reduceEqDiff, Nat.reduceLeDiff, Nat.reduceBEq, reduceCtorEq, Int.reduceToNat, ↓reduceIte]) <;> (try clear e))
    | (refine pick_go (fun e f => ?_) (fun e f => ?_) <;> (try simp only [BB] at f) <;> (try simp only [numOk, verOk] at f) <;> (try simp (maxSteps := 1000000) (disch := first | omega | (simp only [LN, numOk, verOk] <;> omega) | exact Ck.mk rfl) only [e, VC, T, Nat.reduceMul, Nat.reduceAdd, Nat.reduceSub, Nat.reduceLT, Nat.reduceEqDiff, Nat.reduceLeDiff, Nat.reduceBEq, reduceCtorEq, Int.reduceToNat, ↓reduceIte]) <;> (try clear e)))
  exact ⟨k, hk, hn, rfl⟩
theorem format16 (n : Int) (h0 : 0 ≤ n) (h1 : n < 4294967296) : FnV Tryd.prog 30 [.int .i64 n, .int .i64 16] (fun r => ∃ k : Nat, k < 8 ∧ n < 16 ^ (k + 1) ∧ r = .str (strOf (hexL (k + 1) n))) := by
  refine fn_v tok (n := 8) (rs := [.tmp 4]) Tryd.func30 (by decide) rfl rfl rfl rfl ?_
  (try simp (maxSteps := 1000000) (disch := first | omega | (simp only [LN, numOk, verOk] <;> omega) | exact Ck.mk rfl) only [VC, T, Nat.reduceMul, Nat.reduceAdd, Nat.reduceSub, Nat.reduceLT, Nat.reduceEqDiff, Nat.reduceLeDiff, Nat.reduceBEq, reduceCtorEq, Int.reduceToNat, ↓reduceIte])
  repeat' (first
    | (refine br_go (fun e f => ?_) (fun e f => ?_) <;> (try simp only [BB] at f) <;> (try simp only [numOk, verOk] at f) <;> (try simp (maxSteps := 1000000) (disch := first | omega | (simp only [LN, numOk, verOk] <;> omega) | exact Ck.mk rfl) only [e, VC, T, Nat.reduceMul, Nat.reduceAdd, Nat.reduceSub, Nat.reduceLT, Nat.reduceEqDiff, Nat.reduceLeDiff, Nat.reduceBEq, reduceCtorEq, Int.reduceToNat, ↓reduceIte]) <;> (try clear e))
    | (refine pick_go (fun e f => ?_) (fun e f => ?_) <;> (try simp only [BB] at f) <;> (try simp only [numOk, verOk] at f) <;> (try simp (maxSteps := 1000000) (disch := first | omega | (simp only [LN, numOk, verOk] <;> omega) | exact Ck.mk rfl) only [e, VC, T, Nat.reduceMul, Nat.reduceAdd, Nat.reduceSub, Nat.reduceLT, Nat.reduceEqDiff, Nat.reduceLeDiff, Nat.reduceBEq, reduceCtorEq, Int.reduceToNat, ↓reduceIte]) <;> (try clear e)))
  refine call_v (intFormat16 n h0 h1) rfl ?_
  rintro _ ⟨k, hk, hn, rfl⟩
  refine ⟨⟨rfl⟩, ?_⟩
  (try simp (maxSteps := 1000000) (disch := first | omega | (simp only [LN, numOk, verOk] <;> omega) | exact Ck.mk rfl) only [VC, T, Nat.reduceMul, Nat.reduceAdd, Nat.reduceSub, Nat.reduceLT, Nat.reduceEqDiff, Nat.reduceLeDiff, Nat.reduceBEq, reduceCtorEq, Int.reduceToNat, ↓reduceIte])
  repeat' (first
    | (refine br_go (fun e f => ?_) (fun e f => ?_) <;> (try simp only [BB] at f) <;> (try simp only [numOk, verOk] at f) <;> (try simp (maxSteps := 1000000) (disch := first | omega | (simp only [LN, numOk, verOk] <;> omega) | exact Ck.mk rfl) only [e, VC, T, Nat.reduceMul, Nat.reduceAdd, Nat.reduceSub, Nat.reduceLT, Nat.reduceEqDiff, Nat.reduceLeDiff, Nat.reduceBEq, reduceCtorEq, Int.reduceToNat, ↓reduceIte]) <;> (try clear e))
    | (refine pick_go (fun e f => ?_) (fun e f => ?_) <;> (try simp only [BB] at f) <;> (try simp only [numOk, verOk] at f) <;> (try simp (maxSteps := 1000000) (disch := first | omega | (simp only [LN, numOk, verOk] <;> omega) | exact Ck.mk rfl) only [e, VC, T, Nat.reduceMul, Nat.reduceAdd, Nat.reduceSub, Nat.reduceLT, Nat.reduceEqDiff, Nat.reduceLeDiff, Nat.reduceBEq, reduceCtorEq, Int.reduceToNat, ↓reduceIte]) <;> (try clear e)))
  exact ⟨k, hk, hn, rfl⟩
theorem mul64_1 (c : Int) (h : c = 2 ∨ c = 3 ∨ c = 4 ∨ c = 5 ∨ c = 6 ∨ c = 7) : Fn Tryd.prog 53 [.int .u64 1, .int .u64 c] [] (.tup [.int .u64 0, .int .u64 c]) [] := by
  have h1 : Go.bits .and .u64 1 4294967295 = 1 := by decide
  have h2 : Go.bits .and .u64 0 4294967295 = 0 := by decide
  have h3 : Go.bits .and .u64 c 4294967295 = c := by rcases h with rfl | rfl | rfl | rfl | rfl | rfl <;> decide
  have h4 : shr .u64 1 32 = 0 := by decide
  have h5 : shr .u64 0 32 = 0 := by decide
  have h6 : shr .u64 c 32 = 0 := by rcases h with rfl | rfl | rfl | rfl | rfl | rfl <;> decide
  have h7 : c % 18446744073709551616 = c := by omega
  refine fn_x tok (n := 51) (rs := [.tmp 4, .tmp 5]) Tryd.func53 (by decide) rfl rfl rfl rfl ?_
  (try simp (maxSteps := 1000000) (disch := first | omega | (simp only [LN, numOk, verOk, h1, h2, h3, h4, h5, h6, h7, Int.one_mul, Int.zero_mul, Int.mul_zero, Int.add_zero, Int.zero_add, Int.zero_emod] <;> omega) | exact Ck.mk rfl) only [VC, T, Nat.reduceMul, Nat.reduceAdd, Nat.reduceSub, Nat.reduceLT, Nat.reduceEqDiff, Nat.reduceLeDiff, Nat.reduceBEq, reduceCtorEq, Int.reduceToNat, ↓reduceIte, h1, h2, h3, h4, h5, h6, h7, Int.one_mul, Int.zero_mul, Int.mul_zero, Int.add_zero, Int.zero_add, Int.zero_emod])
  repeat' (first
    | (refine br_go (fun e f => ?_) (fun e f => ?_) <;> (try simp only [BB] at f) <;> (try simp only [numOk, verOk] at f) <;> (try simp (maxSteps := 1000000) (disch := first | omega | (simp only [LN, numOk, verOk, h1, h2, h3, h4, h5, h6, h7, Int.one_mul, Int.zero_mul, Int.mul_zero, Int.add_zero, Int.zero_add, Int.zero_emod] <;> omega) | exact Ck.mk rfl) only [e, VC, T, Nat.reduceMul, Nat.reduceAdd, Nat.reduceSub, Nat.reduceLT, Nat.reduceEqDiff, Nat.reduceLeDiff, Nat.reduceBEq, reduceCtorEq, Int.reduceToNat, ↓reduceIte, h1, h2, h3, h4, h5, h6, h7, Int.one_mul, Int.zero_mul, Int.mul_zero, Int.add_zero, Int.zero_add, Int.zero_emod]) <;> (try clear e))
    | (refine pick_go (fun e f => ?_) (fun e f => ?_) <;> (try simp only [BB] at f) <;> (try simp only [numOk, verOk] at f) <;> (try simp (maxSteps := 1000000) (disch := first | omega | (simp only [LN, numOk, verOk, h1, h2, h3, h4, h5, h6, h7, Int.one_mul, Int.zero_mul, Int.mul_zero, Int.add_zero, Int.zero_add, Int.zero_emod] <;> omega) | exact Ck.mk rfl) only [e, VC, T, Nat.reduceMul, Nat.reduceAdd, Nat.reduceSub, Nat.reduceLT, Nat.reduceEqDiff, Nat.reduceLeDiff, Nat.reduceBEq, reduceCtorEq, Int.reduceToNat, ↓reduceIte, h1, h2, h3, h4, h5, h6, h7, Int.one_mul, Int.zero_mul, Int.mul_zero, Int.add_zero, Int.zero_add, Int.zero_emod]) <;> (try clear e)))
theorem mul_1 (c : Int) (h : c = 2 ∨ c = 3 ∨ c = 4 ∨ c = 5 ∨ c = 6 ∨ c = 7) : Fn Tryd.prog 40 [.int .u64 1, .int .u64 c] [] (.tup [.int .u64 0, .int .u64 c]) [] := by
  refine fn_x tok (n := 30) (rs := [.tmp 4, .tmp 5]) Tryd.func40 (by decide) rfl rfl rfl rfl ?_
  (try simp (maxSteps := 1000000) (disch := first | omega | (simp only [LN, numOk, verOk] <;> omega) | exact Ck.mk rfl) only [VC, T, Nat.reduceMul, Nat.reduceAdd, Nat.reduceSub, Nat.reduceLT, Nat.reduceEqDiff, Nat.reduceLeDiff, Nat.reduceBEq, reduceCtorEq, Int.reduceToNat, ↓reduceIte])
  repeat' (first
    | (refine br_go (fun e f => ?_) (fun e f => ?_) <;> (try simp only [BB] at f) <;> (try simp only [numOk, verOk] at f) <;> (try simp (maxSteps := 1000000) (disch := first | omega | (simp only [LN, numOk, verOk] <;> omega) | exact Ck.mk rfl) only [e, VC, T, Nat.reduceMul, Nat.reduceAdd, Nat.reduceSub, Nat.reduceLT, Nat.reduceEqDiff, Nat.reduceLeDiff, Nat.reduceBEq, reduceCtorEq, Int.reduceToNat, ↓reduceIte]) <;> (try clear e))
    | (refine pick_go (fun e f => ?_) (fun e f => ?_) <;> (try simp only [BB] at f) <;> (try simp only [numOk, verOk] at f) <;> (try simp (maxSteps := 1000000) (disch := first | omega | (simp only [LN, numOk, verOk] <;> omega) | exact Ck.mk rfl) only [e, VC, T, Nat.reduceMul, Nat.reduceAdd, Nat.reduceSub, Nat.reduceLT, Nat.reduceEqDiff, Nat.reduceLeDiff, Nat.reduceBEq, reduceCtorEq, Int.reduceToNat, ↓reduceIte]) <;> (try clear e))
    | ((first | refine call_x (mul64_1 c h) rfl ⟨rfl⟩ ?_); (try simp (maxSteps := 1000000) (disch := first | omega | (simp only [LN, numOk, verOk] <;> omega) | exact Ck.mk rfl) only [VC, T, Nat.reduceMul, Nat.reduceAdd, Nat.reduceSub, Nat.reduceLT, Nat.reduceEqDiff, Nat.reduceLeDiff, Nat.reduceBEq, reduceCtorEq, Int.reduceToNat, ↓reduceIte])))
theorem prefixOf0 (s : ByteArray) (h : 1 ≤ s.size) : Fn Tryd.prog 54 [.str s, .str ⟨#[48]⟩] [] (.bool (decide (bt s 0 = 48))) [] := by
  have e : (s.extract 0 1 = ⟨#[48]⟩) = (bt s 0 = 48) := by
    obtain ⟨⟨l⟩⟩ := s
    cases l with
    | nil => exact absurd h (by decide)
    | cons x l =>
      have e1 : ByteArray.extract ⟨⟨x :: l⟩⟩ 0 1 = ⟨#[x]⟩ := ByteArray.ext (by simp [ByteArray.data_extract])
      rw [e1]
      show _ = ((x.toNat : Int) = 48)
      refine propext ⟨fun h => ?_, fun h => ?_⟩
      · have : x = 48 := by simpa using h
        subst this; rfl
      · have : x = 48 := UInt8.toNat.inj (by show x.toNat = 48; omega)
        rw [this]
  refine fn_x tok (n := 18) (rs := [.tmp 4]) Tryd.func54 (by decide) rfl rfl rfl rfl ?_
  (try simp (maxSteps := 1000000) (disch := first | omega | (simp only [LN, numOk, verOk, e] <;> omega) | exact Ck.mk rfl) only [VC, T, Nat.reduceMul, Nat.reduceAdd, Nat.reduceSub, Nat.reduceLT, Nat.reduceEqDiff, Nat.reduceLeDiff, Nat.reduceBEq, reduceCtorEq, Int.reduceToNat, ↓reduceIte, e])
  repeat' (first
    | (refine br_go (fun e f => ?_) (fun e f => ?_) <;> (try simp only [BB] at f) <;> (try simp only [numOk, verOk] at f) <;> (try simp (maxSteps := 1000000) (disch := first | omega | (simp only [LN, numOk, verOk, e] <;> omega) | exact Ck.mk rfl) only [e, VC, T, Nat.reduceMul, Nat.reduceAdd, Nat.reduceSub, Nat.reduceLT, Nat.reduceEqDiff, Nat.reduceLeDiff, Nat.reduceBEq, reduceCtorEq, Int.reduceToNat, ↓reduceIte, e]) <;> (try clear e))
    | (refine pick_go (fun e f => ?_) (fun e f => ?_) <;> (try simp only [BB] at f) <;> (try simp only [numOk, verOk] at f) <;> (try simp (maxSteps := 1000000) (disch := first | omega | (simp only [LN, numOk, verOk, e] <;> omega) | exact Ck.mk rfl) only [e, VC, T, Nat.reduceMul, Nat.reduceAdd, Nat.reduceSub, Nat.reduceLT, Nat.reduceEqDiff, Nat.reduceLeDiff, Nat.reduceBEq, reduceCtorEq, Int.reduceToNat, ↓reduceIte, e]) <;> (try clear e)))
theorem hasPrefix0 (s : ByteArray) (h : 1 ≤ s.size) : Fn Tryd.prog 41 [.str s, .str ⟨#[48]⟩] [] (.bool (decide (bt s 0 = 48))) [] := by
  refine fn_x tok (n := 8) (rs := [.tmp 4]) Tryd.func41 (by decide) rfl rfl rfl rfl ?_
  (try simp (maxSteps := 1000000) (disch := first | omega | (simp only [LN, numOk, verOk] <;> omega) | exact Ck.mk rfl) only [VC, T, Nat.reduceMul, Nat.reduceAdd, Nat.reduceSub, Nat.reduceLT, Nat.reduceEqDiff, Nat.reduceLeDiff, Nat.reduceBEq, reduceCtorEq, Int.reduceToNat, ↓reduceIte])
  repeat' (first
    | (refine br_go (fun e f => ?_) (fun e f => ?_) <;> (try simp only [BB] at f) <;> (try simp only [numOk, verOk] at f) <;> (try simp (maxSteps := 1000000) (disch := first | omega | (simp only [LN, numOk, verOk] <;> omega) | exact Ck.mk rfl) only [e, VC, T, Nat.reduceMul, Nat.reduceAdd, Nat.reduceSub, Nat.reduceLT, Nat.reduceEqDiff, Nat.reduceLeDiff, Nat.reduceBEq, reduceCtorEq, Int.reduceToNat, ↓reduceIte]) <;> (try clear e))
    | (refine pick_go (fun e f => ?_) (fun e f => ?_) <;> (try simp only [BB] at f) <;> (try simp only [numOk, verOk] at f) <;> (try simp (maxSteps := 1000000) (disch := first | omega | (simp only [LN, numOk, verOk] <;> omega) | exact Ck.mk rfl) only [e, VC, T, Nat.reduceMul, Nat.reduceAdd, Nat.reduceSub, Nat.reduceLT, Nat.reduceEqDiff, Nat.reduceLeDiff, Nat.reduceBEq, reduceCtorEq, Int.reduceToNat, ↓reduceIte]) <;> (try clear e))
    | ((first | refine call_x (prefixOf0 s h) rfl ⟨rfl⟩ ?_); (try simp (maxSteps := 1000000) (disch := first | omega | (simp only [LN, numOk, verOk] <;> omega) | exact Ck.mk rfl) only [VC, T, Nat.reduceMul, Nat.reduceAdd, Nat.reduceSub, Nat.reduceLT, Nat.reduceEqDiff, Nat.reduceLeDiff, Nat.reduceBEq, reduceCtorEq, Int.reduceToNat, ↓reduceIte])))
theorem repeat0 (c : Int) (h : 0 ≤ c ∧ c ≤ 7) : Fn Tryd.prog 31 [.str ⟨#[48]⟩, .int .i64 c] [] (.str (strOf (List.replicate c.toNat 48))) [] := by
  obtain rfl | rfl | h : c = 0 ∨ c = 1 ∨ (c = 2 ∨ c = 3 ∨ c = 4 ∨ c = 5 ∨ c = 6 ∨ c = 7) := by omega
  · refine fn_x tok (n := 125) (rs := [.tmp 4]) Tryd.func31 (by decide) rfl rfl rfl rfl ?_
    (try simp (maxSteps := 1000000) (disch := first | omega | (simp only [LN, numOk, verOk] <;> omega) | exact Ck.mk rfl) only [VC, T, Nat.reduceMul, Nat.reduceAdd, Nat.reduceSub, Nat.reduceLT, Nat.reduceEqDiff, Nat.reduceLeDiff, Nat.reduceBEq, reduceCtorEq, Int.reduceToNat, ↓reduceIte])
    repeat' (first
      | (refine br_go (fun e f => ?_) (fun e f => ?_) <;> (try simp only [BB] at f) <;> (try simp only [numOk, verOk] at f) <;> (try simp (maxSteps := 1000000) (disch := first | omega | (simp only [LN, numOk, verOk] <;> omega) | exact Ck.mk rfl) only [e, VC, T, Nat.reduceMul, Nat.reduceAdd, Nat.reduceSub, Nat.reduceLT, Nat.reduceEqDiff, Nat.reduceLeDiff, Nat.reduceBEq, reduceCtorEq, Int.reduceToNat, ↓reduceIte]) <;> (try clear e))
      | (refine pick_go (fun e f => ?_) (fun e f => ?_) <;> (try simp only [BB] at f) <;> (try simp only [numOk, verOk] at f) <;> (try simp (maxSteps := 1000000) (disch := first | omega | (simp only [LN, numOk, verOk] <;> omega) | exact Ck.mk rfl) only [e, VC, T, Nat.reduceMul, Nat.reduceAdd, Nat.reduceSub, Nat.reduceLT, Nat.reduceEqDiff, Nat.reduceLeDiff, Nat.reduceBEq, reduceCtorEq, Int.reduceToNat, ↓reduceIte]) <;> (try clear e)))
    rfl
  · refine fn_x tok (n := 125) (rs := [.tmp 4]) Tryd.func31 (by decide) rfl rfl rfl rfl ?_
    (try simp (maxSteps := 1000000) (disch := first | omega | (simp only [LN, numOk, verOk] <;> omega) | exact Ck.mk rfl) only [VC, T, Nat.reduceMul, Nat.reduceAdd, Nat.reduceSub, Nat.reduceLT, Nat.reduceEqDiff, Nat.reduceLeDiff, Nat.reduceBEq, reduceCtorEq, Int.reduceToNat, ↓reduceIte])
    repeat' (first
      | (refine br_go (fun e f => ?_) (fun e f => ?_) <;> (try simp only [BB] at f) <;> (try simp only [numOk, verOk] at f) <;> (try simp (maxSteps := 1000000) (disch := first | omega | (simp only [LN, numOk, verOk] <;> omega) | exact Ck.mk rfl) only [e, VC, T, Nat.reduceMul, Nat.reduceAdd, Nat.reduceSub, Nat.reduceLT, Nat.reduceEqDiff, Nat.reduceLeDiff, Nat.reduceBEq, reduceCtorEq, Int.reduceToNat, ↓reduceIte]) <;> (try clear e))
      | (refine pick_go (fun e f => ?_) (fun e f => ?_) <;> (try simp only [BB] at f) <;> (try simp only [numOk, verOk] at f) <;> (try simp (maxSteps := 1000000) (disch := first | omega | (simp only [LN, numOk, verOk] <;> omega) | exact Ck.mk rfl) only [e, VC, T, Nat.reduceMul, Nat.reduceAdd, Nat.reduceSub, Nat.reduceLT, Nat.reduceEqDiff, Nat.reduceLeDiff, Nat.reduceBEq, reduceCtorEq, Int.reduceToNat, ↓reduceIte]) <;> (try clear e)))
    rfl
  · have h7 : c % 18446744073709551616 = c := by omega
    have h8 : (1 : Int) % 18446744073709551616 = 1 := by decide
    refine fn_x tok (n := 125) (rs := [.tmp 4]) Tryd.func31 (by decide) rfl rfl rfl rfl ?_
    have b0 : bt ⟨#[48]⟩ 0 = 48 := by decide
    have w1 : ∀ l m : List UInt8, bt ⟨((32 :: l).append m).toArray⟩ 0 = 32 := fun _ _ => rfl
    have w2 : ∀ l m : List UInt8, bt ⟨((45 :: l).append m).toArray⟩ 0 = 45 := fun _ _ => rfl
    have w3 : ∀ l : List UInt8, bt ⟨(48 :: l).toArray⟩ 0 = 48 := fun _ => rfl
    have z1 : ∀ l m : List UInt8, 1 ≤ ByteArray.size ⟨((32 :: l).append m).toArray⟩ := fun l m => Nat.succ_le_succ (Nat.zero_le _)
    have z2 : ∀ l m : List UInt8, 1 ≤ ByteArray.size ⟨((45 :: l).append m).toArray⟩ := fun l m => Nat.succ_le_succ (Nat.zero_le _)
    have z3 : ∀ l : List UInt8, 1 ≤ ByteArray.size ⟨(48 :: l).toArray⟩ := fun l => Nat.succ_le_succ (Nat.zero_le _)
    (try simp (maxSteps := 1000000) (disch := first | omega | (simp only [LN, numOk, verOk, h7, h8, b0, w1, w2, w3, decide_true] <;> omega) | exact Ck.mk rfl) only [VC, T, Nat.reduceMul, Nat.reduceAdd, Nat.reduceSub, Nat.reduceLT, Nat.reduceEqDiff, Nat.reduceLeDiff, Nat.reduceBEq, reduceCtorEq, Int.reduceToNat, ↓reduceIte, h7, h8, b0, w1, w2, w3, decide_true])
    repeat' (first
      | (refine br_go (fun e f => ?_) (fun e f => ?_) <;> (try simp only [BB] at f) <;> (try simp only [numOk, verOk] at f) <;> (try simp (maxSteps := 1000000) (disch := first | omega | (simp only [LN, numOk, verOk, h7, h8, b0, w1, w2, w3, decide_true] <;> omega) | exact Ck.mk rfl) only [e, VC, T, Nat.reduceMul, Nat.reduceAdd, Nat.reduceSub, Nat.reduceLT, Nat.reduceEqDiff, Nat.reduceLeDiff, Nat.reduceBEq, reduceCtorEq, Int.reduceToNat, ↓reduceIte, h7, h8, b0, w1, w2, w3, decide_true]) <;> (try clear e))
      | (refine pick_go (fun e f => ?_) (fun e f => ?_) <;> (try simp only [BB] at f) <;> (try simp only [numOk, verOk] at f) <;> (try simp (maxSteps := 1000000) (disch := first | omega | (simp only [LN, numOk, verOk, h7, h8, b0, w1, w2, w3, decide_true] <;> omega) | exact Ck.mk rfl) only [e, VC, T, Nat.reduceMul, Nat.reduceAdd, Nat.reduceSub, Nat.reduceLT, Nat.reduceEqDiff, Nat.reduceLeDiff, Nat.reduceBEq, reduceCtorEq, Int.reduceToNat, ↓reduceIte, h7, h8, b0, w1, w2, w3, decide_true]) <;> (try clear e))
      | ((first | refine call_x (mul_1 c h) rfl ⟨rfl⟩ ?_ | refine call_x (hasPrefix0 _ (z1 _ _)) rfl ⟨rfl⟩ ?_ | refine call_x (hasPrefix0 _ (z2 _ _)) rfl ⟨rfl⟩ ?_ | refine call_x (hasPrefix0 _ (z3 _)) rfl ⟨rfl⟩ ?_); (try simp (maxSteps := 1000000) (disch := first | omega | (simp only [LN, numOk, verOk, h7, h8, b0, w1, w2, w3, decide_true] <;> omega) | exact Ck.mk rfl) only [VC, T, Nat.reduceMul, Nat.reduceAdd, Nat.reduceSub, Nat.reduceLT, Nat.reduceEqDiff, Nat.reduceLeDiff, Nat.reduceBEq, reduceCtorEq, Int.reduceToNat, ↓reduceIte, h7, h8, b0, w1, w2, w3, decide_true])))
    rcases h with rfl | rfl | rfl | rfl | rfl | rfl <;> rfl
theorem strOf_app (l m : List Int) : strOf (l ++ m) = strOf l ++ strOf m := by
  unfold strOf
  refine ByteArray.ext ?_
  rw [ByteArray.data_append, List.map_append, List.append_toArray]
theorem shr16 (n : Int) (j : Nat) (h0 : 0 ≤ n) (h : j ≤ 7) : shr .i64 n (4 * (7 - (j : Int)) % 18446744073709551616) = n / 16 ^ (7 - j) := by
  unfold shr
  have e : min (4 * (7 - (j : Int)) % 18446744073709551616).toNat IntKind.i64.bits = 4 * (7 - j) := by
    show min _ 64 = _
    omega
  rw [e, Int.pow_mul]
  exact Int.fdiv_eq_ediv_of_nonneg _ (Int.le_of_lt (Int.pow_pos (by decide)))
theorem hex_next (n : Int) (j : Nat) (h : j ≤ 7) : hexL (j + 1) (n / 16 ^ (8 - (j + 1))) = hexL j (n / 16 ^ (8 - j)) ++ [hexD (n / 16 ^ (7 - j) % 16)] := by
  rw [hexL, show 8 - (j + 1) = 7 - j by omega, Int.ediv_ediv_of_nonneg (Int.le_of_lt (Int.pow_pos (by decide))), ← Int.pow_succ, show (7 - j).succ = 8 - j by omega]
theorem segT_form (n : Int) (h : numOk n) (k : Nat) (hk : k < 8) (hn : n < 16 ^ (k + 1)) : ⟨#[115]⟩ ++ strOf (List.replicate (8 - ((k : Int) + 1)).toNat 48) ++ strOf (hexL (k + 1) n) ++ ⟨#[46, 115, 101, 103]⟩ = segT n := by
  have e := hexL_pad (k + 1) (8 - (k + 1)) n h.1 hn
  rw [show k + 1 + (8 - (k + 1)) = 8 by omega] at e
  unfold segT segL
  rw [if_pos h, e, show (8 - ((k : Int) + 1)).toNat = 8 - (k + 1) by omega]
  rw [strOf_app ([115] ++ (List.replicate (8 - (k + 1)) 48 ++ hexL (k + 1) n)), strOf_app [115], strOf_app (List.replicate (8 - (k + 1)) 48), ByteArray.append_assoc, ByteArray.append_assoc, ByteArray.append_assoc, ByteArray.append_assoc]
  rfl
theorem impl_SegmentName (n : Int) (hn : i64 n) : Fn Tryd.prog 18 [.int .i64 n] [] (.str (segT n)) [] := by
  by_cases h : numOk n
  · have hs := segT_form n h
    generalize segT n = q at *
    obtain ⟨h0, h1⟩ := h
    refine fn_x tok (n := 17) (rs := [.tmp 2]) Tryd.func18 (by decide) rfl rfl rfl rfl ?_
    (try simp (maxSteps := 1000000) (disch := first | omega | (simp only [LN, numOk, verOk] <;> omega) | exact Ck.mk rfl) only [VC, T, Nat.reduceMul, Nat.reduceAdd, Nat.reduceSub, Nat.reduceLT, Nat.reduceEqDiff, Nat.reduceLeDiff, Nat.reduceBEq, reduceCtorEq, Int.reduceToNat, ↓reduceIte])
    repeat' (first
      | (refine br_go (fun e f => ?_) (fun e f => ?_) <;> (try simp only [BB] at f) <;> (try simp only [numOk, verOk] at f) <;> (try simp (maxSteps := 1000000) (disch := first | omega | (simp only [LN, numOk, verOk] <;> omega) | exact Ck.mk rfl) only [e, VC, T, Nat.reduceMul, Nat.reduceAdd, Nat.reduceSub, Nat.reduceLT, Nat.reduceEqDiff, Nat.reduceLeDiff, Nat.reduceBEq, reduceCtorEq, Int.reduceToNat, ↓reduceIte]) <;> (try clear e))
      | (refine pick_go (fun e f => ?_) (fun e f => ?_) <;> (try simp only [BB] at f) <;> (try simp only [numOk, verOk] at f) <;> (try simp (maxSteps := 1000000) (disch := first | omega | (simp only [LN, numOk, verOk] <;> omega) | exact Ck.mk rfl) only [e, VC, T, Nat.reduceMul, Nat.reduceAdd, Nat.reduceSub, Nat.reduceLT, Nat.reduceEqDiff, Nat.reduceLeDiff, Nat.reduceBEq, reduceCtorEq, Int.reduceToNat, ↓reduceIte]) <;> (try clear e))
      | ((first | refine call_x (impl_isNumber n) rfl ⟨rfl⟩ ?_); (try simp (maxSteps := 1000000) (disch := first | omega | (simp only [LN, numOk, verOk] <;> omega) | exact Ck.mk rfl) only [VC, T, Nat.reduceMul, Nat.reduceAdd, Nat.reduceSub, Nat.reduceLT, Nat.reduceEqDiff, Nat.reduceLeDiff, Nat.reduceBEq, reduceCtorEq, Int.reduceToNat, ↓reduceIte])))
    refine call_v (format16 n h0 (by omega)) rfl ?_
    rintro _ ⟨k, hk, hx, rfl⟩
    refine ⟨⟨rfl⟩, ?_⟩
    have hz := strOf_size (hexL (k + 1) n)
    rw [hexL_length] at hz
    have hr := repeat0 (8 - ((k : Int) + 1)) (by omega)
    have hz2 := strOf_size (List.replicate (8 - ((k : Int) + 1)).toNat 48)
    rw [List.length_replicate] at hz2
    have hs := hs k hk hx
    (try simp (maxSteps := 1000000) (disch := first | omega | (simp only [LN, numOk, verOk, hz] <;> omega) | exact Ck.mk rfl) only [VC, T, Nat.reduceMul, Nat.reduceAdd, Nat.reduceSub, Nat.reduceLT, Nat.reduceEqDiff, Nat.reduceLeDiff, Nat.reduceBEq, reduceCtorEq, Int.reduceToNat, ↓reduceIte, hz])
    repeat' (first
      | (refine br_go (fun e f => ?_) (fun e f => ?_) <;> (try simp only [BB] at f) <;> (try simp only [numOk, verOk] at f) <;> (try simp (maxSteps := 1000000) (disch := first | omega | (simp only [LN, numOk, verOk, hz] <;> omega) | exact Ck.mk rfl) only [e, VC, T, Nat.reduceMul, Nat.reduceAdd, Nat.reduceSub, Nat.reduceLT, Nat.reduceEqDiff, Nat.reduceLeDiff, Nat.reduceBEq, reduceCtorEq, Int.reduceToNat, ↓reduceIte, hz]) <;> (try clear e))
      | (refine pick_go (fun e f => ?_) (fun e f => ?_) <;> (try simp only [BB] at f) <;> (try simp only [numOk, verOk] at f) <;> (try simp (maxSteps := 1000000) (disch := first | omega | (simp only [LN, numOk, verOk, hz] <;> omega) | exact Ck.mk rfl) only [e, VC, T, Nat.reduceMul, Nat.reduceAdd, Nat.reduceSub, Nat.reduceLT, Nat.reduceEqDiff, Nat.reduceLeDiff, Nat.reduceBEq, reduceCtorEq, Int.reduceToNat, ↓reduceIte, hz]) <;> (try clear e))
      | ((first | refine call_x (hr) rfl ⟨rfl⟩ ?_); (try simp (maxSteps := 1000000) (disch := first | omega | (simp only [LN, numOk, verOk, hz] <;> omega) | exact Ck.mk rfl) only [VC, T, Nat.reduceMul, Nat.reduceAdd, Nat.reduceSub, Nat.reduceLT, Nat.reduceEqDiff, Nat.reduceLeDiff, Nat.reduceBEq, reduceCtorEq, Int.reduceToNat, ↓reduceIte, hz])))
    rw [← hs]
  · have e : segT n = ⟨#[]⟩ := if_neg h
    rw [e]
    refine fn_x tok (n := 17) (rs := [.tmp 2]) Tryd.func18 (by decide) rfl rfl rfl rfl ?_
    (try simp (maxSteps := 1000000) (disch := first | omega | (simp only [LN, numOk, verOk] <;> omega) | exact Ck.mk rfl) only [VC, T, Nat.reduceMul, Nat.reduceAdd, Nat.reduceSub, Nat.reduceLT, Nat.reduceEqDiff, Nat.reduceLeDiff, Nat.reduceBEq, reduceCtorEq, Int.reduceToNat, ↓reduceIte])
    repeat' (first
      | (refine br_go (fun e f => ?_) (fun e f => ?_) <;> (try simp only [BB] at f) <;> (try simp only [numOk, verOk] at f) <;> (try simp (maxSteps := 1000000) (disch := first | omega | (simp only [LN, numOk, verOk] <;> omega) | exact Ck.mk rfl) only [e, VC, T, Nat.reduceMul, Nat.reduceAdd, Nat.reduceSub, Nat.reduceLT, Nat.reduceEqDiff, Nat.reduceLeDiff, Nat.reduceBEq, reduceCtorEq, Int.reduceToNat, ↓reduceIte]) <;> (try clear e))
      | (refine pick_go (fun e f => ?_) (fun e f => ?_) <;> (try simp only [BB] at f) <;> (try simp only [numOk, verOk] at f) <;> (try simp (maxSteps := 1000000) (disch := first | omega | (simp only [LN, numOk, verOk] <;> omega) | exact Ck.mk rfl) only [e, VC, T, Nat.reduceMul, Nat.reduceAdd, Nat.reduceSub, Nat.reduceLT, Nat.reduceEqDiff, Nat.reduceLeDiff, Nat.reduceBEq, reduceCtorEq, Int.reduceToNat, ↓reduceIte]) <;> (try clear e))
      | ((first | refine call_x (impl_isNumber n) rfl ⟨rfl⟩ ?_); (try simp (maxSteps := 1000000) (disch := first | omega | (simp only [LN, numOk, verOk] <;> omega) | exact Ck.mk rfl) only [VC, T, Nat.reduceMul, Nat.reduceAdd, Nat.reduceSub, Nat.reduceLT, Nat.reduceEqDiff, Nat.reduceLeDiff, Nat.reduceBEq, reduceCtorEq, Int.reduceToNat, ↓reduceIte])))
theorem spec_SegmentName (n : Int) (hn : i64 n) : Fn Tryd.prog 13 [.int .i64 n] [] (.str (segT n)) [] := by
  by_cases h : numOk n
  · have e : segT n = strOf (segL n) := if_pos h
    rw [e]
    obtain ⟨h0, h1⟩ := h
    refine fn_x tok (n := 27) (rs := [.tmp 2]) Tryd.func13 (by decide) rfl rfl rfl rfl ?_
    (try simp (maxSteps := 1000000) (disch := first | omega | (simp only [LN, numOk, verOk] <;> omega) | exact Ck.mk rfl) only [VC, T, Nat.reduceMul, Nat.reduceAdd, Nat.reduceSub, Nat.reduceLT, Nat.reduceEqDiff, Nat.reduceLeDiff, Nat.reduceBEq, reduceCtorEq, Int.reduceToNat, ↓reduceIte])
    repeat' (first
      | (refine br_go (fun e f => ?_) (fun e f => ?_) <;> (try simp only [BB] at f) <;> (try simp only [numOk, verOk] at f) <;> (try simp (maxSteps := 1000000) (disch := first | omega | (simp only [LN, numOk, verOk] <;> omega) | exact Ck.mk rfl) only [e, VC, T, Nat.reduceMul, Nat.reduceAdd, Nat.reduceSub, Nat.reduceLT, Nat.reduceEqDiff, Nat.reduceLeDiff, Nat.reduceBEq, reduceCtorEq, Int.reduceToNat, ↓reduceIte]) <;> (try clear e))
      | (refine pick_go (fun e f => ?_) (fun e f => ?_) <;> (try simp only [BB] at f) <;> (try simp only [numOk, verOk] at f) <;> (try simp (maxSteps := 1000000) (disch := first | omega | (simp only [LN, numOk, verOk] <;> omega) | exact Ck.mk rfl) only [e, VC, T, Nat.reduceMul, Nat.reduceAdd, Nat.reduceSub, Nat.reduceLT, Nat.reduceEqDiff, Nat.reduceLeDiff, Nat.reduceBEq, reduceCtorEq, Int.reduceToNat, ↓reduceIte]) <;> (try clear e))
      | ((first | refine call_x (spec_l01In _ _ _) rfl ⟨rfl⟩ ?_); (try simp (maxSteps := 1000000) (disch := first | omega | (simp only [LN, numOk, verOk] <;> omega) | exact Ck.mk rfl) only [VC, T, Nat.reduceMul, Nat.reduceAdd, Nat.reduceSub, Nat.reduceLT, Nat.reduceEqDiff, Nat.reduceLeDiff, Nat.reduceBEq, reduceCtorEq, Int.reduceToNat, ↓reduceIte])))
    refine lp_go (fun j : Nat => ⟨27, [(0, .int .i64 n), (3, .row 576 j), (4, .int .i64 (7 - j))], [(576, .row ⟨1, 0⟩ ((hexL j (n / 16 ^ (8 - j))).map (.int .u8)))]⟩) (fun j => j ≤ 8) (fun j => 8 - j) 0 ?_ (by decide) ?_
    · (simp (disch := first | omega | (simp only [LN, numOk, verOk] <;> omega) | exact Ck.mk rfl) only [SB, EQ, Nat.reduceMul, Nat.reduceAdd, Nat.reduceSub, Nat.reduceLT, Nat.reduceEqDiff, Nat.reduceLeDiff, Nat.reduceBEq, reduceCtorEq, Int.reduceToNat, ↓reduceIte]; try omega)
      exact ⟨rfl, rfl⟩
    · intro j hj N hN
      have a1 : ∀ s, Go.bits .and .i64 s 15 = s % 16 := fun s => and_mask64 s 4 (by decide)
      have a2 := shr16 n j h0
      have a3 := hexL_length j (n / 16 ^ (8 - j))
      have a4 : bt ⟨#[48, 49, 50, 51, 52, 53, 54, 55, 56, 57, 97, 98, 99, 100, 101, 102]⟩ (n / 16 ^ (7 - j) % 16) = hexD (n / 16 ^ (7 - j) % 16) := hexT_at _ (by omega) (by omega)
      have a5 := hex_next n j
      (try simp (maxSteps := 1000000) (disch := first | omega | (simp only [LN, numOk, verOk, a1, a2, a3, a4] <;> omega) | exact Ck.mk rfl) only [VC, T, Nat.reduceMul, Nat.reduceAdd, Nat.reduceSub, Nat.reduceLT, Nat.reduceEqDiff, Nat.reduceLeDiff, Nat.reduceBEq, reduceCtorEq, Int.reduceToNat, ↓reduceIte, a1, a2, a3, a4])
      repeat' (first
        | (refine br_go (fun e f => ?_) (fun e f => ?_) <;> (try simp only [BB] at f) <;> (try simp only [numOk, verOk] at f) <;> (try simp (maxSteps := 1000000) (disch := first | omega | (simp only [LN, numOk, verOk, a1, a2, a3, a4] <;> omega) | exact Ck.mk rfl) only [e, VC, T, Nat.reduceMul, Nat.reduceAdd, Nat.reduceSub, Nat.reduceLT, Nat.reduceEqDiff, Nat.reduceLeDiff, Nat.reduceBEq, reduceCtorEq, Int.reduceToNat, ↓reduceIte, a1, a2, a3, a4]) <;> (try clear e))
        | (refine pick_go (fun e f => ?_) (fun e f => ?_) <;> (try simp only [BB] at f) <;> (try simp only [numOk, verOk] at f) <;> (try simp (maxSteps := 1000000) (disch := first | omega | (simp only [LN, numOk, verOk, a1, a2, a3, a4] <;> omega) | exact Ck.mk rfl) only [e, VC, T, Nat.reduceMul, Nat.reduceAdd, Nat.reduceSub, Nat.reduceLT, Nat.reduceEqDiff, Nat.reduceLeDiff, Nat.reduceBEq, reduceCtorEq, Int.reduceToNat, ↓reduceIte, a1, a2, a3, a4]) <;> (try clear e)))
      · refine hN (j + 1) _ (by omega) (by omega) ?_
        rw [a5 (by omega)]
        (simp (disch := first | omega | (simp only [LN, numOk, verOk] <;> omega) | exact Ck.mk rfl) only [SB, EQ, Nat.reduceMul, Nat.reduceAdd, Nat.reduceSub, Nat.reduceLT, Nat.reduceEqDiff, Nat.reduceLeDiff, Nat.reduceBEq, reduceCtorEq, Int.reduceToNat, ↓reduceIte]; try omega)
      · obtain rfl : j = 8 := by omega
        have hz := strOf_size (hexL 8 (n / 16 ^ (8 - 8)))
        rw [hexL_length] at hz
        refine ⟨fun x hx => ?_, by omega, by omega, ?_⟩
        · have := hexL_range _ _ x hx
          omega
        · rw [show n / 16 ^ (8 - 8) = n by simp]
          unfold segL
          rw [strOf_app, strOf_app]
          rfl
  · have e : segT n = ⟨#[]⟩ := if_neg h
    rw [e]
    refine fn_x tok (n := 27) (rs := [.tmp 2]) Tryd.func13 (by decide) rfl rfl rfl rfl ?_
    (try simp (maxSteps := 1000000) (disch := first | omega | (simp only [LN, numOk, verOk] <;> omega) | exact Ck.mk rfl) only [VC, T, Nat.reduceMul, Nat.reduceAdd, Nat.reduceSub, Nat.reduceLT, Nat.reduceEqDiff, Nat.reduceLeDiff, Nat.reduceBEq, reduceCtorEq, Int.reduceToNat, ↓reduceIte])
    repeat' (first
      | (refine br_go (fun e f => ?_) (fun e f => ?_) <;> (try simp only [BB] at f) <;> (try simp only [numOk, verOk] at f) <;> (try simp (maxSteps := 1000000) (disch := first | omega | (simp only [LN, numOk, verOk] <;> omega) | exact Ck.mk rfl) only [e, VC, T, Nat.reduceMul, Nat.reduceAdd, Nat.reduceSub, Nat.reduceLT, Nat.reduceEqDiff, Nat.reduceLeDiff, Nat.reduceBEq, reduceCtorEq, Int.reduceToNat, ↓reduceIte]) <;> (try clear e))
      | (refine pick_go (fun e f => ?_) (fun e f => ?_) <;> (try simp only [BB] at f) <;> (try simp only [numOk, verOk] at f) <;> (try simp (maxSteps := 1000000) (disch := first | omega | (simp only [LN, numOk, verOk] <;> omega) | exact Ck.mk rfl) only [e, VC, T, Nat.reduceMul, Nat.reduceAdd, Nat.reduceSub, Nat.reduceLT, Nat.reduceEqDiff, Nat.reduceLeDiff, Nat.reduceBEq, reduceCtorEq, Int.reduceToNat, ↓reduceIte]) <;> (try clear e))
      | ((first | refine call_x (spec_l01In _ _ _) rfl ⟨rfl⟩ ?_); (try simp (maxSteps := 1000000) (disch := first | omega | (simp only [LN, numOk, verOk] <;> omega) | exact Ck.mk rfl) only [VC, T, Nat.reduceMul, Nat.reduceAdd, Nat.reduceSub, Nat.reduceLT, Nat.reduceEqDiff, Nat.reduceLeDiff, Nat.reduceBEq, reduceCtorEq, Int.reduceToNat, ↓reduceIte])))
    · exact absurd f h
end Go.Pv

/- What functions of the program and of the reference do, in plain values. -/
namespace Go.Pv
open Go.Proofs Go.Mth
set_option linter.unusedSimpArgs false
set_option linter.unusedVariables false
set_option maxHeartbeats 4000000

/-! ### disks: nodes and entries, files -/
def ndP (x : Nd) : PV := .agg [.int .i64 x.1, .str x.2.1, .int .i64 x.2.2]
def enP (x : Et) : PV := .agg [.str x.1, .int .i64 x.2]
def dkP (d : Dk) : PV := .agg [.far (d.1.map ndP), .far (d.2.1.map enP), .far (d.2.2.1.map enP), .far (d.2.2.2.1.map .str), .int .i64 d.2.2.2.2.1, .int .i64 d.2.2.2.2.2]
theorem impl_placeOf_lit (x : Et) (n : ByteArray) : Fn Tryd.prog 58 [enP x, .fel [.str n]] [] (.bool (decide (x.1 = n))) [] := by
  obtain ⟨a, b⟩ := x
  unfold enP
  refine fn_x tok (n := 8) (rs := [.tmp 3]) Tryd.func58 (by decide) rfl rfl rfl rfl ?_
  (try simp (maxSteps := 1000000) (disch := first | omega | (simp only [LN, numOk, verOk, rfP, rvP, rhP, frP] <;> omega) | exact Ck.mk rfl) only [VC, T, Nat.reduceMul, Nat.reduceAdd, Nat.reduceSub, Nat.reduceLT, Nat.reduceEqDiff, Nat.reduceLeDiff, Nat.reduceBEq, reduceCtorEq, Int.reduceToNat, ↓reduceIte, rfP, rvP, rhP, frP])
  repeat' (first
    | (refine br_go (fun e f => ?_) (fun e f => ?_) <;> (try simp only [BB] at f) <;> (try simp only [numOk, verOk] at f) <;> (try simp (maxSteps := 1000000) (disch := first | omega | (simp only [LN, numOk, verOk, rfP, rvP, rhP, frP] <;> omega) | exact Ck.mk rfl) only [e, VC, T, Nat.reduceMul, Nat.reduceAdd, Nat.reduceSub, Nat.reduceLT, Nat.reduceEqDiff, Nat.reduceLeDiff, Nat.reduceBEq, reduceCtorEq, Int.reduceToNat, ↓reduceIte, rfP, rvP, rhP, frP]) <;> (try clear e))
    | (refine pick_go (fun e f => ?_) (fun e f => ?_) <;> (try simp only [BB] at f) <;> (try simp only [numOk, verOk] at f) <;> (try simp (maxSteps := 1000000) (disch := first | omega | (simp only [LN, numOk, verOk, rfP, rvP, rhP, frP] <;> omega) | exact Ck.mk rfl) only [e, VC, T, Nat.reduceMul, Nat.reduceAdd, Nat.reduceSub, Nat.reduceLT, Nat.reduceEqDiff, Nat.reduceLeDiff, Nat.reduceBEq, reduceCtorEq, Int.reduceToNat, ↓reduceIte, rfP, rvP, rhP, frP]) <;> (try clear e)))
theorem impl_nodeOf_lit (x : Nd) (n : Int) : Fn Tryd.prog 60 [ndP x, .fel [.int .i64 n]] [] (.bool (decide (x.1 = n))) [] := by
  obtain ⟨a, b, c⟩ := x
  unfold ndP
  refine fn_x tok (n := 8) (rs := [.tmp 3]) Tryd.func60 (by decide) rfl rfl rfl rfl ?_
  (try simp (maxSteps := 1000000) (disch := first | omega | (simp only [LN, numOk, verOk, rfP, rvP, rhP, frP] <;> omega) | exact Ck.mk rfl) only [VC, T, Nat.reduceMul, Nat.reduceAdd, Nat.reduceSub, Nat.reduceLT, Nat.reduceEqDiff, Nat.reduceLeDiff, Nat.reduceBEq, reduceCtorEq, Int.reduceToNat, ↓reduceIte, rfP, rvP, rhP, frP])
  repeat' (first
    | (refine br_go (fun e f => ?_) (fun e f => ?_) <;> (try simp only [BB] at f) <;> (try simp only [numOk, verOk] at f) <;> (try simp (maxSteps := 1000000) (disch := first | omega | (simp only [LN, numOk, verOk, rfP, rvP, rhP, frP] <;> omega) | exact Ck.mk rfl) only [e, VC, T, Nat.reduceMul, Nat.reduceAdd, Nat.reduceSub, Nat.reduceLT, Nat.reduceEqDiff, Nat.reduceLeDiff, Nat.reduceBEq, reduceCtorEq, Int.reduceToNat, ↓reduceIte, rfP, rvP, rhP, frP]) <;> (try clear e))
    | (refine pick_go (fun e f => ?_) (fun e f => ?_) <;> (try simp only [BB] at f) <;> (try simp only [numOk, verOk] at f) <;> (try simp (maxSteps := 1000000) (disch := first | omega | (simp only [LN, numOk, verOk, rfP, rvP, rhP, frP] <;> omega) | exact Ck.mk rfl) only [e, VC, T, Nat.reduceMul, Nat.reduceAdd, Nat.reduceSub, Nat.reduceLT, Nat.reduceEqDiff, Nat.reduceLeDiff, Nat.reduceBEq, reduceCtorEq, Int.reduceToNat, ↓reduceIte, rfP, rvP, rhP, frP]) <;> (try clear e)))
theorem indexE (es : List Et) (n : ByteArray) (hl : es.length ≤ 1048576) : Fn Tryd.prog 57 [.far (es.map enP), .fn (.func 58) [.fel [.str n]]] [] (.int .i64 (placeI es n)) [] := by
  have hst := findI_step (fun e : Et => decide (e.1 = n)) es
  have hen := findI_end (fun e : Et => decide (e.1 = n)) es
  refine fn_x tok (n := 19) (rs := [.tmp 4]) Tryd.func57 (by decide) rfl rfl rfl rfl ?_
  (try simp (maxSteps := 1000000) (disch := first | omega | (simp only [LN, numOk, verOk, rfP, rvP, rhP, frP] <;> omega) | exact Ck.mk rfl) only [VC, T, Nat.reduceMul, Nat.reduceAdd, Nat.reduceSub, Nat.reduceLT, Nat.reduceEqDiff, Nat.reduceLeDiff, Nat.reduceBEq, reduceCtorEq, Int.reduceToNat, ↓reduceIte, rfP, rvP, rhP, frP])
  repeat' (first
    | (refine br_go (fun e f => ?_) (fun e f => ?_) <;> (try simp only [BB] at f) <;> (try simp only [numOk, verOk] at f) <;> (try simp (maxSteps := 1000000) (disch := first | omega | (simp only [LN, numOk, verOk, rfP, rvP, rhP, frP] <;> omega) | exact Ck.mk rfl) only [e, VC, T, Nat.reduceMul, Nat.reduceAdd, Nat.reduceSub, Nat.reduceLT, Nat.reduceEqDiff, Nat.reduceLeDiff, Nat.reduceBEq, reduceCtorEq, Int.reduceToNat, ↓reduceIte, rfP, rvP, rhP, frP]) <;> (try clear e))
    | (refine pick_go (fun e f => ?_) (fun e f => ?_) <;> (try simp only [BB] at f) <;> (try simp only [numOk, verOk] at f) <;> (try simp (maxSteps := 1000000) (disch := first | omega | (simp only [LN, numOk, verOk, rfP, rvP, rhP, frP] <;> omega) | exact Ck.mk rfl) only [e, VC, T, Nat.reduceMul, Nat.reduceAdd, Nat.reduceSub, Nat.reduceLT, Nat.reduceEqDiff, Nat.reduceLeDiff, Nat.reduceBEq, reduceCtorEq, Int.reduceToNat, ↓reduceIte, rfP, rvP, rhP, frP]) <;> (try clear e)))
  refine lp_go (fun i : Nat => ⟨19, [(0, .far (es.map enP)), (1, .fn (.func 58) [.fel [.str n]]), (7, .int .i64 es.length), (8, .int .i64 i)], []⟩) (fun i => i ≤ es.length ∧ placeI es n = findI (fun e => decide (e.1 = n)) (es.drop i) i) (fun i => es.length - i) 0 ?_ ⟨Nat.zero_le _, rfl⟩ ?_
  · (simp (disch := first | omega | (simp only [LN, numOk, verOk] <;> omega) | exact Ck.mk rfl) only [SB, EQ, Nat.reduceMul, Nat.reduceAdd, Nat.reduceSub, Nat.reduceLT, Nat.reduceEqDiff, Nat.reduceLeDiff, Nat.reduceBEq, reduceCtorEq, Int.reduceToNat, ↓reduceIte]; try omega)
  · rintro i ⟨h1, h2⟩ N hN
    have hg : i < es.length → (es.map enP).getD i .junk = .agg [.str (es.getD i default).1, .int .i64 (es.getD i default).2] := fun h => by
      rw [List.getD_eq_getElem?_getD, List.getElem?_map, List.getElem?_eq_getElem h, List.getD_eq_getElem?_getD, List.getElem?_eq_getElem h]; rfl
    have hst := hst i
    have hen := hen i
    (try simp (maxSteps := 1000000) (disch := first | omega | (simp only [LN, numOk, verOk, rfP, rvP, rhP, frP, hg] <;> omega) | exact Ck.mk rfl) only [VC, T, Nat.reduceMul, Nat.reduceAdd, Nat.reduceSub, Nat.reduceLT, Nat.reduceEqDiff, Nat.reduceLeDiff, Nat.reduceBEq, reduceCtorEq, Int.reduceToNat, ↓reduceIte, rfP, rvP, rhP, frP, hg])
    repeat' (first
      | (refine br_go (fun e f => ?_) (fun e f => ?_) <;> (try simp only [BB] at f) <;> (try simp only [numOk, verOk] at f) <;> (try simp (maxSteps := 1000000) (disch := first | omega | (simp only [LN, numOk, verOk, rfP, rvP, rhP, frP, hg] <;> omega) | exact Ck.mk rfl) only [e, VC, T, Nat.reduceMul, Nat.reduceAdd, Nat.reduceSub, Nat.reduceLT, Nat.reduceEqDiff, Nat.reduceLeDiff, Nat.reduceBEq, reduceCtorEq, Int.reduceToNat, ↓reduceIte, rfP, rvP, rhP, frP, hg]) <;> (try clear e))
      | (refine pick_go (fun e f => ?_) (fun e f => ?_) <;> (try simp only [BB] at f) <;> (try simp only [numOk, verOk] at f) <;> (try simp (maxSteps := 1000000) (disch := first | omega | (simp only [LN, numOk, verOk, rfP, rvP, rhP, frP, hg] <;> omega) | exact Ck.mk rfl) only [e, VC, T, Nat.reduceMul, Nat.reduceAdd, Nat.reduceSub, Nat.reduceLT, Nat.reduceEqDiff, Nat.reduceLeDiff, Nat.reduceBEq, reduceCtorEq, Int.reduceToNat, ↓reduceIte, rfP, rvP, rhP, frP, hg]) <;> (try clear e))
      | ((first | refine call_x (impl_placeOf_lit (es.getD i default) n) rfl ⟨rfl⟩ ?_); (try simp (maxSteps := 1000000) (disch := first | omega | (simp only [LN, numOk, verOk, rfP, rvP, rhP, frP, hg] <;> omega) | exact Ck.mk rfl) only [VC, T, Nat.reduceMul, Nat.reduceAdd, Nat.reduceSub, Nat.reduceLT, Nat.reduceEqDiff, Nat.reduceLeDiff, Nat.reduceBEq, reduceCtorEq, Int.reduceToNat, ↓reduceIte, rfP, rvP, rhP, frP, hg])))
    · rw [h2, hst (by omega), if_pos (decide_eq_true f)]
    · refine hN (i + 1) _ ⟨by omega, ?_⟩ (by omega) ?_
      · rw [h2, hst (by omega), if_neg (by rw [decide_eq_false f]; decide)]
      · (simp (disch := first | omega | (simp only [LN, numOk, verOk] <;> omega) | exact Ck.mk rfl) only [SB, EQ, Nat.reduceMul, Nat.reduceAdd, Nat.reduceSub, Nat.reduceLT, Nat.reduceEqDiff, Nat.reduceLeDiff, Nat.reduceBEq, reduceCtorEq, Int.reduceToNat, ↓reduceIte]; try omega)
    · rw [h2, hen (by omega)]
theorem indexN (es : List Nd) (n : Int) (hl : es.length ≤ 1048576) : Fn Tryd.prog 59 [.far (es.map ndP), .fn (.func 60) [.fel [.int .i64 n]]] [] (.int .i64 (nodeI es n)) [] := by
  have hst := findI_step (fun e : Nd => decide (e.1 = n)) es
  have hen := findI_end (fun e : Nd => decide (e.1 = n)) es
  refine fn_x tok (n := 19) (rs := [.tmp 4]) Tryd.func59 (by decide) rfl rfl rfl rfl ?_
  (try simp (maxSteps := 1000000) (disch := first | omega | (simp only [LN, numOk, verOk, rfP, rvP, rhP, frP] <;> omega) | exact Ck.mk rfl) only [VC, T, Nat.reduceMul, Nat.reduceAdd, Nat.reduceSub, Nat.reduceLT, Nat.reduceEqDiff, Nat.reduceLeDiff, Nat.reduceBEq, reduceCtorEq, Int.reduceToNat, ↓reduceIte, rfP, rvP, rhP, frP])
  repeat' (first
    | (refine br_go (fun e f => ?_) (fun e f => ?_) <;> (try simp only [BB] at f) <;> (try simp only [numOk, verOk] at f) <;> (try simp (maxSteps := 1000000) (disch := first | omega | (simp only [LN, numOk, verOk, rfP, rvP, rhP, frP] <;> omega) | exact Ck.mk rfl) only [e, VC, T, Nat.reduceMul, Nat.reduceAdd, Nat.reduceSub, Nat.reduceLT, Nat.reduceEqDiff, Nat.reduceLeDiff, Nat.reduceBEq, reduceCtorEq, Int.reduceToNat, ↓reduceIte, rfP, rvP, rhP, frP]) <;> (try clear e))
    | (refine pick_go (fun e f => ?_) (fun e f => ?_) <;> (try simp only [BB] at f) <;> (try simp only [numOk, verOk] at f) <;> (try simp (maxSteps := 1000000) (disch := first | omega | (simp only [LN, numOk, verOk, rfP, rvP, rhP, frP] <;> omega) | exact Ck.mk rfl) only [e, VC, T, Nat.reduceMul, Nat.reduceAdd, Nat.reduceSub, Nat.reduceLT, Nat.reduceEqDiff, Nat.reduceLeDiff, Nat.reduceBEq, reduceCtorEq, Int.reduceToNat, ↓reduceIte, rfP, rvP, rhP, frP]) <;> (try clear e)))
  refine lp_go (fun i : Nat => ⟨19, [(0, .far (es.map ndP)), (1, .fn (.func 60) [.fel [.int .i64 n]]), (7, .int .i64 es.length), (8, .int .i64 i)], []⟩) (fun i => i ≤ es.length ∧ nodeI es n = findI (fun e => decide (e.1 = n)) (es.drop i) i) (fun i => es.length - i) 0 ?_ ⟨Nat.zero_le _, rfl⟩ ?_
  · (simp (disch := first | omega | (simp only [LN, numOk, verOk] <;> omega) | exact Ck.mk rfl) only [SB, EQ, Nat.reduceMul, Nat.reduceAdd, Nat.reduceSub, Nat.reduceLT, Nat.reduceEqDiff, Nat.reduceLeDiff, Nat.reduceBEq, reduceCtorEq, Int.reduceToNat, ↓reduceIte]; try omega)
  · rintro i ⟨h1, h2⟩ N hN
    have hg : i < es.length → (es.map ndP).getD i .junk = .agg [.int .i64 (es.getD i default).1, .str (es.getD i default).2.1, .int .i64 (es.getD i default).2.2] := fun h => by
      rw [List.getD_eq_getElem?_getD, List.getElem?_map, List.getElem?_eq_getElem h, List.getD_eq_getElem?_getD, List.getElem?_eq_getElem h]; rfl
    have hst := hst i
    have hen := hen i
    (try simp (maxSteps := 1000000) (disch := first | omega | (simp only [LN, numOk, verOk, rfP, rvP, rhP, frP, hg] <;> omega) | exact Ck.mk rfl) only [VC, T, Nat.reduceMul, Nat.reduceAdd, Nat.reduceSub, Nat.reduceLT, Nat.reduceEqDiff, Nat.reduceLeDiff, Nat.reduceBEq, reduceCtorEq, Int.reduceToNat, ↓reduceIte, rfP, rvP, rhP, frP, hg])
    repeat' (first
      | (refine br_go (fun e f => ?_) (fun e f => ?_) <;> (try simp only [BB] at f) <;> (try simp only [numOk, verOk] at f) <;> (try simp (maxSteps := 1000000) (disch := first | omega | (simp only [LN, numOk, verOk, rfP, rvP, rhP, frP, hg] <;> omega) | exact Ck.mk rfl) only [e, VC, T, Nat.reduceMul, Nat.reduceAdd, Nat.reduceSub, Nat.reduceLT, Nat.reduceEqDiff, Nat.reduceLeDiff, Nat.reduceBEq, reduceCtorEq, Int.reduceToNat, ↓reduceIte, rfP, rvP, rhP, frP, hg]) <;> (try clear e))
      | (refine pick_go (fun e f => ?_) (fun e f => ?_) <;> (try simp only [BB] at f) <;> (try simp only [numOk, verOk] at f) <;> (try simp (maxSteps := 1000000) (disch := first | omega | (simp only [LN, numOk, verOk, rfP, rvP, rhP, frP, hg] <;> omega) | exact Ck.mk rfl) only [e, VC, T, Nat.reduceMul, Nat.reduceAdd, Nat.reduceSub, Nat.reduceLT, Nat.reduceEqDiff, Nat.reduceLeDiff, Nat.reduceBEq, reduceCtorEq, Int.reduceToNat, ↓reduceIte, rfP, rvP, rhP, frP, hg]) <;> (try clear e))
      | ((first | refine call_x (impl_nodeOf_lit (es.getD i default) n) rfl ⟨rfl⟩ ?_); (try simp (maxSteps := 1000000) (disch := first | omega | (simp only [LN, numOk, verOk, rfP, rvP, rhP, frP, hg] <;> omega) | exact Ck.mk rfl) only [VC, T, Nat.reduceMul, Nat.reduceAdd, Nat.reduceSub, Nat.reduceLT, Nat.reduceEqDiff, Nat.reduceLeDiff, Nat.reduceBEq, reduceCtorEq, Int.reduceToNat, ↓reduceIte, rfP, rvP, rhP, frP, hg])))
    · rw [h2, hst (by omega), if_pos (decide_eq_true f)]
    · refine hN (i + 1) _ ⟨by omega, ?_⟩ (by omega) ?_
      · rw [h2, hst (by omega), if_neg (by rw [decide_eq_false f]; decide)]
      · (simp (disch := first | omega | (simp only [LN, numOk, verOk] <;> omega) | exact Ck.mk rfl) only [SB, EQ, Nat.reduceMul, Nat.reduceAdd, Nat.reduceSub, Nat.reduceLT, Nat.reduceEqDiff, Nat.reduceLeDiff, Nat.reduceBEq, reduceCtorEq, Int.reduceToNat, ↓reduceIte]; try omega)
    · rw [h2, hen (by omega)]
theorem impl_placeOf (es : List Et) (n : ByteArray) (hl : es.length ≤ 1048576) : Fn Tryd.prog 46 [.far (es.map enP), .str n] [] (.int .i64 (placeI es n)) [] := by
  refine fn_x tok (n := 8) (rs := [.tmp 4]) Tryd.func46 (by decide) rfl rfl rfl rfl ?_
  (try simp (maxSteps := 1000000) (disch := first | omega | (simp only [LN, numOk, verOk, rfP, rvP, rhP, frP] <;> omega) | exact Ck.mk rfl) only [VC, T, Nat.reduceMul, Nat.reduceAdd, Nat.reduceSub, Nat.reduceLT, Nat.reduceEqDiff, Nat.reduceLeDiff, Nat.reduceBEq, reduceCtorEq, Int.reduceToNat, ↓reduceIte, rfP, rvP, rhP, frP])
  repeat' (first
    | (refine br_go (fun e f => ?_) (fun e f => ?_) <;> (try simp only [BB] at f) <;> (try simp only [numOk, verOk] at f) <;> (try simp (maxSteps := 1000000) (disch := first | omega | (simp only [LN, numOk, verOk, rfP, rvP, rhP, frP] <;> omega) | exact Ck.mk rfl) only [e, VC, T, Nat.reduceMul, Nat.reduceAdd, Nat.reduceSub, Nat.reduceLT, Nat.reduceEqDiff, Nat.reduceLeDiff, Nat.reduceBEq, reduceCtorEq, Int.reduceToNat, ↓reduceIte, rfP, rvP, rhP, frP]) <;> (try clear e))
    | (refine pick_go (fun e f => ?_) (fun e f => ?_) <;> (try simp only [BB] at f) <;> (try simp only [numOk, verOk] at f) <;> (try simp (maxSteps := 1000000) (disch := first | omega | (simp only [LN, numOk, verOk, rfP, rvP, rhP, frP] <;> omega) | exact Ck.mk rfl) only [e, VC, T, Nat.reduceMul, Nat.reduceAdd, Nat.reduceSub, Nat.reduceLT, Nat.reduceEqDiff, Nat.reduceLeDiff, Nat.reduceBEq, reduceCtorEq, Int.reduceToNat, ↓reduceIte, rfP, rvP, rhP, frP]) <;> (try clear e))
    | ((first | (refine call_hx [] [256] (indexE es n hl) (by decide) ?_ rfl ?_; (focus (first | rfl | (simp (maxSteps := 1000000) (disch := first | omega | (simp only [LN, numOk, verOk, rfP, rvP, rhP, frP] <;> omega) | exact Ck.mk rfl) only [VC, T, Nat.reduceMul, Nat.reduceAdd, Nat.reduceSub, Nat.reduceLT, Nat.reduceEqDiff, Nat.reduceLeDiff, Nat.reduceBEq, reduceCtorEq, Int.reduceToNat, ↓reduceIte, rfP, rvP, rhP, frP]; done))))); (try simp (maxSteps := 1000000) (disch := first | omega | (simp only [LN, numOk, verOk, rfP, rvP, rhP, frP] <;> omega) | exact Ck.mk rfl) only [VC, T, Nat.reduceMul, Nat.reduceAdd, Nat.reduceSub, Nat.reduceLT, Nat.reduceEqDiff, Nat.reduceLeDiff, Nat.reduceBEq, reduceCtorEq, Int.reduceToNat, ↓reduceIte, rfP, rvP, rhP, frP])))
theorem impl_nodeOf (d : Dk) (k : Int) (hl : d.1.length ≤ 1048576) : Fn Tryd.prog 47 [dkP d, .int .i64 k] [] (.int .i64 (nodeI d.1 k)) [] := by
  unfold dkP
  refine fn_x tok (n := 9) (rs := [.tmp 4]) Tryd.func47 (by decide) rfl rfl rfl rfl ?_
  (try simp (maxSteps := 1000000) (disch := first | omega | (simp only [LN, numOk, verOk, rfP, rvP, rhP, frP] <;> omega) | exact Ck.mk rfl) only [VC, T, Nat.reduceMul, Nat.reduceAdd, Nat.reduceSub, Nat.reduceLT, Nat.reduceEqDiff, Nat.reduceLeDiff, Nat.reduceBEq, reduceCtorEq, Int.reduceToNat, ↓reduceIte, rfP, rvP, rhP, frP])
  repeat' (first
    | (refine br_go (fun e f => ?_) (fun e f => ?_) <;> (try simp only [BB] at f) <;> (try simp only [numOk, verOk] at f) <;> (try simp (maxSteps := 1000000) (disch := first | omega | (simp only [LN, numOk, verOk, rfP, rvP, rhP, frP] <;> omega) | exact Ck.mk rfl) only [e, VC, T, Nat.reduceMul, Nat.reduceAdd, Nat.reduceSub, Nat.reduceLT, Nat.reduceEqDiff, Nat.reduceLeDiff, Nat.reduceBEq, reduceCtorEq, Int.reduceToNat, ↓reduceIte, rfP, rvP, rhP, frP]) <;> (try clear e))
    | (refine pick_go (fun e f => ?_) (fun e f => ?_) <;> (try simp only [BB] at f) <;> (try simp only [numOk, verOk] at f) <;> (try simp (maxSteps := 1000000) (disch := first | omega | (simp only [LN, numOk, verOk, rfP, rvP, rhP, frP] <;> omega) | exact Ck.mk rfl) only [e, VC, T, Nat.reduceMul, Nat.reduceAdd, Nat.reduceSub, Nat.reduceLT, Nat.reduceEqDiff, Nat.reduceLeDiff, Nat.reduceBEq, reduceCtorEq, Int.reduceToNat, ↓reduceIte, rfP, rvP, rhP, frP]) <;> (try clear e))
    | ((first | (refine call_hx [] [256] (indexN d.1 k hl) (by decide) ?_ rfl ?_; (focus (first | rfl | (simp (maxSteps := 1000000) (disch := first | omega | (simp only [LN, numOk, verOk, rfP, rvP, rhP, frP] <;> omega) | exact Ck.mk rfl) only [VC, T, Nat.reduceMul, Nat.reduceAdd, Nat.reduceSub, Nat.reduceLT, Nat.reduceEqDiff, Nat.reduceLeDiff, Nat.reduceBEq, reduceCtorEq, Int.reduceToNat, ↓reduceIte, rfP, rvP, rhP, frP]; done))))); (try simp (maxSteps := 1000000) (disch := first | omega | (simp only [LN, numOk, verOk, rfP, rvP, rhP, frP] <;> omega) | exact Ck.mk rfl) only [VC, T, Nat.reduceMul, Nat.reduceAdd, Nat.reduceSub, Nat.reduceLT, Nat.reduceEqDiff, Nat.reduceLeDiff, Nat.reduceBEq, reduceCtorEq, Int.reduceToNat, ↓reduceIte, rfP, rvP, rhP, frP])))
theorem impl_nodeAt (d : Dk) (n : ByteArray) (h : DkOk d) : Fn Tryd.prog 37 [dkP d, .str n] [] (.int .i64 (nodeP d n)) [] := by
  have hp := impl_placeOf d.2.1 n h.es
  have hr := placeI_r d.2.1 n
  have hn := fun k => impl_nodeOf d k h.ns
  unfold nodeP
  unfold dkP at *
  generalize placeI d.2.1 n = p at *
  have hg : (p.toNat < d.2.1.length) → (d.2.1.map enP).getD p.toNat .junk = .agg [.str (d.2.1.getD p.toNat default).1, .int .i64 (d.2.1.getD p.toNat default).2] := fun h => by
    rw [List.getD_eq_getElem?_getD, List.getElem?_map, List.getElem?_eq_getElem h, List.getD_eq_getElem?_getD, List.getElem?_eq_getElem h]; rfl
  refine fn_x tok (n := 20) (rs := [.tmp 4]) Tryd.func37 (by decide) rfl rfl rfl rfl ?_
  (try simp (maxSteps := 1000000) (disch := first | omega | (simp only [LN, numOk, verOk, rfP, rvP, rhP, frP, hg] <;> omega) | exact Ck.mk rfl) only [VC, T, Nat.reduceMul, Nat.reduceAdd, Nat.reduceSub, Nat.reduceLT, Nat.reduceEqDiff, Nat.reduceLeDiff, Nat.reduceBEq, reduceCtorEq, Int.reduceToNat, ↓reduceIte, rfP, rvP, rhP, frP, hg])
  repeat' (first
    | (refine br_go (fun e f => ?_) (fun e f => ?_) <;> (try simp only [BB] at f) <;> (try simp only [numOk, verOk] at f) <;> (try simp (maxSteps := 1000000) (disch := first | omega | (simp only [LN, numOk, verOk, rfP, rvP, rhP, frP, hg] <;> omega) | exact Ck.mk rfl) only [e, VC, T, Nat.reduceMul, Nat.reduceAdd, Nat.reduceSub, Nat.reduceLT, Nat.reduceEqDiff, Nat.reduceLeDiff, Nat.reduceBEq, reduceCtorEq, Int.reduceToNat, ↓reduceIte, rfP, rvP, rhP, frP, hg]) <;> (try clear e))
    | (refine pick_go (fun e f => ?_) (fun e f => ?_) <;> (try simp only [BB] at f) <;> (try simp only [numOk, verOk] at f) <;> (try simp (maxSteps := 1000000) (disch := first | omega | (simp only [LN, numOk, verOk, rfP, rvP, rhP, frP, hg] <;> omega) | exact Ck.mk rfl) only [e, VC, T, Nat.reduceMul, Nat.reduceAdd, Nat.reduceSub, Nat.reduceLT, Nat.reduceEqDiff, Nat.reduceLeDiff, Nat.reduceBEq, reduceCtorEq, Int.reduceToNat, ↓reduceIte, rfP, rvP, rhP, frP, hg]) <;> (try clear e))
    | ((first | refine dr_go mixed (id := 4) [([], [2], []), ([], [2], []), ([1], [13], []), ([], [5], []), ([1, 2, 3], [14, 15], []), ([1, 2, 3, 4], [16], []), ([1, 2, 3, 4, 5], [17], []), ([0, 1, 2, 3, 4, 5, 6], [12, 18], []), ([0, 1, 2, 3, 4, 5, 6, 7], [19], [])] rfl rfl rfl ?_ | refine call_x (hp) rfl ⟨rfl⟩ ?_ | refine call_x (hn _) rfl ⟨rfl⟩ ?_); (try simp (maxSteps := 1000000) (disch := first | omega | (simp only [LN, numOk, verOk, rfP, rvP, rhP, frP, hg] <;> omega) | exact Ck.mk rfl) only [VC, T, Nat.reduceMul, Nat.reduceAdd, Nat.reduceSub, Nat.reduceLT, Nat.reduceEqDiff, Nat.reduceLeDiff, Nat.reduceBEq, reduceCtorEq, Int.reduceToNat, ↓reduceIte, rfP, rvP, rhP, frP, hg])))
  · rw [if_pos f]
  · rw [if_neg (by omega)]
theorem impl_NodeAt (d : Dk) (n : ByteArray) (h : DkOk d) : Fn Tryd.prog 28 [dkP d, .str n] [] (.tup [ndP (nodeT d n).1, .bool (nodeT d n).2]) [] := by
  have hp := impl_nodeAt d n h
  have hr := nodeP_r d n
  unfold nodeT
  unfold dkP at *
  generalize nodeP d n = p at *
  have hg : (p.toNat < d.1.length) → (d.1.map ndP).getD p.toNat .junk = .agg [.int .i64 (d.1.getD p.toNat default).1, .str (d.1.getD p.toNat default).2.1, .int .i64 (d.1.getD p.toNat default).2.2] := fun h => by
    rw [List.getD_eq_getElem?_getD, List.getElem?_map, List.getElem?_eq_getElem h, List.getD_eq_getElem?_getD, List.getElem?_eq_getElem h]; rfl
  refine fn_x tok (n := 18) (rs := [.cell 4 54, .tmp 5]) Tryd.func28 (by decide) rfl rfl rfl rfl ?_
  (try simp (maxSteps := 1000000) (disch := first | omega | (simp only [LN, numOk, verOk, rfP, rvP, rhP, frP, hg] <;> omega) | exact Ck.mk rfl) only [VC, T, Nat.reduceMul, Nat.reduceAdd, Nat.reduceSub, Nat.reduceLT, Nat.reduceEqDiff, Nat.reduceLeDiff, Nat.reduceBEq, reduceCtorEq, Int.reduceToNat, ↓reduceIte, rfP, rvP, rhP, frP, hg])
  repeat' (first
    | (refine br_go (fun e f => ?_) (fun e f => ?_) <;> (try simp only [BB] at f) <;> (try simp only [numOk, verOk] at f) <;> (try simp (maxSteps := 1000000) (disch := first | omega | (simp only [LN, numOk, verOk, rfP, rvP, rhP, frP, hg] <;> omega) | exact Ck.mk rfl) only [e, VC, T, Nat.reduceMul, Nat.reduceAdd, Nat.reduceSub, Nat.reduceLT, Nat.reduceEqDiff, Nat.reduceLeDiff, Nat.reduceBEq, reduceCtorEq, Int.reduceToNat, ↓reduceIte, rfP, rvP, rhP, frP, hg]) <;> (try clear e))
    | (refine pick_go (fun e f => ?_) (fun e f => ?_) <;> (try simp only [BB] at f) <;> (try simp only [numOk, verOk] at f) <;> (try simp (maxSteps := 1000000) (disch := first | omega | (simp only [LN, numOk, verOk, rfP, rvP, rhP, frP, hg] <;> omega) | exact Ck.mk rfl) only [e, VC, T, Nat.reduceMul, Nat.reduceAdd, Nat.reduceSub, Nat.reduceLT, Nat.reduceEqDiff, Nat.reduceLeDiff, Nat.reduceBEq, reduceCtorEq, Int.reduceToNat, ↓reduceIte, rfP, rvP, rhP, frP, hg]) <;> (try clear e))
    | ((first | refine call_x (hp) rfl ⟨rfl⟩ ?_); (try simp (maxSteps := 1000000) (disch := first | omega | (simp only [LN, numOk, verOk, rfP, rvP, rhP, frP, hg] <;> omega) | exact Ck.mk rfl) only [VC, T, Nat.reduceMul, Nat.reduceAdd, Nat.reduceSub, Nat.reduceLT, Nat.reduceEqDiff, Nat.reduceLeDiff, Nat.reduceBEq, reduceCtorEq, Int.reduceToNat, ↓reduceIte, rfP, rvP, rhP, frP, hg])))
  · rw [if_pos f]; rfl
  · rw [if_neg (by omega)]; rfl
theorem spec_EntryAt (es : List Et) (n : ByteArray) (hl : es.length ≤ 1048576) : Fn Tryd.prog 35 [.far (es.map enP), .str n] [] (.int .i64 (entT es n)) [] := by
  have hst := findI_step (fun e : Et => decide (e.1 = n)) es
  have hen := findI_end (fun e : Et => decide (e.1 = n)) es
  refine fn_x tok (n := 24) (rs := [.tmp 4]) Tryd.func35 (by decide) rfl rfl rfl rfl ?_
  (try simp (maxSteps := 1000000) (disch := first | omega | (simp only [LN, numOk, verOk, rfP, rvP, rhP, frP] <;> omega) | exact Ck.mk rfl) only [VC, T, Nat.reduceMul, Nat.reduceAdd, Nat.reduceSub, Nat.reduceLT, Nat.reduceEqDiff, Nat.reduceLeDiff, Nat.reduceBEq, reduceCtorEq, Int.reduceToNat, ↓reduceIte, rfP, rvP, rhP, frP])
  repeat' (first
    | (refine br_go (fun e f => ?_) (fun e f => ?_) <;> (try simp only [BB] at f) <;> (try simp only [numOk, verOk] at f) <;> (try simp (maxSteps := 1000000) (disch := first | omega | (simp only [LN, numOk, verOk, rfP, rvP, rhP, frP] <;> omega) | exact Ck.mk rfl) only [e, VC, T, Nat.reduceMul, Nat.reduceAdd, Nat.reduceSub, Nat.reduceLT, Nat.reduceEqDiff, Nat.reduceLeDiff, Nat.reduceBEq, reduceCtorEq, Int.reduceToNat, ↓reduceIte, rfP, rvP, rhP, frP]) <;> (try clear e))
    | (refine pick_go (fun e f => ?_) (fun e f => ?_) <;> (try simp only [BB] at f) <;> (try simp only [numOk, verOk] at f) <;> (try simp (maxSteps := 1000000) (disch := first | omega | (simp only [LN, numOk, verOk, rfP, rvP, rhP, frP] <;> omega) | exact Ck.mk rfl) only [e, VC, T, Nat.reduceMul, Nat.reduceAdd, Nat.reduceSub, Nat.reduceLT, Nat.reduceEqDiff, Nat.reduceLeDiff, Nat.reduceBEq, reduceCtorEq, Int.reduceToNat, ↓reduceIte, rfP, rvP, rhP, frP]) <;> (try clear e)))
  refine lp_go (fun i : Nat => ⟨24, [(0, .far (es.map enP)), (1, .str n), (5, .int .i64 i)], []⟩) (fun i => i ≤ es.length ∧ placeI es n = findI (fun e => decide (e.1 = n)) (es.drop i) i) (fun i => es.length - i) 0 ?_ ⟨Nat.zero_le _, rfl⟩ ?_
  · (simp (disch := first | omega | (simp only [LN, numOk, verOk] <;> omega) | exact Ck.mk rfl) only [SB, EQ, Nat.reduceMul, Nat.reduceAdd, Nat.reduceSub, Nat.reduceLT, Nat.reduceEqDiff, Nat.reduceLeDiff, Nat.reduceBEq, reduceCtorEq, Int.reduceToNat, ↓reduceIte]; try omega)
  · rintro i ⟨h1, h2⟩ N hN
    have hg : i < es.length → (es.map enP).getD i .junk = .agg [.str (es.getD i default).1, .int .i64 (es.getD i default).2] := fun h => by
      rw [List.getD_eq_getElem?_getD, List.getElem?_map, List.getElem?_eq_getElem h, List.getD_eq_getElem?_getD, List.getElem?_eq_getElem h]; rfl
    have hst := hst i
    have hen := hen i
    (try simp (maxSteps := 1000000) (disch := first | omega | (simp only [LN, numOk, verOk, rfP, rvP, rhP, frP, hg] <;> omega) | exact Ck.mk rfl) only [VC, T, Nat.reduceMul, Nat.reduceAdd, Nat.reduceSub, Nat.reduceLT, Nat.reduceEqDiff, Nat.reduceLeDiff, Nat.reduceBEq, reduceCtorEq, Int.reduceToNat, ↓reduceIte, rfP, rvP, rhP, frP, hg])
    repeat' (first
      | (refine br_go (fun e f => ?_) (fun e f => ?_) <;> (try simp only [BB] at f) <;> (try simp only [numOk, verOk] at f) <;> (try simp (maxSteps := 1000000) (disch := first | omega | (simp only [LN, numOk, verOk, rfP, rvP, rhP, frP, hg] <;> omega) | exact Ck.mk rfl) only [e, VC, T, Nat.reduceMul, Nat.reduceAdd, Nat.reduceSub, Nat.reduceLT, Nat.reduceEqDiff, Nat.reduceLeDiff, Nat.reduceBEq, reduceCtorEq, Int.reduceToNat, ↓reduceIte, rfP, rvP, rhP, frP, hg]) <;> (try clear e))
      | (refine pick_go (fun e f => ?_) (fun e f => ?_) <;> (try simp only [BB] at f) <;> (try simp only [numOk, verOk] at f) <;> (try simp (maxSteps := 1000000) (disch := first | omega | (simp only [LN, numOk, verOk, rfP, rvP, rhP, frP, hg] <;> omega) | exact Ck.mk rfl) only [e, VC, T, Nat.reduceMul, Nat.reduceAdd, Nat.reduceSub, Nat.reduceLT, Nat.reduceEqDiff, Nat.reduceLeDiff, Nat.reduceBEq, reduceCtorEq, Int.reduceToNat, ↓reduceIte, rfP, rvP, rhP, frP, hg]) <;> (try clear e)))
    · unfold entT
      rw [h2, hst (by omega), if_pos (decide_eq_true f), if_neg (by omega), Int.toNat_natCast]
    · refine hN (i + 1) _ ⟨by omega, ?_⟩ (by omega) ?_
      · rw [h2, hst (by omega), if_neg (by rw [decide_eq_false f]; decide)]
      · (simp (disch := first | omega | (simp only [LN, numOk, verOk] <;> omega) | exact Ck.mk rfl) only [SB, EQ, Nat.reduceMul, Nat.reduceAdd, Nat.reduceSub, Nat.reduceLT, Nat.reduceEqDiff, Nat.reduceLeDiff, Nat.reduceBEq, reduceCtorEq, Int.reduceToNat, ↓reduceIte]; try omega)
    · unfold entT
      rw [h2, hen (by omega), if_pos (by decide)]
theorem spec_l06Has (es : List Et) (n : ByteArray) (hl : es.length ≤ 1048576) : Fn Tryd.prog 36 [.far (es.map enP), .str n] [] (.bool (decide (0 ≤ placeI es n))) [] := by
  have hst := findI_step (fun e : Et => decide (e.1 = n)) es
  have hen := findI_end (fun e : Et => decide (e.1 = n)) es
  refine fn_x tok (n := 19) (rs := [.tmp 4]) Tryd.func36 (by decide) rfl rfl rfl rfl ?_
  (try simp (maxSteps := 1000000) (disch := first | omega | (simp only [LN, numOk, verOk, rfP, rvP, rhP, frP] <;> omega) | exact Ck.mk rfl) only [VC, T, Nat.reduceMul, Nat.reduceAdd, Nat.reduceSub, Nat.reduceLT, Nat.reduceEqDiff, Nat.reduceLeDiff, Nat.reduceBEq, reduceCtorEq, Int.reduceToNat, ↓reduceIte, rfP, rvP, rhP, frP])
  repeat' (first
    | (refine br_go (fun e f => ?_) (fun e f => ?_) <;> (try simp only [BB] at f) <;> (try simp only [numOk, verOk] at f) <;> (try simp (maxSteps := 1000000) (disch := first | omega | (simp only [LN, numOk, verOk, rfP, rvP, rhP, frP] <;> omega) | exact Ck.mk rfl) only [e, VC, T, Nat.reduceMul, Nat.reduceAdd, Nat.reduceSub, Nat.reduceLT, Nat.reduceEqDiff, Nat.reduceLeDiff, Nat.reduceBEq, reduceCtorEq, Int.reduceToNat, ↓reduceIte, rfP, rvP, rhP, frP]) <;> (try clear e))
    | (refine pick_go (fun e f => ?_) (fun e f => ?_) <;> (try simp only [BB] at f) <;> (try simp only [numOk, verOk] at f) <;> (try simp (maxSteps := 1000000) (disch := first | omega | (simp only [LN, numOk, verOk, rfP, rvP, rhP, frP] <;> omega) | exact Ck.mk rfl) only [e, VC, T, Nat.reduceMul, Nat.reduceAdd, Nat.reduceSub, Nat.reduceLT, Nat.reduceEqDiff, Nat.reduceLeDiff, Nat.reduceBEq, reduceCtorEq, Int.reduceToNat, ↓reduceIte, rfP, rvP, rhP, frP]) <;> (try clear e)))
  refine lp_go (fun i : Nat => ⟨19, [(0, .far (es.map enP)), (1, .str n), (5, .int .i64 i)], []⟩) (fun i => i ≤ es.length ∧ placeI es n = findI (fun e => decide (e.1 = n)) (es.drop i) i) (fun i => es.length - i) 0 ?_ ⟨Nat.zero_le _, rfl⟩ ?_
  · (simp (disch := first | omega | (simp only [LN, numOk, verOk] <;> omega) | exact Ck.mk rfl) only [SB, EQ, Nat.reduceMul, Nat.reduceAdd, Nat.reduceSub, Nat.reduceLT, Nat.reduceEqDiff, Nat.reduceLeDiff, Nat.reduceBEq, reduceCtorEq, Int.reduceToNat, ↓reduceIte]; try omega)
  · rintro i ⟨h1, h2⟩ N hN
    have hg : i < es.length → (es.map enP).getD i .junk = .agg [.str (es.getD i default).1, .int .i64 (es.getD i default).2] := fun h => by
      rw [List.getD_eq_getElem?_getD, List.getElem?_map, List.getElem?_eq_getElem h, List.getD_eq_getElem?_getD, List.getElem?_eq_getElem h]; rfl
    have hst := hst i
    have hen := hen i
    (try simp (maxSteps := 1000000) (disch := first | omega | (simp only [LN, numOk, verOk, rfP, rvP, rhP, frP, hg] <;> omega) | exact Ck.mk rfl) only [VC, T, Nat.reduceMul, Nat.reduceAdd, Nat.reduceSub, Nat.reduceLT, Nat.reduceEqDiff, Nat.reduceLeDiff, Nat.reduceBEq, reduceCtorEq, Int.reduceToNat, ↓reduceIte, rfP, rvP, rhP, frP, hg])
    repeat' (first
      | (refine br_go (fun e f => ?_) (fun e f => ?_) <;> (try simp only [BB] at f) <;> (try simp only [numOk, verOk] at f) <;> (try simp (maxSteps := 1000000) (disch := first | omega | (simp only [LN, numOk, verOk, rfP, rvP, rhP, frP, hg] <;> omega) | exact Ck.mk rfl) only [e, VC, T, Nat.reduceMul, Nat.reduceAdd, Nat.reduceSub, Nat.reduceLT, Nat.reduceEqDiff, Nat.reduceLeDiff, Nat.reduceBEq, reduceCtorEq, Int.reduceToNat, ↓reduceIte, rfP, rvP, rhP, frP, hg]) <;> (try clear e))
      | (refine pick_go (fun e f => ?_) (fun e f => ?_) <;> (try simp only [BB] at f) <;> (try simp only [numOk, verOk] at f) <;> (try simp (maxSteps := 1000000) (disch := first | omega | (simp only [LN, numOk, verOk, rfP, rvP, rhP, frP, hg] <;> omega) | exact Ck.mk rfl) only [e, VC, T, Nat.reduceMul, Nat.reduceAdd, Nat.reduceSub, Nat.reduceLT, Nat.reduceEqDiff, Nat.reduceLeDiff, Nat.reduceBEq, reduceCtorEq, Int.reduceToNat, ↓reduceIte, rfP, rvP, rhP, frP, hg]) <;> (try clear e)))
    · rw [h2, hst (by omega), if_pos (decide_eq_true f), decide_eq_true (by omega)]
    · refine hN (i + 1) _ ⟨by omega, ?_⟩ (by omega) ?_
      · rw [h2, hst (by omega), if_neg (by rw [decide_eq_false f]; decide)]
      · (simp (disch := first | omega | (simp only [LN, numOk, verOk] <;> omega) | exact Ck.mk rfl) only [SB, EQ, Nat.reduceMul, Nat.reduceAdd, Nat.reduceSub, Nat.reduceLT, Nat.reduceEqDiff, Nat.reduceLeDiff, Nat.reduceBEq, reduceCtorEq, Int.reduceToNat, ↓reduceIte]; try omega)
    · rw [h2, hen (by omega)]; rfl
theorem spec_l05Node (d : Dk) (k : Int) (hl : d.1.length ≤ 1048576) : Fn Tryd.prog 34 [dkP d, .int .i64 k] [] (.int .i64 (nodeI d.1 k)) [] := by
  obtain ⟨ns, es, os, ss, r, x⟩ := d
  simp only at hl ⊢
  have hst := findI_step (fun e : Nd => decide (e.1 = k)) ns
  have hen := findI_end (fun e : Nd => decide (e.1 = k)) ns
  unfold dkP
  refine fn_x tok (n := 22) (rs := [.tmp 4]) Tryd.func34 (by decide) rfl rfl rfl rfl ?_
  (try simp (maxSteps := 1000000) (disch := first | omega | (simp only [LN, numOk, verOk, rfP, rvP, rhP, frP] <;> omega) | exact Ck.mk rfl) only [VC, T, Nat.reduceMul, Nat.reduceAdd, Nat.reduceSub, Nat.reduceLT, Nat.reduceEqDiff, Nat.reduceLeDiff, Nat.reduceBEq, reduceCtorEq, Int.reduceToNat, ↓reduceIte, rfP, rvP, rhP, frP])
  repeat' (first
    | (refine br_go (fun e f => ?_) (fun e f => ?_) <;> (try simp only [BB] at f) <;> (try simp only [numOk, verOk] at f) <;> (try simp (maxSteps := 1000000) (disch := first | omega | (simp only [LN, numOk, verOk, rfP, rvP, rhP, frP] <;> omega) | exact Ck.mk rfl) only [e, VC, T, Nat.reduceMul, Nat.reduceAdd, Nat.reduceSub, Nat.reduceLT, Nat.reduceEqDiff, Nat.reduceLeDiff, Nat.reduceBEq, reduceCtorEq, Int.reduceToNat, ↓reduceIte, rfP, rvP, rhP, frP]) <;> (try clear e))
    | (refine pick_go (fun e f => ?_) (fun e f => ?_) <;> (try simp only [BB] at f) <;> (try simp only [numOk, verOk] at f) <;> (try simp (maxSteps := 1000000) (disch := first | omega | (simp only [LN, numOk, verOk, rfP, rvP, rhP, frP] <;> omega) | exact Ck.mk rfl) only [e, VC, T, Nat.reduceMul, Nat.reduceAdd, Nat.reduceSub, Nat.reduceLT, Nat.reduceEqDiff, Nat.reduceLeDiff, Nat.reduceBEq, reduceCtorEq, Int.reduceToNat, ↓reduceIte, rfP, rvP, rhP, frP]) <;> (try clear e)))
  refine lp_go (fun i : Nat => ⟨22, [(1, .int .i64 k), (2, .ref 192 0), (5, .int .i64 i)], [(192, .box 32 [.far (ns.map ndP), .far (es.map enP), .far (os.map enP), .far (ss.map .str), .int .i64 r, .int .i64 x])]⟩) (fun i => i ≤ ns.length ∧ nodeI ns k = findI (fun e => decide (e.1 = k)) (ns.drop i) i) (fun i => ns.length - i) 0 ?_ ⟨Nat.zero_le _, rfl⟩ ?_
  · (simp (disch := first | omega | (simp only [LN, numOk, verOk] <;> omega) | exact Ck.mk rfl) only [SB, EQ, Nat.reduceMul, Nat.reduceAdd, Nat.reduceSub, Nat.reduceLT, Nat.reduceEqDiff, Nat.reduceLeDiff, Nat.reduceBEq, reduceCtorEq, Int.reduceToNat, ↓reduceIte]; try omega)
  · rintro i ⟨h1, h2⟩ N hN
    have hg : i < ns.length → (ns.map ndP).getD i .junk = .agg [.int .i64 (ns.getD i default).1, .str (ns.getD i default).2.1, .int .i64 (ns.getD i default).2.2] := fun h => by
      rw [List.getD_eq_getElem?_getD, List.getElem?_map, List.getElem?_eq_getElem h, List.getD_eq_getElem?_getD, List.getElem?_eq_getElem h]; rfl
    have hst := hst i
    have hen := hen i
    (try simp (maxSteps := 1000000) (disch := first | omega | (simp only [LN, numOk, verOk, rfP, rvP, rhP, frP, hg] <;> omega) | exact Ck.mk rfl) only [VC, T, Nat.reduceMul, Nat.reduceAdd, Nat.reduceSub, Nat.reduceLT, Nat.reduceEqDiff, Nat.reduceLeDiff, Nat.reduceBEq, reduceCtorEq, Int.reduceToNat, ↓reduceIte, rfP, rvP, rhP, frP, hg])
    repeat' (first
      | (refine br_go (fun e f => ?_) (fun e f => ?_) <;> (try simp only [BB] at f) <;> (try simp only [numOk, verOk] at f) <;> (try simp (maxSteps := 1000000) (disch := first | omega | (simp only [LN, numOk, verOk, rfP, rvP, rhP, frP, hg] <;> omega) | exact Ck.mk rfl) only [e, VC, T, Nat.reduceMul, Nat.reduceAdd, Nat.reduceSub, Nat.reduceLT, Nat.reduceEqDiff, Nat.reduceLeDiff, Nat.reduceBEq, reduceCtorEq, Int.reduceToNat, ↓reduceIte, rfP, rvP, rhP, frP, hg]) <;> (try clear e))
      | (refine pick_go (fun e f => ?_) (fun e f => ?_) <;> (try simp only [BB] at f) <;> (try simp only [numOk, verOk] at f) <;> (try simp (maxSteps := 1000000) (disch := first | omega | (simp only [LN, numOk, verOk, rfP, rvP, rhP, frP, hg] <;> omega) | exact Ck.mk rfl) only [e, VC, T, Nat.reduceMul, Nat.reduceAdd, Nat.reduceSub, Nat.reduceLT, Nat.reduceEqDiff, Nat.reduceLeDiff, Nat.reduceBEq, reduceCtorEq, Int.reduceToNat, ↓reduceIte, rfP, rvP, rhP, frP, hg]) <;> (try clear e)))
    · rw [h2, hst (by omega), if_pos (decide_eq_true f)]
    · refine hN (i + 1) _ ⟨by omega, ?_⟩ (by omega) ?_
      · rw [h2, hst (by omega), if_neg (by rw [decide_eq_false f]; decide)]
      · (simp (disch := first | omega | (simp only [LN, numOk, verOk] <;> omega) | exact Ck.mk rfl) only [SB, EQ, Nat.reduceMul, Nat.reduceAdd, Nat.reduceSub, Nat.reduceLT, Nat.reduceEqDiff, Nat.reduceLeDiff, Nat.reduceBEq, reduceCtorEq, Int.reduceToNat, ↓reduceIte]; try omega)
    · rw [h2, hen (by omega)]
theorem spec_NodeAt (d : Dk) (n : ByteArray) (h : DkOk d) : Fn Tryd.prog 24 [dkP d, .str n] [] (.tup [ndP (nodeT d n).1, .bool (nodeT d n).2]) [] := by
  have hE := spec_EntryAt d.2.1 n h.es
  have hH := spec_l06Has d.2.1 n h.es
  have hN := fun k => spec_l05Node d k h.ns
  have hr := placeI_r d.2.1 n
  have hk := nodeI_r d.1 (entT d.2.1 n)
  have hp : ¬ placeI d.2.1 n < 0 → nodeP d n = nodeI d.1 (entT d.2.1 n) := fun h => by unfold nodeP entT; rw [if_neg h, if_neg h]
  have hp0 : placeI d.2.1 n < 0 → nodeP d n = -1 := fun h => by unfold nodeP; rw [if_pos h]
  unfold nodeT
  unfold dkP at *
  generalize nodeP d n = p at *
  generalize placeI d.2.1 n = a at *
  generalize entT d.2.1 n = e at *
  have hN := hN e
  generalize nodeI d.1 e = z at *
  have hg : (z.toNat < d.1.length) → (d.1.map ndP).getD z.toNat .junk = .agg [.int .i64 (d.1.getD z.toNat default).1, .str (d.1.getD z.toNat default).2.1, .int .i64 (d.1.getD z.toNat default).2.2] := fun h => by
    rw [List.getD_eq_getElem?_getD, List.getElem?_map, List.getElem?_eq_getElem h, List.getD_eq_getElem?_getD, List.getElem?_eq_getElem h]; rfl
  refine fn_x tok (n := 28) (rs := [.cell 4 54, .tmp 5]) Tryd.func24 (by decide) rfl rfl rfl rfl ?_
  (try simp (maxSteps := 1000000) (disch := first | omega | (simp only [LN, numOk, verOk, rfP, rvP, rhP, frP, hg] <;> omega) | exact Ck.mk rfl) only [VC, T, Nat.reduceMul, Nat.reduceAdd, Nat.reduceSub, Nat.reduceLT, Nat.reduceEqDiff, Nat.reduceLeDiff, Nat.reduceBEq, reduceCtorEq, Int.reduceToNat, ↓reduceIte, rfP, rvP, rhP, frP, hg])
  repeat' (first
    | (refine br_go (fun e f => ?_) (fun e f => ?_) <;> (try simp only [BB] at f) <;> (try simp only [numOk, verOk] at f) <;> (try simp (maxSteps := 1000000) (disch := first | omega | (simp only [LN, numOk, verOk, rfP, rvP, rhP, frP, hg] <;> omega) | exact Ck.mk rfl) only [e, VC, T, Nat.reduceMul, Nat.reduceAdd, Nat.reduceSub, Nat.reduceLT, Nat.reduceEqDiff, Nat.reduceLeDiff, Nat.reduceBEq, reduceCtorEq, Int.reduceToNat, ↓reduceIte, rfP, rvP, rhP, frP, hg]) <;> (try clear e))
    | (refine pick_go (fun e f => ?_) (fun e f => ?_) <;> (try simp only [BB] at f) <;> (try simp only [numOk, verOk] at f) <;> (try simp (maxSteps := 1000000) (disch := first | omega | (simp only [LN, numOk, verOk, rfP, rvP, rhP, frP, hg] <;> omega) | exact Ck.mk rfl) only [e, VC, T, Nat.reduceMul, Nat.reduceAdd, Nat.reduceSub, Nat.reduceLT, Nat.reduceEqDiff, Nat.reduceLeDiff, Nat.reduceBEq, reduceCtorEq, Int.reduceToNat, ↓reduceIte, rfP, rvP, rhP, frP, hg]) <;> (try clear e))
    | ((first | refine dr_go mixed (id := 1) [([], [2], []), ([], [2], []), ([1], [8], []), ([], [1], []), ([1, 2, 3], [9, 10], []), ([0, 1, 2, 3, 4], [7, 11], []), ([0, 1, 2, 3, 4, 5], [12], [])] rfl rfl rfl ?_ | refine call_x (hE) rfl ⟨rfl⟩ ?_ | refine call_x (hN) rfl ⟨rfl⟩ ?_ | refine call_x (hH) rfl ⟨rfl⟩ ?_); (try simp (maxSteps := 1000000) (disch := first | omega | (simp only [LN, numOk, verOk, rfP, rvP, rhP, frP, hg] <;> omega) | exact Ck.mk rfl) only [VC, T, Nat.reduceMul, Nat.reduceAdd, Nat.reduceSub, Nat.reduceLT, Nat.reduceEqDiff, Nat.reduceLeDiff, Nat.reduceBEq, reduceCtorEq, Int.reduceToNat, ↓reduceIte, rfP, rvP, rhP, frP, hg])))
  · have hq : p < 0 := by
      by_cases ha : a < 0
      · rw [hp0 ha]; decide
      · rw [hp ha]; exact f
    rw [if_pos hq]; rfl
  · rw [hp (by omega), if_neg (by omega)]; rfl
  · rw [hp0 (by omega), if_pos (by decide)]; rfl
theorem impl_ReadFile (d : Dk) (n : ByteArray) (h : DkOk d) : Fn Tryd.prog 17 [dkP d, .str n] [] (.tup [.str (fileT d n).1, .bool (fileT d n).2]) [] := by
  have hp := impl_NodeAt d n h
  unfold fileT
  generalize nodeT d n = q at *
  obtain ⟨⟨a, b, c⟩, ok⟩ := q
  unfold dkP ndP at *
  refine fn_x tok (n := 17) (rs := [.tmp 4, .tmp 5]) Tryd.func17 (by decide) rfl rfl rfl rfl ?_
  (try simp (maxSteps := 1000000) (disch := first | omega | (simp only [LN, numOk, verOk, rfP, rvP, rhP, frP] <;> omega) | exact Ck.mk rfl) only [VC, T, Nat.reduceMul, Nat.reduceAdd, Nat.reduceSub, Nat.reduceLT, Nat.reduceEqDiff, Nat.reduceLeDiff, Nat.reduceBEq, reduceCtorEq, Int.reduceToNat, ↓reduceIte, rfP, rvP, rhP, frP])
  repeat' (first
    | (refine br_go (fun e f => ?_) (fun e f => ?_) <;> (try simp only [BB] at f) <;> (try simp only [numOk, verOk] at f) <;> (try simp (maxSteps := 1000000) (disch := first | omega | (simp only [LN, numOk, verOk, rfP, rvP, rhP, frP] <;> omega) | exact Ck.mk rfl) only [e, VC, T, Nat.reduceMul, Nat.reduceAdd, Nat.reduceSub, Nat.reduceLT, Nat.reduceEqDiff, Nat.reduceLeDiff, Nat.reduceBEq, reduceCtorEq, Int.reduceToNat, ↓reduceIte, rfP, rvP, rhP, frP]) <;> (try clear e))
    | (refine pick_go (fun e f => ?_) (fun e f => ?_) <;> (try simp only [BB] at f) <;> (try simp only [numOk, verOk] at f) <;> (try simp (maxSteps := 1000000) (disch := first | omega | (simp only [LN, numOk, verOk, rfP, rvP, rhP, frP] <;> omega) | exact Ck.mk rfl) only [e, VC, T, Nat.reduceMul, Nat.reduceAdd, Nat.reduceSub, Nat.reduceLT, Nat.reduceEqDiff, Nat.reduceLeDiff, Nat.reduceBEq, reduceCtorEq, Int.reduceToNat, ↓reduceIte, rfP, rvP, rhP, frP]) <;> (try clear e))
    | ((first | refine call_x (hp) rfl ⟨rfl⟩ ?_); (try simp (maxSteps := 1000000) (disch := first | omega | (simp only [LN, numOk, verOk, rfP, rvP, rhP, frP] <;> omega) | exact Ck.mk rfl) only [VC, T, Nat.reduceMul, Nat.reduceAdd, Nat.reduceSub, Nat.reduceLT, Nat.reduceEqDiff, Nat.reduceLeDiff, Nat.reduceBEq, reduceCtorEq, Int.reduceToNat, ↓reduceIte, rfP, rvP, rhP, frP])))
theorem spec_ReadFile (d : Dk) (n : ByteArray) (h : DkOk d) : Fn Tryd.prog 12 [dkP d, .str n] [] (.tup [.str (fileT d n).1, .bool (fileT d n).2]) [] := by
  have hp := spec_NodeAt d n h
  unfold fileT
  generalize nodeT d n = q at *
  obtain ⟨⟨a, b, c⟩, ok⟩ := q
  unfold dkP ndP at *
  refine fn_x tok (n := 17) (rs := [.tmp 4, .tmp 5]) Tryd.func12 (by decide) rfl rfl rfl rfl ?_
  (try simp (maxSteps := 1000000) (disch := first | omega | (simp only [LN, numOk, verOk, rfP, rvP, rhP, frP] <;> omega) | exact Ck.mk rfl) only [VC, T, Nat.reduceMul, Nat.reduceAdd, Nat.reduceSub, Nat.reduceLT, Nat.reduceEqDiff, Nat.reduceLeDiff, Nat.reduceBEq, reduceCtorEq, Int.reduceToNat, ↓reduceIte, rfP, rvP, rhP, frP])
  repeat' (first
    | (refine br_go (fun e f => ?_) (fun e f => ?_) <;> (try simp only [BB] at f) <;> (try simp only [numOk, verOk] at f) <;> (try simp (maxSteps := 1000000) (disch := first | omega | (simp only [LN, numOk, verOk, rfP, rvP, rhP, frP] <;> omega) | exact Ck.mk rfl) only [e, VC, T, Nat.reduceMul, Nat.reduceAdd, Nat.reduceSub, Nat.reduceLT, Nat.reduceEqDiff, Nat.reduceLeDiff, Nat.reduceBEq, reduceCtorEq, Int.reduceToNat, ↓reduceIte, rfP, rvP, rhP, frP]) <;> (try clear e))
    | (refine pick_go (fun e f => ?_) (fun e f => ?_) <;> (try simp only [BB] at f) <;> (try simp only [numOk, verOk] at f) <;> (try simp (maxSteps := 1000000) (disch := first | omega | (simp only [LN, numOk, verOk, rfP, rvP, rhP, frP] <;> omega) | exact Ck.mk rfl) only [e, VC, T, Nat.reduceMul, Nat.reduceAdd, Nat.reduceSub, Nat.reduceLT, Nat.reduceEqDiff, Nat.reduceLeDiff, Nat.reduceBEq, reduceCtorEq, Int.reduceToNat, ↓reduceIte, rfP, rvP, rhP, frP]) <;> (try clear e))
    | ((first | refine call_x (hp) rfl ⟨rfl⟩ ?_); (try simp (maxSteps := 1000000) (disch := first | omega | (simp only [LN, numOk, verOk, rfP, rvP, rhP, frP] <;> omega) | exact Ck.mk rfl) only [VC, T, Nat.reduceMul, Nat.reduceAdd, Nat.reduceSub, Nat.reduceLT, Nat.reduceEqDiff, Nat.reduceLeDiff, Nat.reduceBEq, reduceCtorEq, Int.reduceToNat, ↓reduceIte, rfP, rvP, rhP, frP])))
theorem impl_TextAt (d : Dk) (b : Int) (h : DkOk d) (hb : i64 b) : Fn Tryd.prog 7 [dkP d, .int .i64 b] [] (.str (textT d b)) [] := by
  have hp := impl_ReadFile d (segT b) h
  have hs := impl_SegmentName b hb
  unfold textT
  generalize fileT d (segT b) = q at *
  generalize segT b = s at *
  obtain ⟨t, ok⟩ := q
  unfold dkP at *
  refine fn_x tok (n := 15) (rs := [.tmp 4]) Tryd.func7 (by decide) rfl rfl rfl rfl ?_
  (try simp (maxSteps := 1000000) (disch := first | omega | (simp only [LN, numOk, verOk, rfP, rvP, rhP, frP] <;> omega) | exact Ck.mk rfl) only [VC, T, Nat.reduceMul, Nat.reduceAdd, Nat.reduceSub, Nat.reduceLT, Nat.reduceEqDiff, Nat.reduceLeDiff, Nat.reduceBEq, reduceCtorEq, Int.reduceToNat, ↓reduceIte, rfP, rvP, rhP, frP])
  repeat' (first
    | (refine br_go (fun e f => ?_) (fun e f => ?_) <;> (try simp only [BB] at f) <;> (try simp only [numOk, verOk] at f) <;> (try simp (maxSteps := 1000000) (disch := first | omega | (simp only [LN, numOk, verOk, rfP, rvP, rhP, frP] <;> omega) | exact Ck.mk rfl) only [e, VC, T, Nat.reduceMul, Nat.reduceAdd, Nat.reduceSub, Nat.reduceLT, Nat.reduceEqDiff, Nat.reduceLeDiff, Nat.reduceBEq, reduceCtorEq, Int.reduceToNat, ↓reduceIte, rfP, rvP, rhP, frP]) <;> (try clear e))
    | (refine pick_go (fun e f => ?_) (fun e f => ?_) <;> (try simp only [BB] at f) <;> (try simp only [numOk, verOk] at f) <;> (try simp (maxSteps := 1000000) (disch := first | omega | (simp only [LN, numOk, verOk, rfP, rvP, rhP, frP] <;> omega) | exact Ck.mk rfl) only [e, VC, T, Nat.reduceMul, Nat.reduceAdd, Nat.reduceSub, Nat.reduceLT, Nat.reduceEqDiff, Nat.reduceLeDiff, Nat.reduceBEq, reduceCtorEq, Int.reduceToNat, ↓reduceIte, rfP, rvP, rhP, frP]) <;> (try clear e))
    | ((first | refine dr_go mixed (id := 1) [([], [2], []), ([], [1], []), ([1], [9], []), ([0, 1, 2], [8, 10], []), ([0, 1, 2, 3], [11], []), ([0, 1, 2, 3, 4], [7], []), ([0, 1, 2, 3, 4], [7], []), ([0, 1, 2, 3, 4, 5], [12], []), ([0, 1, 2, 3, 4, 5, 6, 7], [13], [])] rfl rfl rfl ?_ | refine call_x (hs) rfl ⟨rfl⟩ ?_ | refine call_x (hp) rfl ⟨rfl⟩ ?_); (try simp (maxSteps := 1000000) (disch := first | omega | (simp only [LN, numOk, verOk, rfP, rvP, rhP, frP] <;> omega) | exact Ck.mk rfl) only [VC, T, Nat.reduceMul, Nat.reduceAdd, Nat.reduceSub, Nat.reduceLT, Nat.reduceEqDiff, Nat.reduceLeDiff, Nat.reduceBEq, reduceCtorEq, Int.reduceToNat, ↓reduceIte, rfP, rvP, rhP, frP])))
theorem spec_TextAt (d : Dk) (b : Int) (h : DkOk d) (hb : i64 b) : Fn Tryd.prog 5 [dkP d, .int .i64 b] [] (.str (textT d b)) [] := by
  have hp := spec_ReadFile d (segT b) h
  have hs := spec_SegmentName b hb
  unfold textT
  generalize fileT d (segT b) = q at *
  generalize segT b = s at *
  obtain ⟨t, ok⟩ := q
  unfold dkP at *
  refine fn_x tok (n := 15) (rs := [.tmp 4]) Tryd.func5 (by decide) rfl rfl rfl rfl ?_
  (try simp (maxSteps := 1000000) (disch := first | omega | (simp only [LN, numOk, verOk, rfP, rvP, rhP, frP] <;> omega) | exact Ck.mk rfl) only [VC, T, Nat.reduceMul, Nat.reduceAdd, Nat.reduceSub, Nat.reduceLT, Nat.reduceEqDiff, Nat.reduceLeDiff, Nat.reduceBEq, reduceCtorEq, Int.reduceToNat, ↓reduceIte, rfP, rvP, rhP, frP])
  repeat' (first
    | (refine br_go (fun e f => ?_) (fun e f => ?_) <;> (try simp only [BB] at f) <;> (try simp only [numOk, verOk] at f) <;> (try simp (maxSteps := 1000000) (disch := first | omega | (simp only [LN, numOk, verOk, rfP, rvP, rhP, frP] <;> omega) | exact Ck.mk rfl) only [e, VC, T, Nat.reduceMul, Nat.reduceAdd, Nat.reduceSub, Nat.reduceLT, Nat.reduceEqDiff, Nat.reduceLeDiff, Nat.reduceBEq, reduceCtorEq, Int.reduceToNat, ↓reduceIte, rfP, rvP, rhP, frP]) <;> (try clear e))
    | (refine pick_go (fun e f => ?_) (fun e f => ?_) <;> (try simp only [BB] at f) <;> (try simp only [numOk, verOk] at f) <;> (try simp (maxSteps := 1000000) (disch := first | omega | (simp only [LN, numOk, verOk, rfP, rvP, rhP, frP] <;> omega) | exact Ck.mk rfl) only [e, VC, T, Nat.reduceMul, Nat.reduceAdd, Nat.reduceSub, Nat.reduceLT, Nat.reduceEqDiff, Nat.reduceLeDiff, Nat.reduceBEq, reduceCtorEq, Int.reduceToNat, ↓reduceIte, rfP, rvP, rhP, frP]) <;> (try clear e))
    | ((first | refine dr_go mixed (id := 1) [([], [2], []), ([], [1], []), ([1], [9], []), ([0, 1, 2], [8, 10], []), ([0, 1, 2, 3], [11], []), ([0, 1, 2, 3, 4], [7], []), ([0, 1, 2, 3, 4], [7], []), ([0, 1, 2, 3, 4, 5], [12], []), ([0, 1, 2, 3, 4, 5, 6, 7], [13], [])] rfl rfl rfl ?_ | refine call_x (hs) rfl ⟨rfl⟩ ?_ | refine call_x (hp) rfl ⟨rfl⟩ ?_); (try simp (maxSteps := 1000000) (disch := first | omega | (simp only [LN, numOk, verOk, rfP, rvP, rhP, frP] <;> omega) | exact Ck.mk rfl) only [VC, T, Nat.reduceMul, Nat.reduceAdd, Nat.reduceSub, Nat.reduceLT, Nat.reduceEqDiff, Nat.reduceLeDiff, Nat.reduceBEq, reduceCtorEq, Int.reduceToNat, ↓reduceIte, rfP, rvP, rhP, frP])))
end Go.Pv

/- strings.Builder: what its functions do, in plain values. -/
namespace Go.Pv
open Go.Proofs Go.Mth Go.RowKit
set_option linter.unusedSimpArgs false
set_option linter.unusedVariables false
set_option maxHeartbeats 4000000
theorem bl_size : (Tryd.prog.info? 77).map (·.size) = some 2 := by kernel_rfl
theorem bl_lies : liesAt Tryd.prog Tryd.prog.depth 77 (2 / Tryd.prog.cellsOf 77) 0 77 1 = true := by kernel_rfl
set_option maxRecDepth 100000 in
theorem bl_fresh (b : Nat) (w : World) (h0 : w.cell? ⟨b, 0, none⟩ = some (.pointer none)) (hsh : w.shape? b = some (77, 2)) (hfz : w.frozen? ⟨b, 0, none⟩ = false) :
    Calls Tryd.prog 55 #[.pointer (some ⟨b, 0, none⟩)] w fun e w' => e = .returned (.tuple #[]) ∧ w' = w.setCell ⟨b, 0, none⟩ (.pointer (some ⟨b, 0, none⟩)) := by
  obtain ⟨j, hj, hjs⟩ := Option.map_eq_some_iff.1 bl_size
  go_enter Tryd.func55, Tryd.ntmps55
  go_wp2
  rw [Lib.run_to_unsafe w ⟨b, 0, none⟩ Tryd.underlying75 Tryd.underlying106 hj (by rw [hjs]; decide) hsh (Nat.zero_lt_succ 1)]
  simp only [Result.andThen]
  rw [Oper.upon_value]
  go_wp2
  rw [run_callFunc_extern Tryd.func66 (by kernel_rfl) (by kernel_rfl) (by kernel_rfl) (e := Extern.AbiNoEscape.same) (by kernel_rfl)]
  rw [Lib.run_noEscape]
  simp only [Result.andThen]
  rw [Oper.upon_value]
  go_wp2
  rw [Lib.run_from_unsafe w ⟨b, 0, none⟩ Tryd.underlying106 Tryd.underlying75 hj hsh bl_lies]
  simp only [Result.andThen]
  rw [Oper.upon_value]
  go_wp2
  go_end0
  exact ⟨rfl, rfl⟩
set_option maxRecDepth 100000 in
theorem bl_String (b g cap : Nat) (p : Value) (cur : Array Value) (fzb fz : Nat × Nat) (l : List UInt8) (w : World) (h0 : l ≠ []) (hbk : w.heap[b]? = some (.cells #[p, .slice (some ⟨g, 0, none⟩) l.length cap] 77 fzb)) (hg : w.heap[g]? = some (.cells cur 5 fz))
    (hc : l.length ≤ cap) (hcm : cap ≤ cur.size) (h63 : l.length ≤ 9223372036854775807) (hcell : ∀ (j : Nat) (x : UInt8), l[j]? = some x → cur[j]? = some (Value.int .u8 x.toNat)) :
    Calls Tryd.prog 45 #[.pointer (some ⟨b, 0, none⟩)] w fun e w' => e = .returned (.string ⟨l.toArray⟩) ∧ w' = w.drew.freeze ⟨g, 0, none⟩ l.length := by
  have hl0 : l.length ≠ 0 := by simpa using h0
  have c1 : w.drew.cell? ⟨b, 1, none⟩ = some (.slice (some ⟨g, 0, none⟩) l.length cap) := by
    have : w.drew.heap[b]? = some (.cells #[p, .slice (some ⟨g, 0, none⟩) l.length cap] 77 fzb) := hbk
    rw [Lib.cell_of_heap this]; rfl
  have hSD : (Builtin.unsafeSliceData_ #[58] 97 #[.slice (some ⟨g, 0, none⟩) l.length cap]).run Tryd.prog w.drew = .ok (.pointer (some ⟨g, 0, none⟩)) w.drew :=
    Lib.run_unsafeSliceData_row _ _ _ _ _ _ (by omega)
  have hUS : (Builtin.unsafeString_ #[97, 3] 9 #[.pointer (some ⟨g, 0, none⟩), .int .i64 l.length]).run Tryd.prog w.drew = .ok (.string ⟨l.toArray⟩) (w.drew.freeze ⟨g, 0, none⟩ l.length) := by
    refine Lib.run_unsafeString_row w.drew 97 3 9 5 Tryd.underlying97 (by kernel_rfl) g cur.size (by have hg' : w.drew.heap[g]? = some (.cells cur 5 fz) := hg; simp [World.shape?, hg']) l h0 (by omega) h63 ?_
    intro j x hx
    have hg' : w.drew.heap[g]? = some (.cells cur 5 fz) := hg
    have := hcell j x hx
    by_cases hj : j = 0
    · subst hj; simp [World.cell?, Addr.add, hg', this]
    · simp [World.cell?, Addr.add, hg', this, hj]
  have hm := mixed
  go_enter Tryd.func45, Tryd.ntmps45
  go_wp2
  go_region_o
  all_goals (go_wp2; go_ret; exact ⟨rfl, rfl⟩)
set_option maxRecDepth 100000 in
theorem bl_used (b : Nat) (w : World) (h0 : w.cell? ⟨b, 0, none⟩ = some (.pointer (some ⟨b, 0, none⟩))) :
    Calls Tryd.prog 55 #[.pointer (some ⟨b, 0, none⟩)] w fun e w' => e = .returned (.tuple #[]) ∧ w' = w := by
  obtain ⟨j, hj, _⟩ := Option.map_eq_some_iff.1 bl_size
  go_enter Tryd.func55, Tryd.ntmps55
  go_wp2
  rw [Lib.run_neq_ptr_same w _ Tryd.underlying75 hj]
  go_wp2
  go_end0
  exact ⟨rfl, rfl⟩
section
variable {w : World} {A : Bl} {Γ : Nat → Value} {hp : Hp}
theorem ref_val {b off q : Nat} {cs : List PV} {v : Value} (h : VR w A Γ hp (.ref b off) v) (hb : hget hp b = some (.box q cs)) : ∃ β, Γ b = .pointer (some ⟨β, 0, none⟩) ∧ v = .pointer (some ⟨β, off, none⟩) := by
  cases h with
  | data h => cases h
  | ref _ _ _ _ _ k => exact k q cs hb
theorem vr_nilp {v : Value} (h : VR w A Γ hp .nilp v) : v = .pointer none := by
  cases h with | data h => cases h; rfl
theorem row_val {g n : Nat} {sz : Sz} {xs : List PV} {v : Value} (h : VR w A Γ hp (.row g n) v) (hb : hget hp g = some (.row sz xs)) (hn : n = xs.length) : v = Γ g := by
  cases h with
  | data h => cases h
  | row _ _ _ _ _ k => exact (k sz xs hb).2 hn
theorem vs_one {vs : Array Value} (h : vs.size = 1) : vs = #[vs.getD 0 undef] := by
  apply Array.ext
  · simpa using h
  · intro i h1 h2
    obtain rfl : i = 0 := by omega
    simp [Array.getD, h1]
theorem box_cell {β : Nat} {c : Array Value} {q : TypeId} {fr : Nat × Nat} (h : w.heap[β]? = some (.cells c q fr)) {i : Nat} (hi : i < c.size) : w.cell? ⟨β, i, none⟩ = some (c.getD i undef) := by
  rw [Lib.cell_of_heap h, Array.getD_eq_getD_getElem?, Array.getElem?_eq_getElem hi]; rfl
end
theorem copy_ent : Ent Tryd.prog 55 := fun vs w => by
  simp [callFunc, Tryd.func55, show (Tryd.f55).name ≠ "runtime.NumGoroutine" by decide, show (Tryd.f55).body = some _ from rfl]
theorem str_ent : Ent Tryd.prog 45 := fun vs w => by
  simp [callFunc, Tryd.func45, show (Tryd.f45).name ≠ "runtime.NumGoroutine" by decide, show (Tryd.f45).body = some _ from rfl]
theorem copy_used (ha : Hp) (x : PV) (h : hget ha 0 = some (.box 77 [.ref 0 0, x])) : Fn Tryd.prog 55 [.ref 0 0] ha (.tup []) ha := by
  refine ⟨copy_ent, fun w V Γ vs hV hs hargs hhr hd => ?_⟩
  have h0 := hhr 0
  unfold HR at h0
  rw [h] at h0
  obtain ⟨β, c, fr, e1, e2, e3, e4, e5⟩ := h0
  obtain ⟨β', g1, g2⟩ := ref_val (hargs 0 _ rfl) h
  obtain ⟨β2, g3, g4⟩ := ref_val (e5 0 _ rfl) h
  rw [e1] at g1 g3
  cases g1
  cases g3
  rw [vs_one hs, g2]
  have e3' : c.size = 2 := e3
  refine (bl_used β w (by rw [box_cell e2 (by omega), g4])).mono ?_
  rintro e w' ⟨rfl, rfl⟩
  exact ⟨_, Γ, rfl, Kp.refl _ _, .tup [] #[] rfl (fun i x h => by simp at h), hhr, hd, fun b hb => .inr hb, fun _ _ _ _ => rfl⟩
theorem copy_fresh : Fn Tryd.prog 55 [.ref 0 0] [(0, .box 77 [.nilp, .nils])] (.tup []) [(0, .box 77 [.ref 0 0, .nils])] := by
  refine ⟨copy_ent, fun w V Γ vs hV hs hargs hhr hd => ?_⟩
  obtain ⟨β, c, fr, e1, e2, e3, e4, e5⟩ := hhr 0
  obtain ⟨β', g1, g2⟩ := ref_val (hargs 0 _ rfl) rfl
  rw [e1] at g1
  cases g1
  have c0 : c.getD 0 undef = .pointer none := vr_nilp (e5 0 _ rfl)
  have c1 : c.getD 1 undef = .slice none 0 0 := vr_nils (e5 1 _ rfl)
  have e3' : c.size = 2 := e3
  rw [vs_one hs, g2]
  refine (bl_fresh β w (by rw [box_cell e2 (by omega), c0]) (by simp [World.shape?, e2, e3']) (by
    have := e4 0 (Nat.le_refl _) (by omega)
    simp only [World.frozen?, e2]
    simpa using this)).mono ?_
  rintro e w' ⟨rfl, rfl⟩
  have hw : (w.setCell ⟨β, 0, none⟩ (.pointer (some ⟨β, 0, none⟩))).heap[β]? = some (.cells (c.setIfInBounds 0 (.pointer (some ⟨β, 0, none⟩))) 77 fr) := by
    simp [World.setCell, Array.getElem?_modify, e2]
  have ho : ∀ b, b ≠ β → (w.setCell ⟨β, 0, none⟩ (.pointer (some ⟨β, 0, none⟩))).heap[b]? = w.heap[b]? := fun b hb => by
    simp [World.setCell, Array.getElem?_modify, Ne.symm hb]
  have lv : ∀ k, live [(0, HC.box 77 [.ref 0 0, .nils])] k → k = 0 := fun k hk => by
    unfold live at hk
    by_cases e : k = 0
    · exact e
    · simp [hget, e] at hk
  have l0 : live [(0, HC.box 77 [.nilp, .nils])] 0 := trivial
  refine ⟨_, Γ, rfl, ⟨rfl, rfl, rfl, by simp [World.setCell], fun b hb hM => ho b fun e => hM ⟨0, l0, by rw [e1, e]; rfl⟩⟩, .tup [] #[] rfl (fun i x h => by simp at h), fun k => ?_, fun k k' b l l' _ _ => (lv k l).trans (lv k' l').symm, fun b ⟨k, l, hk⟩ => .inr ⟨0, l0, by rw [← lv k l]; exact hk⟩, fun _ _ _ _ => rfl⟩
  unfold HR
  by_cases e : k = 0
  · subst e
    refine ⟨β, _, fr, e1, hw, by simp [e3'], by simpa using e4, fun j y hy => ?_⟩
    match j, hy with
    | 0, hy =>
      cases hy
      have : (c.setIfInBounds 0 (Value.pointer (some ⟨β, 0, none⟩))).getD 0 undef = .pointer (some ⟨β, 0, none⟩) := by
        simp [Array.getD_eq_getD_getElem?, e3']
      rw [this]
      exact .ref 0 0 _ rfl (by simp [hget]) fun q cs _ => ⟨β, e1, rfl⟩
    | 1, hy =>
      cases hy
      have : (c.setIfInBounds 0 (Value.pointer (some ⟨β, 0, none⟩))).getD 1 undef = c.getD 1 undef := by
        simp [Array.getD_eq_getD_getElem?, e3']
      rw [this, c1]
      exact .data .nils
    | j + 2, hy => simp at hy
  · simp [hget, e]
/-- A builder that holds bytes, as it is handed over. -/
def blH (t : ByteArray) : Hp := [(0, .box 77 [.ref 0 0, .row 1 t.size]), (1, .row ⟨1, 5⟩ ((bytesOf t).map (.int .u8)))]
theorem Builder_Write0 (s : ByteArray) (h0 : ¬ s.size = 0) (hs : s.size ≤ 1000000000000) : FnE Tryd.prog 43 [.ref 0 0, .str s] [(0, .box 77 [.nilp, .nils])] (fun r m => r = .tup [.int .i64 s.size, .raw .nilIface] ∧ m = [(0, .box 77 [.ref 0 0, .row 64 s.size]), (64, .row ⟨1, 5⟩ ((bytesOf s).map (.int .u8)))]) := by
  refine fn_e tok (n := 19) (rs := [.tmp 4, .tmp 5]) Tryd.func43 (by decide) rfl rfl rfl rfl (low_of rfl) ?_
  (try simp (maxSteps := 1000000) (disch := first | omega | (simp only [LN, numOk, verOk, bytesOf_length] <;> omega) | exact Ck.mk rfl) only [VC, T, Nat.reduceMul, Nat.reduceAdd, Nat.reduceSub, Nat.reduceLT, Nat.reduceEqDiff, Nat.reduceLeDiff, Nat.reduceBEq, reduceCtorEq, Int.reduceToNat, ↓reduceIte, bytesOf_length])
  repeat' (first
    | (refine br_go (fun e f => ?_) (fun e f => ?_) <;> (try simp only [BB] at f) <;> (try simp only [numOk, verOk] at f) <;> (try simp (maxSteps := 1000000) (disch := first | omega | (simp only [LN, numOk, verOk, bytesOf_length] <;> omega) | exact Ck.mk rfl) only [e, VC, T, Nat.reduceMul, Nat.reduceAdd, Nat.reduceSub, Nat.reduceLT, Nat.reduceEqDiff, Nat.reduceLeDiff, Nat.reduceBEq, reduceCtorEq, Int.reduceToNat, ↓reduceIte, bytesOf_length]) <;> (try clear e))
    | (refine pick_go (fun e f => ?_) (fun e f => ?_) <;> (try simp only [BB] at f) <;> (try simp only [numOk, verOk] at f) <;> (try simp (maxSteps := 1000000) (disch := first | omega | (simp only [LN, numOk, verOk, bytesOf_length] <;> omega) | exact Ck.mk rfl) only [e, VC, T, Nat.reduceMul, Nat.reduceAdd, Nat.reduceSub, Nat.reduceLT, Nat.reduceEqDiff, Nat.reduceLeDiff, Nat.reduceBEq, reduceCtorEq, Int.reduceToNat, ↓reduceIte, bytesOf_length]) <;> (try clear e))
    | ((first | refine call_hx [0] [] (copy_fresh) (by decide) rfl rfl ?_); (try simp (maxSteps := 1000000) (disch := first | omega | (simp only [LN, numOk, verOk, bytesOf_length] <;> omega) | exact Ck.mk rfl) only [VC, T, Nat.reduceMul, Nat.reduceAdd, Nat.reduceSub, Nat.reduceLT, Nat.reduceEqDiff, Nat.reduceLeDiff, Nat.reduceBEq, reduceCtorEq, Int.reduceToNat, ↓reduceIte, bytesOf_length])))
  exact fin_t [some 960] (⟨rfl, rfl⟩) rfl (by simp [RV, RV2, RVl, RV1, tau, tget, hget, data1, oneOf]) (by simp [RH, RVl, RV1, tau, hget, data1]) (by simp [Taus, hget])
theorem Builder_Write (t s : ByteArray) (ht : t.size ≤ 1000000000000) (hs : s.size ≤ 1000000000000) : FnE Tryd.prog 43 [.ref 0 0, .str s] (blH t) (fun r m => r = .tup [.int .i64 s.size, .raw .nilIface] ∧ m = blH (t ++ s)) := by
  unfold blH
  refine fn_e tok (n := 19) (rs := [.tmp 4, .tmp 5]) Tryd.func43 (by decide) rfl rfl rfl rfl (low_of rfl) ?_
  (try simp (maxSteps := 1000000) (disch := first | omega | (simp only [LN, numOk, verOk, bytesOf_length] <;> omega) | exact Ck.mk rfl) only [VC, T, Nat.reduceMul, Nat.reduceAdd, Nat.reduceSub, Nat.reduceLT, Nat.reduceEqDiff, Nat.reduceLeDiff, Nat.reduceBEq, reduceCtorEq, Int.reduceToNat, ↓reduceIte, bytesOf_length])
  repeat' (first
    | (refine br_go (fun e f => ?_) (fun e f => ?_) <;> (try simp only [BB] at f) <;> (try simp only [numOk, verOk] at f) <;> (try simp (maxSteps := 1000000) (disch := first | omega | (simp only [LN, numOk, verOk, bytesOf_length] <;> omega) | exact Ck.mk rfl) only [e, VC, T, Nat.reduceMul, Nat.reduceAdd, Nat.reduceSub, Nat.reduceLT, Nat.reduceEqDiff, Nat.reduceLeDiff, Nat.reduceBEq, reduceCtorEq, Int.reduceToNat, ↓reduceIte, bytesOf_length]) <;> (try clear e))
    | (refine pick_go (fun e f => ?_) (fun e f => ?_) <;> (try simp only [BB] at f) <;> (try simp only [numOk, verOk] at f) <;> (try simp (maxSteps := 1000000) (disch := first | omega | (simp only [LN, numOk, verOk, bytesOf_length] <;> omega) | exact Ck.mk rfl) only [e, VC, T, Nat.reduceMul, Nat.reduceAdd, Nat.reduceSub, Nat.reduceLT, Nat.reduceEqDiff, Nat.reduceLeDiff, Nat.reduceBEq, reduceCtorEq, Int.reduceToNat, ↓reduceIte, bytesOf_length]) <;> (try clear e))
    | ((first | refine call_hx [0, 1] [] (copy_used _ _ rfl) (by decide) rfl rfl ?_); (try simp (maxSteps := 1000000) (disch := first | omega | (simp only [LN, numOk, verOk, bytesOf_length] <;> omega) | exact Ck.mk rfl) only [VC, T, Nat.reduceMul, Nat.reduceAdd, Nat.reduceSub, Nat.reduceLT, Nat.reduceEqDiff, Nat.reduceLeDiff, Nat.reduceBEq, reduceCtorEq, Int.reduceToNat, ↓reduceIte, bytesOf_length])))
  exact fin_t [] (⟨rfl, rfl⟩) rfl (by simp [RV, RV2, RVl, RV1, tau, tget, hget, data1, oneOf, bytesOf_append]) (by simp [RH, RVl, RV1, tau, hget, data1, bytesOf_append]) (by simp [Taus, hget, bytesOf_append])
/-- What stands in a builder is told as a text; its memory is read only from then on. -/
theorem Builder_String (t : ByteArray) (h0 : ¬ t.size = 0) (h1 : t.size ≤ 1000000000000) : Fn Tryd.prog 45 [.ref 0 0] (blH t) (.str t) [(0, .box 77 [.ref 0 0, .far ((bytesOf t).map (.int .u8))])] := by
  refine ⟨str_ent, fun w V Γ vs hV hs hargs hhr hd => ?_⟩
  obtain ⟨β, c, fr, e1, e2, e3, e4, e5⟩ := hhr 0
  obtain ⟨_, hrow⟩ := hhr 1
  obtain ⟨β', g1, g2⟩ := ref_val (hargs 0 _ rfl) rfl
  rw [e1] at g1
  cases g1
  have e3' : c.size = 2 := e3
  have hlen : ((bytesOf t).map (PV.int .u8)).length = t.size := by rw [List.length_map, bytesOf_length]
  rcases hrow with ⟨hn, _⟩ | ⟨g, o, cap, cur, e, frg, q1, q2, q3, q4, q5, q6, q7, q8⟩
  · exfalso; rw [hn] at hlen; exact h0 hlen.symm
  obtain ⟨rfl, rfl⟩ : e = 5 ∧ o = 0 := by
    rcases q3 with q3 | q3
    · exact absurd q3 (by decide)
    · exact q3
  rw [hlen] at q1 q4
  have hls : t.data.toList.length = t.size := Array.length_toList
  obtain ⟨β2, g3, g4⟩ := ref_val (e5 0 _ rfl) rfl
  rw [e1] at g3
  cases g3
  have g5 : c.getD 1 undef = .slice (some ⟨g, 0, none⟩) t.size cap := by
    rw [row_val (e5 1 _ rfl) rfl hlen.symm, q1]
  have hc : c = #[.pointer (some ⟨β, 0, none⟩), .slice (some ⟨g, 0, none⟩) t.size cap] := by
    apply Array.ext
    · exact e3'
    · intro i hi _
      have hi2 : i < 2 := by omega
      have hx : c.getD i undef = c[i] := by simp [Array.getD, hi]
      obtain rfl | rfl : i = 0 ∨ i = 1 := by omega
      · rw [← hx, g4]; rfl
      · rw [← hx, g5]; rfl
  subst hc
  have hgβ : g ≠ β := fun e => by
    have := hd 1 0 β (by trivial) (by trivial) (by rw [q1, e]; rfl) (by rw [e1]; rfl)
    cases this
  have hby : ∀ (j : Nat) (x : UInt8), t.data.toList[j]? = some x → (bytesOf t)[j]? = some (x.toNat : Int) := fun j x hx => by
    unfold bytesOf
    rw [List.getElem?_map, hx]; rfl
  have hcell : ∀ (j : Nat) (x : UInt8), t.data.toList[j]? = some x → cur[j]? = some (Value.int .u8 x.toNat) := fun j x hx => by
    have hj : j < t.size := by rw [← hls]; exact (List.getElem?_eq_some_iff.1 hx).1
    have h8 := q8 j (.int .u8 x.toNat) 0 (.int .u8 x.toNat) (by rw [List.getElem?_map, hby j x hx]; rfl) rfl
    have h9 : (0 : Nat) + j * 1 + 0 = j := by omega
    change DR w _ _ (cur.getD (0 + j * 1 + 0) undef) at h8
    rw [h9] at h8
    have hjc : j < cur.size := by have : 0 + cap * 1 ≤ cur.size := q5; omega
    rw [Array.getElem?_eq_getElem hjc]
    have h10 : cur.getD j undef = cur[j] := by simp [Array.getD, hjc]
    rw [← h10]
    generalize cur.getD j undef = u at h8
    cases h8; rfl
  have q5' : 0 + cap * 1 ≤ cur.size := q5
  rw [vs_one hs, g2]
  have hne : t.data.toList ≠ [] := fun e => h0 (by rw [← hls, e]; rfl)
  refine (bl_String β g cap (.pointer (some ⟨β, 0, none⟩)) cur fr frg t.data.toList w hne (by rw [hls]; exact e2) q2 (by omega) (by omega) (by omega) hcell).mono ?_
  rintro e w' ⟨rfl, rfl⟩
  have hw : ∀ b, b ≠ g → (w.drew.freeze ⟨g, 0, none⟩ t.data.toList.length).heap[b]? = w.heap[b]? := fun b hb => by
    unfold World.freeze
    rw [if_neg (by omega)]
    show (w.heap.modify g _)[b]? = _
    rw [Array.getElem?_modify, if_neg (Ne.symm hb)]
  obtain ⟨fr', hg'⟩ : ∃ fr', (w.drew.freeze ⟨g, 0, none⟩ t.data.toList.length).heap[g]? = some (.cells cur 5 fr') := by
    unfold World.freeze
    rw [if_neg (by omega)]
    refine ⟨if (frg.1 == frg.2) = true then (0, 0 + t.data.toList.length) else (min frg.1 0, max frg.2 (0 + t.data.toList.length)), ?_⟩
    show (w.heap.modify g _)[g]? = _
    rw [Array.getElem?_modify, if_pos rfl, q2]; rfl
  have hsz : (w.drew.freeze ⟨g, 0, none⟩ t.data.toList.length).heap.size = w.heap.size := by
    unfold World.freeze
    rw [if_neg (by omega)]
    show (w.heap.modify g _).size = _
    rw [Array.size_modify]
  have l1 : live (blH t) 1 := trivial
  have l0 : live (blH t) 0 := trivial
  have lv : ∀ k, live [(0, HC.box 77 [.ref 0 0, .far ((bytesOf t).map (.int .u8))])] k → k = 0 := fun k hk => by
    unfold live at hk
    by_cases e : k = 0
    · exact e
    · simp [hget, e] at hk
  have hVg : ¬ V g := fun h => (hV.1 g h).2 ⟨1, l1, by rw [q1]; rfl⟩
  refine ⟨_, Γ, rfl, ⟨?_, ?_, ?_, Nat.le_of_eq hsz.symm, fun b hb hM => hw b fun e => hM ⟨1, l1, by rw [q1, e]; rfl⟩⟩, .data (.str _), fun k => ?_, fun k k' b l l' _ _ => (lv k l).trans (lv k' l').symm, fun b ⟨k, l, hk⟩ => .inr ⟨0, l0, by rw [← lv k l]; exact hk⟩, fun _ _ _ _ => rfl⟩
  · unfold World.freeze; rw [if_neg (by omega)]; rfl
  · unfold World.freeze; rw [if_neg (by omega)]; rfl
  · unfold World.freeze; rw [if_neg (by omega)]; rfl
  · unfold HR
    by_cases e : k = 0
    · subst e
      refine ⟨β, _, fr, e1, (hw β (Ne.symm hgβ)).trans e2, rfl, e4, fun j y hy => ?_⟩
      match j, hy with
      | 0, hy => cases hy; exact .ref 0 0 _ rfl (by simp [hget]) fun q cs _ => ⟨β, e1, rfl⟩
      | 1, hy =>
        cases hy
        have key := DR.far (w := w.drew.freeze ⟨g, 0, none⟩ t.data.toList.length) (A := Av V Γ [(0, HC.box 77 [.ref 0 0, .far ((bytesOf t).map (.int .u8))])]) ((bytesOf t).map (.int .u8)) g 0 cap 1 cur 5 fr' (fun h => by
          rcases h with h | ⟨k, l, hk⟩
          · exact hVg h
          · rw [lv k l, e1] at hk
            cases hk; exact hgβ rfl) hg' (by rw [hlen]; exact q4) (fun i x hx => by
              obtain ⟨n, _, rfl⟩ := Option.map_eq_some_iff.1 (List.getElem?_map ▸ hx); rfl)
          (fun i x j y hx hy => by
            have hi : i < t.size := by rw [← hlen]; exact (List.getElem?_eq_some_iff.1 hx).1
            obtain ⟨n, _, rfl⟩ := Option.map_eq_some_iff.1 (List.getElem?_map ▸ hx)
            have hj : j < 1 := (List.getElem?_eq_some_iff.1 hy).1
            omega)
          (fun i x j y hx hy => by
            have h8 := q8 i x j y hx hy
            obtain ⟨n, _, rfl⟩ := Option.map_eq_some_iff.1 (List.getElem?_map ▸ hx)
            obtain rfl : j = 0 := by have hj : j < 1 := (List.getElem?_eq_some_iff.1 hy).1; omega
            cases hy
            change DR w _ _ (cur.getD (0 + i * 1 + 0) undef) at h8
            generalize cur.getD (0 + i * 1 + 0) undef = u at h8 ⊢
            cases h8; exact .int _ _)
        rw [hlen] at key
        exact .data key
      | j + 2, hy => simp at hy
    · simp [hget, e]
theorem Builder_Len (xs : List PV) : FnE Tryd.prog 44 [.ref 0 0] [(0, .box 77 [.ref 0 0, .far xs])] (fun r m => r = .int .i64 xs.length ∧ m = [(0, .box 77 [.ref 0 0, .far xs])]) := by
  refine fn_e tok (n := 8) (rs := [.tmp 2]) Tryd.func44 (by decide) rfl rfl rfl rfl (low_of rfl) ?_
  (try simp (maxSteps := 1000000) (disch := first | omega | (simp only [LN, numOk, verOk] <;> omega) | exact Ck.mk rfl) only [VC, T, Nat.reduceMul, Nat.reduceAdd, Nat.reduceSub, Nat.reduceLT, Nat.reduceEqDiff, Nat.reduceLeDiff, Nat.reduceBEq, reduceCtorEq, Int.reduceToNat, ↓reduceIte])
  repeat' (first
    | (refine br_go (fun e f => ?_) (fun e f => ?_) <;> (try simp only [BB] at f) <;> (try simp only [numOk, verOk] at f) <;> (try simp (maxSteps := 1000000) (disch := first | omega | (simp only [LN, numOk, verOk] <;> omega) | exact Ck.mk rfl) only [e, VC, T, Nat.reduceMul, Nat.reduceAdd, Nat.reduceSub, Nat.reduceLT, Nat.reduceEqDiff, Nat.reduceLeDiff, Nat.reduceBEq, reduceCtorEq, Int.reduceToNat, ↓reduceIte]) <;> (try clear e))
    | (refine pick_go (fun e f => ?_) (fun e f => ?_) <;> (try simp only [BB] at f) <;> (try simp only [numOk, verOk] at f) <;> (try simp (maxSteps := 1000000) (disch := first | omega | (simp only [LN, numOk, verOk] <;> omega) | exact Ck.mk rfl) only [e, VC, T, Nat.reduceMul, Nat.reduceAdd, Nat.reduceSub, Nat.reduceLT, Nat.reduceEqDiff, Nat.reduceLeDiff, Nat.reduceBEq, reduceCtorEq, Int.reduceToNat, ↓reduceIte]) <;> (try clear e)))
  exact fin_t [] (⟨rfl, rfl⟩) rfl (by simp [RV, RV2, RVl, RV1, tau, tget, hget, data1, oneOf]) (by simp [RH, RVl, RV1, tau, hget, data1]) (by simp [Taus, hget])
theorem Builder_Len1 (t : ByteArray) (ht : t.size ≤ 1000000000000) : FnE Tryd.prog 44 [.ref 0 0] (blH t) (fun r m => r = .int .i64 t.size ∧ m = blH t) := by
  unfold blH
  refine fn_e tok (n := 8) (rs := [.tmp 2]) Tryd.func44 (by decide) rfl rfl rfl rfl (low_of rfl) ?_
  (try simp (maxSteps := 1000000) (disch := first | omega | (simp only [LN, numOk, verOk, bytesOf_length] <;> omega) | exact Ck.mk rfl) only [VC, T, Nat.reduceMul, Nat.reduceAdd, Nat.reduceSub, Nat.reduceLT, Nat.reduceEqDiff, Nat.reduceLeDiff, Nat.reduceBEq, reduceCtorEq, Int.reduceToNat, ↓reduceIte, bytesOf_length])
  repeat' (first
    | (refine br_go (fun e f => ?_) (fun e f => ?_) <;> (try simp only [BB] at f) <;> (try simp only [numOk, verOk] at f) <;> (try simp (maxSteps := 1000000) (disch := first | omega | (simp only [LN, numOk, verOk, bytesOf_length] <;> omega) | exact Ck.mk rfl) only [e, VC, T, Nat.reduceMul, Nat.reduceAdd, Nat.reduceSub, Nat.reduceLT, Nat.reduceEqDiff, Nat.reduceLeDiff, Nat.reduceBEq, reduceCtorEq, Int.reduceToNat, ↓reduceIte, bytesOf_length]) <;> (try clear e))
    | (refine pick_go (fun e f => ?_) (fun e f => ?_) <;> (try simp only [BB] at f) <;> (try simp only [numOk, verOk] at f) <;> (try simp (maxSteps := 1000000) (disch := first | omega | (simp only [LN, numOk, verOk, bytesOf_length] <;> omega) | exact Ck.mk rfl) only [e, VC, T, Nat.reduceMul, Nat.reduceAdd, Nat.reduceSub, Nat.reduceLT, Nat.reduceEqDiff, Nat.reduceLeDiff, Nat.reduceBEq, reduceCtorEq, Int.reduceToNat, ↓reduceIte, bytesOf_length]) <;> (try clear e)))
  exact fin_t [] (⟨rfl, rfl⟩) rfl (by simp [RV, RV2, RVl, RV1, tau, tget, hget, data1, oneOf]) (by simp [RH, RVl, RV1, tau, hget, data1]) (by simp [Taus, hget])
end Go.Pv

/- What functions of the program and of the reference do, in plain values. -/
namespace Go.Pv
open Go.Proofs Go.Mth
set_option linter.unusedSimpArgs false
set_option linter.unusedVariables false
set_option maxHeartbeats 4000000

/-! ### lists of places, feet, sealed files -/
theorem upT_size0 {a b : Int} (h : ¬ (upT a b).size = 0) : b ≤ a := Decidable.byContradiction fun q => h (by rw [upT_no fun x => q x.1]; rfl)
theorem plc_mem (s : Int) (os : List Int) : ∀ (l : List Int) (i : Nat), (∀ x ∈ l, x ∈ os) → i + l.length ≤ os.length → ∀ p ∈ plc (fun a b => (a, b)) s l i, (0 ≤ p.1 ∧ p.1 < os.length) ∧ p.2 ∈ os
  | [], i, _, _, p, hp => by simp [plc] at hp
  | x :: l, i, hm, hi, p, hp => by
    rw [List.length_cons] at hi
    have ih := plc_mem s os l (i + 1) (fun y hy => hm y (List.mem_cons_of_mem _ hy)) (by omega) p
    unfold plc at hp
    split at hp
    · rcases List.mem_cons.1 hp with rfl | hp
      · exact ⟨⟨by simp only; omega, by simp only; omega⟩, hm x List.mem_cons_self⟩
      · exact ih hp
    · exact ih hp
theorem placesP_mem (s : Int) (os : List Int) (p : Int × Int) (hp : p ∈ placesP s os) : (0 ≤ p.1 ∧ p.1 < os.length) ∧ p.2 ∈ os := by
  unfold placesP placesOf at hp
  split at hp
  · simp at hp
  · exact plc_mem s os os 0 (fun x h => h) (by omega) p hp
theorem trail_20 {a b c d : Int} (h : ¬ (trailT a b c d).size = 0) : (trailT a b c d).size = 20 := by
  obtain ⟨h1, h2, h3, h4, _⟩ := trailT_size a b c d h
  have k1 := fixT4_full a h1
  have k2 := fixT4_full b h2
  have k3 := fixT4_full c h3
  have k4 := fixT4_full d h4
  exact (trailT_pos a b c d k1.2 k2.2 k3.2 k4.2).2
def ixf {α : Type} (p : α → Bool) : List α → Nat → Int
  | [], _ => -1
  | x :: l, i => if p x = true then i else ixf p l (i + 1)
theorem ixf_step {α : Type} [Inhabited α] (p : α → Bool) (l : List α) (i : Nat) (h : i < l.length) : ixf p (l.drop i) i = if p (l.getD i default) = true then (i : Int) else ixf p (l.drop (i + 1)) (i + 1) := by
  rw [List.drop_eq_getElem_cons h, List.getD_eq_getElem?_getD, List.getElem?_eq_getElem h]; rfl
theorem ixf_any {α : Type} (p : α → Bool) : ∀ (l : List α) (i : Nat), (0 ≤ ixf p l i ↔ l.any p = true) ∧ -1 ≤ ixf p l i ∧ ixf p l i < i + l.length
  | [], i => ⟨by simp [ixf], by simp [ixf], by simp only [ixf, List.length_nil]; omega⟩
  | x :: l, i => by
    have ih := ixf_any p l (i + 1)
    unfold ixf
    rw [List.any_cons, List.length_cons]
    by_cases h : p x = true
    · rw [if_pos h, h]; exact ⟨by simp, by omega, by omega⟩
    · have h' : p x = false := by simpa using h
      rw [if_neg h, h', Bool.false_or]
      exact ⟨ih.1, ih.2.1, by omega⟩
theorem any60 (rs : List ByteArray) : rs.any (fun s => decide (60 < s.size)) = true ↔ ¬ ∀ r ∈ rs, r.size ≤ 60 := by
  rw [List.any_eq_true]
  constructor
  · rintro ⟨r, h1, h2⟩ h3
    have := h3 r h1
    have := of_decide_eq_true h2
    omega
  · intro h
    refine Decidable.byContradiction fun k => h fun r hr => ?_
    refine Decidable.byContradiction fun q => k ⟨r, hr, decide_eq_true (by omega)⟩
end Go.Pv

/- What functions of the program and of the reference do, in plain values. -/
namespace Go.Pv
open Go.Proofs Go.Mth
set_option linter.unusedSimpArgs false
set_option linter.unusedVariables false
set_option maxHeartbeats 4000000

/-! ### scans -/
def slN (K n : Nat) : PV := if n = 0 then .nils else .row K n
def hpN (K : Nat) (xs : List PV) : Hp := if xs.length = 0 then [] else [(K, .row ⟨1, 0⟩ xs)]
abbrev Sc := Bool × Int × Int × Int × Int × List ByteArray × List Int × Int × Bool
/-- A scan as it is handed back: its slices as one's own. -/
def scanR (t : Sc) : PV := .agg [.bool t.1, .int .i64 t.2.1, .int .i64 t.2.2.1, .int .i64 t.2.2.2.1, .int .i64 t.2.2.2.2.1, .row 64 t.2.2.2.2.2.1.length, .row 65 t.2.2.2.2.2.2.1.length, .int .i64 t.2.2.2.2.2.2.2.1, .bool t.2.2.2.2.2.2.2.2]
def scanH (t : Sc) : Hp := [(64, .row ⟨1, 0⟩ (t.2.2.2.2.2.1.map .str)), (65, .row ⟨1, 0⟩ (t.2.2.2.2.2.2.1.map (.int .i64)))]
def scanP (t : Sc) : PV := .agg [.bool t.1, .int .i64 t.2.1, .int .i64 t.2.2.1, .int .i64 t.2.2.2.1, .int .i64 t.2.2.2.2.1, .far (t.2.2.2.2.2.1.map .str), .far (t.2.2.2.2.2.2.1.map (.int .i64)), .int .i64 t.2.2.2.2.2.2.2.1, .bool t.2.2.2.2.2.2.2.2]
end Go.Pv

/- What functions of the program and of the reference do, in plain values. -/
namespace Go.Pv
open Go.Proofs Go.Mth
set_option linter.unusedSimpArgs false
set_option linter.unusedVariables false
set_option maxHeartbeats 4000000

/-! ### what is told of scans -/
def scEnd (b : ByteArray) : Int := (scan b).2.2.2.2.2.2.2.1
theorem scEnd_ok (b : ByteArray) : 0 ≤ scEnd b ∧ scEnd b ≤ b.size := by
  by_cases h : (scan b).1 = true
  · obtain ⟨_, h2, h3, _⟩ := scan_inv b h
    exact ⟨by unfold scEnd; omega, h3⟩
  · unfold scEnd; rw [scan_no b h]; simp
end Go.Pv

/- What functions of the program and of the reference do, in plain values. -/
namespace Go.Pv
open Go.Proofs Go.Mth
set_option linter.unusedSimpArgs false
set_option linter.unusedVariables false
set_option maxHeartbeats 4000000

/-! ### sealed files, read -/
def rsP (x : (Int × Int × Int × Int) × List ByteArray × Bool) : PV := .tup [.agg [.int .i64 x.1.1, .int .i64 x.1.2.1, .int .i64 x.1.2.2.1, .int .i64 x.1.2.2.2], .far (x.2.1.map .str), .bool x.2.2]
def rsR (x : (Int × Int × Int × Int) × List ByteArray × Bool) : PV := .tup [.agg [.int .i64 x.1.1, .int .i64 x.1.2.1, .int .i64 x.1.2.2.1, .int .i64 x.1.2.2.2], .row 64 x.2.1.length, .bool x.2.2]
def rsH (x : (Int × Int × Int × Int) × List ByteArray × Bool) : Hp := [(64, .row ⟨1, 0⟩ (x.2.1.map .str))]
def hiP (x : (Int × Int × Int × Int) × List ByteArray × Bool) : PV := .tup [.agg [.int .i64 x.1.1, .int .i64 x.1.2.1, .int .i64 x.1.2.2.1, .int .i64 x.1.2.2.2], .bool x.2.2]
def resealT (b : ByteArray) (n : Int) : ByteArray := if (scan b).1 = true ∧ (n = 0 ∨ verOk n) then sealT (if n = 0 then (scan b).2.1 else n) (scan b).2.2.1 (scan b).2.2.2.1 (scan b).2.2.2.2.1 (scan b).2.2.2.2.2.1 else ⟨#[]⟩
def seekT (b : ByteArray) (i : Int) : ByteArray × Bool := if (rSealed b).2.2 = true ∧ (rSealed b).1.2.2.1 ≤ i ∧ i < (rSealed b).1.2.2.1 + (rSealed b).2.1.length then ((rSealed b).2.1.getD (i - (rSealed b).1.2.2.1).toNat default, true) else (⟨#[]⟩, false)
def skP (x : ByteArray × Bool) : PV := .tup [.str x.1, .bool x.2]
theorem rSealed_f (b : ByteArray) : (0 ≤ (rSealed b).1.2.2.1 ∧ (rSealed b).1.2.2.1 ≤ 1000000000) ∧ (rSealed b).2.1.length ≤ b.size ∧ (∀ r ∈ (rSealed b).2.1, r.size ≤ 60) := by
  obtain ⟨f1, f2, f3, f4, f5, f6, _⟩ := scan_f b
  unfold rSealed
  split
  · exact ⟨f3, f5, f6⟩
  · exact ⟨⟨by decide, by decide⟩, Nat.zero_le _, fun _ h => absurd h (by simp)⟩
end Go.Pv

/- What functions of the program and of the reference do, in plain values. -/
namespace Go.Pv
open Go.Proofs Go.Mth
set_option linter.unusedSimpArgs false
set_option linter.unusedVariables false
set_option maxHeartbeats 4000000

/-! ### the files that go on from one another -/
def lkP (d : Dk) (b : Int) : PV := .agg (.int .i64 b :: .str (textT d b) :: flat (scanP (scan (textT d b))))
theorem lkP_len (d : Dk) (b : Int) : (flat (lkP d b)).length = 11 := rfl
theorem goOk_iff (t : ByteArray) (b l : Int) (g : Bool) (h : ((rHead t).2.2.2.2 && decide ((rHead t).2.2.1 = b) && decide ((rHead t).2.2.2.1 = l)) = g) : goOk t b l ↔ g = true ∧ 0 < (recs t).length := by
  subst h
  unfold goOk
  simp only [Bool.and_eq_true, decide_eq_true_eq, and_assoc]
end Go.Pv

/- What functions of the program and of the reference do, in plain values. -/
namespace Go.Pv
open Go.Proofs Go.Mth
set_option linter.unusedSimpArgs false
set_option linter.unusedVariables false
set_option maxHeartbeats 4000000

/-! ### rows of records, texts, versions -/
theorem textsT_len (d : Dk) : (textsT d).length = (chainT d).length := List.length_map _
theorem versT_len (d : Dk) : (versT d).length = (chainT d).length := List.length_map _
theorem textsT_map (d : Dk) : (chainT d).map (fun b => PV.str (textT d b)) = (textsT d).map .str := (List.map_map).symm
theorem versT_map (d : Dk) : (chainT d).map (fun b => PV.int .i64 (rHead (textT d b)).1) = (versT d).map (.int .i64) := (List.map_map).symm
def flR (d : Dk) (L : List Int) : List ByteArray := L.flatMap fun b => recs (textT d b)
theorem flR_snoc (d : Dk) (L : List Int) (i : Nat) (h : i < L.length) : flR d (L.take (i + 1)) = flR d (L.take i) ++ recs (textT d (L.getD i default)) := by
  unfold flR
  rw [take_snoc default L i h, List.flatMap_append, List.flatMap_cons, List.flatMap_nil, List.append_nil]
  rfl
theorem oldT_drop (l : List Int) (i : Nat) (h : i < l.length) : oldT (l.drop i) = (if l.getD i default = 1 then 1 else 0) + oldT (l.drop (i + 1)) := by
  rw [List.drop_eq_getElem_cons h, List.getD_eq_getElem?_getD, List.getElem?_eq_getElem h]; rfl
theorem oldT_r (l : List Int) : 0 ≤ oldT l ∧ oldT l ≤ l.length := by
  induction l with
  | nil => decide
  | cons v l ih =>
    have : oldT (v :: l) = (if v = 1 then 1 else 0) + oldT l := rfl
    rw [this, List.length_cons]
    split <;> omega
end Go.Pv

/- What functions of the program and of the reference do, in plain values. -/
namespace Go.Pv
open Go.Proofs Go.Mth
set_option linter.unusedSimpArgs false
set_option linter.unusedVariables false
set_option maxHeartbeats 4000000

/-! ### the reference's rows -/
end Go.Pv
