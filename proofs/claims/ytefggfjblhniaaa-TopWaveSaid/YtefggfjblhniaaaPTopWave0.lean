import Derived.Test.YtefggfjblhniaaaKc
import Derived.Test.YtefggfjblhniaaaProg
import Derived.Test.YtefggfjblhniaaaChecked
set_option linter.unusedVariables false
set_option linter.unusedSimpArgs false
set_option maxRecDepth 1000
namespace Go.Proofs.Ytefggfjblhniaaa
open Xf
def tab : Tab := fun t => match t with
  | 2 => some ⟨1, 8, [.int .i64 0], .int .i64, none⟩
  | 3 => some ⟨1, 8, [.int .i64 0], .int .i64, none⟩
  | 4 => some ⟨1, 1, [.bool false], .bool, none⟩
  | 5 => some ⟨1, 1, [.int .u8 0], .int .u8, none⟩
  | 6 => some ⟨1, 1, [.int .u8 0], .int .u8, none⟩
  | 7 => some ⟨4, 24, [.int .i64 0, .int .i64 0, .bool false, .int .u8 0], .struct [(0, 2), (1, 3), (2, 4), (3, 6)], (some [true, true, false, true])⟩
  | 8 => some ⟨4, 24, [.int .i64 0, .int .i64 0, .bool false, .int .u8 0], .struct [(0, 2), (1, 3), (2, 4), (3, 6)], (some [true, true, false, true])⟩
  | 12 => some ⟨1, 8, [.int .u64 0], .int .u64, none⟩
  | 15 => some ⟨1, 8, [.val (.pointer none)], .pointer, none⟩
  | 16 => some ⟨1, 8, [.val (.pointer none)], .pointer, none⟩
  | 17 => some ⟨1, 8, [.val (.pointer none)], .pointer, none⟩
  | 18 => some ⟨1, 8, [.val (.pointer none)], .struct [(0, 17)], none⟩
  | 19 => some ⟨1, 8, [.val (.pointer none)], .struct [(0, 17)], none⟩
  | 21 => some ⟨1, 4, [.int .i32 0], .int .i32, none⟩
  | 22 => some ⟨1, 24, [nilSV], .slice 3, none⟩
  | 24 => some ⟨1, 8, [.int .i64 0], .int .i64, none⟩
  | 30 => some ⟨3, 40, [.int .i64 0, .int .i64 0, nilSV], .struct [(0, 3), (1, 3), (2, 22)], none⟩
  | 31 => some ⟨3, 40, [.int .i64 0, .int .i64 0, nilSV], .struct [(0, 3), (1, 3), (2, 22)], none⟩
  | 37 => some ⟨1, 24, [nilSV], .slice 42, none⟩
  | 40 => some ⟨1, 24, [nilSV], .slice 4, none⟩
  | 41 => some ⟨6, 48, [.int .i64 0, .int .i64 0, .int .i64 0, .int .i64 0, .int .i64 0, .int .i64 0], .struct [(0, 3), (1, 3), (2, 3), (3, 3), (4, 3), (5, 3)], (some [true, true, true, true, true, true])⟩
  | 42 => some ⟨6, 48, [.int .i64 0, .int .i64 0, .int .i64 0, .int .i64 0, .int .i64 0, .int .i64 0], .struct [(0, 3), (1, 3), (2, 3), (3, 3), (4, 3), (5, 3)], (some [true, true, true, true, true, true])⟩
  | 48 => some ⟨5, 88, [.int .i64 0, .int .i64 0, nilSV, nilSV, nilSV], .struct [(0, 3), (1, 3), (2, 22), (3, 22), (4, 22)], none⟩
  | 49 => some ⟨5, 88, [.int .i64 0, .int .i64 0, nilSV, nilSV, nilSV], .struct [(0, 3), (1, 3), (2, 22), (3, 22), (4, 22)], none⟩
  | 52 => some ⟨9, 120, [.int .i64 0, .int .i64 0, nilSV, .int .i64 0, .int .i64 0, nilSV, .int .i64 0, .int .i64 0, nilSV], .array 3 31, none⟩
  | 53 => some ⟨1, 24, [nilSV], .slice 31, none⟩
  | 65 => some ⟨1, 24, [nilSV], .slice 67, none⟩
  | 67 => some ⟨2, 16, [.int .i64 0, .int .i64 0], .array 2 3, (some [true, true])⟩
  | 73 => some ⟨1, 8, [.val (.pointer none)], .pointer, none⟩
  | 75 => some ⟨3, 40, [.int .i64 0, nilSV, .int .i64 0], .struct [(0, 3), (1, 22), (2, 3)], none⟩
  | 76 => some ⟨3, 40, [.int .i64 0, nilSV, .int .i64 0], .struct [(0, 3), (1, 22), (2, 3)], none⟩
  | 85 => some ⟨1, 8, [.int .u64 0], .int .u64, none⟩
  | 87 => some ⟨1, 8, [.val (.pointer none)], .pointer, none⟩
  | 98 => some ⟨0, 0, [], .array 0 16, none⟩
  | 99 => some ⟨0, 0, [], .struct [(0, 98)], none⟩
  | 100 => some ⟨0, 0, [], .struct [(0, 98)], none⟩
  | 102 => some ⟨1, 4, [.int .u32 0], .int .u32, none⟩
  | 103 => some ⟨1, 1, [.int .u8 0], .int .u8, none⟩
  | 104 => some ⟨1, 1, [.int .u8 0], .int .u8, none⟩
  | 106 => some ⟨1, 8, [.val (.pointer none)], .pointer, none⟩
  | 107 => some ⟨1, 4, [.int .i32 0], .int .i32, none⟩
  | 108 => some ⟨1, 4, [.int .i32 0], .int .i32, none⟩
  | 109 => some ⟨11, 48, [.int .u64 0, .int .u64 0, .int .u32 0, .int .u8 0, .int .u8 0, .int .u8 0, .int .u8 0, .val .nilFunc, .val (.pointer none), .int .i32 0, .int .i32 0], .struct [(0, 12), (1, 12), (2, 102), (3, 103), (4, 5), (5, 5), (6, 104), (7, 105), (8, 106), (9, 107), (10, 108)], none⟩
  | 110 => some ⟨11, 48, [.int .u64 0, .int .u64 0, .int .u32 0, .int .u8 0, .int .u8 0, .int .u8 0, .int .u8 0, .val .nilFunc, .val (.pointer none), .int .i32 0, .int .i32 0], .struct [(0, 12), (1, 12), (2, 102), (3, 103), (4, 5), (5, 5), (6, 104), (7, 105), (8, 106), (9, 107), (10, 108)], none⟩
  | _ => none
theorem tt2 : TtOk Try.prog 2 ⟨1, 8, [.int .i64 0], .int .i64, none⟩ := TtOk.of (z := .int .i64 0) (by kernel_rfl) (by kernel_rfl) (by simp [Dens, Den, nilSV, nilLoc0, Value.cells]) (by simp [TT.agg, Value.cells]) Try.underlying2 (by first | exact ⟨_, rfl, rfl⟩ | rfl | exact ⟨_, rfl⟩) (by first | rfl | kernel_rfl) rfl
theorem tt3 : TtOk Try.prog 3 ⟨1, 8, [.int .i64 0], .int .i64, none⟩ := TtOk.of (z := .int .i64 0) (by kernel_rfl) (by kernel_rfl) (by simp [Dens, Den, nilSV, nilLoc0, Value.cells]) (by simp [TT.agg, Value.cells]) Try.underlying3 (by first | exact ⟨_, rfl, rfl⟩ | rfl | exact ⟨_, rfl⟩) (by first | rfl | kernel_rfl) rfl
theorem tt4 : TtOk Try.prog 4 ⟨1, 1, [.bool false], .bool, none⟩ := TtOk.of (z := .bool false) (by kernel_rfl) (by kernel_rfl) (by simp [Dens, Den, nilSV, nilLoc0, Value.cells]) (by simp [TT.agg, Value.cells]) Try.underlying4 (by first | exact ⟨_, rfl, rfl⟩ | rfl | exact ⟨_, rfl⟩) (by first | rfl | kernel_rfl) rfl
theorem tt5 : TtOk Try.prog 5 ⟨1, 1, [.int .u8 0], .int .u8, none⟩ := TtOk.of (z := .int .u8 0) (by kernel_rfl) (by kernel_rfl) (by simp [Dens, Den, nilSV, nilLoc0, Value.cells]) (by simp [TT.agg, Value.cells]) Try.underlying5 (by first | exact ⟨_, rfl, rfl⟩ | rfl | exact ⟨_, rfl⟩) (by first | rfl | kernel_rfl) rfl
theorem tt6 : TtOk Try.prog 6 ⟨1, 1, [.int .u8 0], .int .u8, none⟩ := TtOk.of (z := .int .u8 0) (by kernel_rfl) (by kernel_rfl) (by simp [Dens, Den, nilSV, nilLoc0, Value.cells]) (by simp [TT.agg, Value.cells]) Try.underlying6 (by first | exact ⟨_, rfl, rfl⟩ | rfl | exact ⟨_, rfl⟩) (by first | rfl | kernel_rfl) rfl
theorem tt7 : TtOk Try.prog 7 ⟨4, 24, [.int .i64 0, .int .i64 0, .bool false, .int .u8 0], .struct [(0, 2), (1, 3), (2, 4), (3, 6)], (some [true, true, false, true])⟩ := TtOk.of (z := .agg #[.int .i64 0, .int .i64 0, .bool false, .int .u8 0]) (by kernel_rfl) (by kernel_rfl) (by simp [Dens, Den, nilSV, nilLoc0, Value.cells]) (by simp [TT.agg, Value.cells]) Try.underlying7 (by first | exact ⟨_, rfl, rfl⟩ | rfl | exact ⟨_, rfl⟩) (by first | rfl | kernel_rfl) rfl
theorem tt8 : TtOk Try.prog 8 ⟨4, 24, [.int .i64 0, .int .i64 0, .bool false, .int .u8 0], .struct [(0, 2), (1, 3), (2, 4), (3, 6)], (some [true, true, false, true])⟩ := TtOk.of (z := .agg #[.int .i64 0, .int .i64 0, .bool false, .int .u8 0]) (by kernel_rfl) (by kernel_rfl) (by simp [Dens, Den, nilSV, nilLoc0, Value.cells]) (by simp [TT.agg, Value.cells]) Try.underlying8 (by first | exact ⟨_, rfl, rfl⟩ | rfl | exact ⟨_, rfl⟩) (by first | rfl | kernel_rfl) rfl
theorem tt12 : TtOk Try.prog 12 ⟨1, 8, [.int .u64 0], .int .u64, none⟩ := TtOk.of (z := .int .u64 0) (by kernel_rfl) (by kernel_rfl) (by simp [Dens, Den, nilSV, nilLoc0, Value.cells]) (by simp [TT.agg, Value.cells]) Try.underlying12 (by first | exact ⟨_, rfl, rfl⟩ | rfl | exact ⟨_, rfl⟩) (by first | rfl | kernel_rfl) rfl
theorem tt15 : TtOk Try.prog 15 ⟨1, 8, [.val (.pointer none)], .pointer, none⟩ := TtOk.of (z := .pointer none) (by kernel_rfl) (by kernel_rfl) (by simp [Dens, Den, nilSV, nilLoc0, Value.cells]) (by simp [TT.agg, Value.cells]) Try.underlying15 (by first | exact ⟨_, rfl, rfl⟩ | rfl | exact ⟨_, rfl⟩) (by first | rfl | kernel_rfl) rfl
theorem tt16 : TtOk Try.prog 16 ⟨1, 8, [.val (.pointer none)], .pointer, none⟩ := TtOk.of (z := .pointer none) (by kernel_rfl) (by kernel_rfl) (by simp [Dens, Den, nilSV, nilLoc0, Value.cells]) (by simp [TT.agg, Value.cells]) Try.underlying16 (by first | exact ⟨_, rfl, rfl⟩ | rfl | exact ⟨_, rfl⟩) (by first | rfl | kernel_rfl) rfl
theorem tt17 : TtOk Try.prog 17 ⟨1, 8, [.val (.pointer none)], .pointer, none⟩ := TtOk.of (z := .pointer none) (by kernel_rfl) (by kernel_rfl) (by simp [Dens, Den, nilSV, nilLoc0, Value.cells]) (by simp [TT.agg, Value.cells]) Try.underlying17 (by first | exact ⟨_, rfl, rfl⟩ | rfl | exact ⟨_, rfl⟩) (by first | rfl | kernel_rfl) rfl
theorem tt18 : TtOk Try.prog 18 ⟨1, 8, [.val (.pointer none)], .struct [(0, 17)], none⟩ := TtOk.of (z := .agg #[.pointer none]) (by kernel_rfl) (by kernel_rfl) (by simp [Dens, Den, nilSV, nilLoc0, Value.cells]) (by simp [TT.agg, Value.cells]) Try.underlying18 (by first | exact ⟨_, rfl, rfl⟩ | rfl | exact ⟨_, rfl⟩) (by first | rfl | kernel_rfl) rfl
theorem tt19 : TtOk Try.prog 19 ⟨1, 8, [.val (.pointer none)], .struct [(0, 17)], none⟩ := TtOk.of (z := .agg #[.pointer none]) (by kernel_rfl) (by kernel_rfl) (by simp [Dens, Den, nilSV, nilLoc0, Value.cells]) (by simp [TT.agg, Value.cells]) Try.underlying19 (by first | exact ⟨_, rfl, rfl⟩ | rfl | exact ⟨_, rfl⟩) (by first | rfl | kernel_rfl) rfl
theorem tt21 : TtOk Try.prog 21 ⟨1, 4, [.int .i32 0], .int .i32, none⟩ := TtOk.of (z := .int .i32 0) (by kernel_rfl) (by kernel_rfl) (by simp [Dens, Den, nilSV, nilLoc0, Value.cells]) (by simp [TT.agg, Value.cells]) Try.underlying21 (by first | exact ⟨_, rfl, rfl⟩ | rfl | exact ⟨_, rfl⟩) (by first | rfl | kernel_rfl) rfl
theorem tt22 : TtOk Try.prog 22 ⟨1, 24, [nilSV], .slice 3, none⟩ := TtOk.of (z := .slice none 0 0) (by kernel_rfl) (by kernel_rfl) (by simp [Dens, Den, nilSV, nilLoc0, Value.cells]) (by simp [TT.agg, Value.cells]) Try.underlying22 (by first | exact ⟨_, rfl, rfl⟩ | rfl | exact ⟨_, rfl⟩) (by first | rfl | kernel_rfl) rfl
theorem tt24 : TtOk Try.prog 24 ⟨1, 8, [.int .i64 0], .int .i64, none⟩ := TtOk.of (z := .int .i64 0) (by kernel_rfl) (by kernel_rfl) (by simp [Dens, Den, nilSV, nilLoc0, Value.cells]) (by simp [TT.agg, Value.cells]) Try.underlying24 (by first | exact ⟨_, rfl, rfl⟩ | rfl | exact ⟨_, rfl⟩) (by first | rfl | kernel_rfl) rfl
theorem tt30 : TtOk Try.prog 30 ⟨3, 40, [.int .i64 0, .int .i64 0, nilSV], .struct [(0, 3), (1, 3), (2, 22)], none⟩ := TtOk.of (z := .agg #[.int .i64 0, .int .i64 0, .slice none 0 0]) (by kernel_rfl) (by kernel_rfl) (by simp [Dens, Den, nilSV, nilLoc0, Value.cells]) (by simp [TT.agg, Value.cells]) Try.underlying30 (by first | exact ⟨_, rfl, rfl⟩ | rfl | exact ⟨_, rfl⟩) (by first | rfl | kernel_rfl) rfl
theorem tt31 : TtOk Try.prog 31 ⟨3, 40, [.int .i64 0, .int .i64 0, nilSV], .struct [(0, 3), (1, 3), (2, 22)], none⟩ := TtOk.of (z := .agg #[.int .i64 0, .int .i64 0, .slice none 0 0]) (by kernel_rfl) (by kernel_rfl) (by simp [Dens, Den, nilSV, nilLoc0, Value.cells]) (by simp [TT.agg, Value.cells]) Try.underlying31 (by first | exact ⟨_, rfl, rfl⟩ | rfl | exact ⟨_, rfl⟩) (by first | rfl | kernel_rfl) rfl
theorem tt37 : TtOk Try.prog 37 ⟨1, 24, [nilSV], .slice 42, none⟩ := TtOk.of (z := .slice none 0 0) (by kernel_rfl) (by kernel_rfl) (by simp [Dens, Den, nilSV, nilLoc0, Value.cells]) (by simp [TT.agg, Value.cells]) Try.underlying37 (by first | exact ⟨_, rfl, rfl⟩ | rfl | exact ⟨_, rfl⟩) (by first | rfl | kernel_rfl) rfl
theorem tt40 : TtOk Try.prog 40 ⟨1, 24, [nilSV], .slice 4, none⟩ := TtOk.of (z := .slice none 0 0) (by kernel_rfl) (by kernel_rfl) (by simp [Dens, Den, nilSV, nilLoc0, Value.cells]) (by simp [TT.agg, Value.cells]) Try.underlying40 (by first | exact ⟨_, rfl, rfl⟩ | rfl | exact ⟨_, rfl⟩) (by first | rfl | kernel_rfl) rfl
theorem tt41 : TtOk Try.prog 41 ⟨6, 48, [.int .i64 0, .int .i64 0, .int .i64 0, .int .i64 0, .int .i64 0, .int .i64 0], .struct [(0, 3), (1, 3), (2, 3), (3, 3), (4, 3), (5, 3)], (some [true, true, true, true, true, true])⟩ := TtOk.of (z := .agg #[.int .i64 0, .int .i64 0, .int .i64 0, .int .i64 0, .int .i64 0, .int .i64 0]) (by kernel_rfl) (by kernel_rfl) (by simp [Dens, Den, nilSV, nilLoc0, Value.cells]) (by simp [TT.agg, Value.cells]) Try.underlying41 (by first | exact ⟨_, rfl, rfl⟩ | rfl | exact ⟨_, rfl⟩) (by first | rfl | kernel_rfl) rfl
theorem tt42 : TtOk Try.prog 42 ⟨6, 48, [.int .i64 0, .int .i64 0, .int .i64 0, .int .i64 0, .int .i64 0, .int .i64 0], .struct [(0, 3), (1, 3), (2, 3), (3, 3), (4, 3), (5, 3)], (some [true, true, true, true, true, true])⟩ := TtOk.of (z := .agg #[.int .i64 0, .int .i64 0, .int .i64 0, .int .i64 0, .int .i64 0, .int .i64 0]) (by kernel_rfl) (by kernel_rfl) (by simp [Dens, Den, nilSV, nilLoc0, Value.cells]) (by simp [TT.agg, Value.cells]) Try.underlying42 (by first | exact ⟨_, rfl, rfl⟩ | rfl | exact ⟨_, rfl⟩) (by first | rfl | kernel_rfl) rfl
theorem tt48 : TtOk Try.prog 48 ⟨5, 88, [.int .i64 0, .int .i64 0, nilSV, nilSV, nilSV], .struct [(0, 3), (1, 3), (2, 22), (3, 22), (4, 22)], none⟩ := TtOk.of (z := .agg #[.int .i64 0, .int .i64 0, .slice none 0 0, .slice none 0 0, .slice none 0 0]) (by kernel_rfl) (by kernel_rfl) (by simp [Dens, Den, nilSV, nilLoc0, Value.cells]) (by simp [TT.agg, Value.cells]) Try.underlying48 (by first | exact ⟨_, rfl, rfl⟩ | rfl | exact ⟨_, rfl⟩) (by first | rfl | kernel_rfl) rfl
theorem tt49 : TtOk Try.prog 49 ⟨5, 88, [.int .i64 0, .int .i64 0, nilSV, nilSV, nilSV], .struct [(0, 3), (1, 3), (2, 22), (3, 22), (4, 22)], none⟩ := TtOk.of (z := .agg #[.int .i64 0, .int .i64 0, .slice none 0 0, .slice none 0 0, .slice none 0 0]) (by kernel_rfl) (by kernel_rfl) (by simp [Dens, Den, nilSV, nilLoc0, Value.cells]) (by simp [TT.agg, Value.cells]) Try.underlying49 (by first | exact ⟨_, rfl, rfl⟩ | rfl | exact ⟨_, rfl⟩) (by first | rfl | kernel_rfl) rfl
theorem tt52 : TtOk Try.prog 52 ⟨9, 120, [.int .i64 0, .int .i64 0, nilSV, .int .i64 0, .int .i64 0, nilSV, .int .i64 0, .int .i64 0, nilSV], .array 3 31, none⟩ := TtOk.of (z := .agg #[.int .i64 0, .int .i64 0, .slice none 0 0, .int .i64 0, .int .i64 0, .slice none 0 0, .int .i64 0, .int .i64 0, .slice none 0 0]) (by kernel_rfl) (by kernel_rfl) (by simp [Dens, Den, nilSV, nilLoc0, Value.cells]) (by simp [TT.agg, Value.cells]) Try.underlying52 (by first | exact ⟨_, rfl, rfl⟩ | rfl | exact ⟨_, rfl⟩) (by first | rfl | kernel_rfl) rfl
theorem tt53 : TtOk Try.prog 53 ⟨1, 24, [nilSV], .slice 31, none⟩ := TtOk.of (z := .slice none 0 0) (by kernel_rfl) (by kernel_rfl) (by simp [Dens, Den, nilSV, nilLoc0, Value.cells]) (by simp [TT.agg, Value.cells]) Try.underlying53 (by first | exact ⟨_, rfl, rfl⟩ | rfl | exact ⟨_, rfl⟩) (by first | rfl | kernel_rfl) rfl
theorem tt65 : TtOk Try.prog 65 ⟨1, 24, [nilSV], .slice 67, none⟩ := TtOk.of (z := .slice none 0 0) (by kernel_rfl) (by kernel_rfl) (by simp [Dens, Den, nilSV, nilLoc0, Value.cells]) (by simp [TT.agg, Value.cells]) Try.underlying65 (by first | exact ⟨_, rfl, rfl⟩ | rfl | exact ⟨_, rfl⟩) (by first | rfl | kernel_rfl) rfl
theorem tt67 : TtOk Try.prog 67 ⟨2, 16, [.int .i64 0, .int .i64 0], .array 2 3, (some [true, true])⟩ := TtOk.of (z := .agg #[.int .i64 0, .int .i64 0]) (by kernel_rfl) (by kernel_rfl) (by simp [Dens, Den, nilSV, nilLoc0, Value.cells]) (by simp [TT.agg, Value.cells]) Try.underlying67 (by first | exact ⟨_, rfl, rfl⟩ | rfl | exact ⟨_, rfl⟩) (by first | rfl | kernel_rfl) rfl
theorem tt73 : TtOk Try.prog 73 ⟨1, 8, [.val (.pointer none)], .pointer, none⟩ := TtOk.of (z := .pointer none) (by kernel_rfl) (by kernel_rfl) (by simp [Dens, Den, nilSV, nilLoc0, Value.cells]) (by simp [TT.agg, Value.cells]) Try.underlying73 (by first | exact ⟨_, rfl, rfl⟩ | rfl | exact ⟨_, rfl⟩) (by first | rfl | kernel_rfl) rfl
theorem tt75 : TtOk Try.prog 75 ⟨3, 40, [.int .i64 0, nilSV, .int .i64 0], .struct [(0, 3), (1, 22), (2, 3)], none⟩ := TtOk.of (z := .agg #[.int .i64 0, .slice none 0 0, .int .i64 0]) (by kernel_rfl) (by kernel_rfl) (by simp [Dens, Den, nilSV, nilLoc0, Value.cells]) (by simp [TT.agg, Value.cells]) Try.underlying75 (by first | exact ⟨_, rfl, rfl⟩ | rfl | exact ⟨_, rfl⟩) (by first | rfl | kernel_rfl) rfl
theorem tt76 : TtOk Try.prog 76 ⟨3, 40, [.int .i64 0, nilSV, .int .i64 0], .struct [(0, 3), (1, 22), (2, 3)], none⟩ := TtOk.of (z := .agg #[.int .i64 0, .slice none 0 0, .int .i64 0]) (by kernel_rfl) (by kernel_rfl) (by simp [Dens, Den, nilSV, nilLoc0, Value.cells]) (by simp [TT.agg, Value.cells]) Try.underlying76 (by first | exact ⟨_, rfl, rfl⟩ | rfl | exact ⟨_, rfl⟩) (by first | rfl | kernel_rfl) rfl
theorem tt85 : TtOk Try.prog 85 ⟨1, 8, [.int .u64 0], .int .u64, none⟩ := TtOk.of (z := .int .u64 0) (by kernel_rfl) (by kernel_rfl) (by simp [Dens, Den, nilSV, nilLoc0, Value.cells]) (by simp [TT.agg, Value.cells]) Try.underlying85 (by first | exact ⟨_, rfl, rfl⟩ | rfl | exact ⟨_, rfl⟩) (by first | rfl | kernel_rfl) rfl
theorem tt87 : TtOk Try.prog 87 ⟨1, 8, [.val (.pointer none)], .pointer, none⟩ := TtOk.of (z := .pointer none) (by kernel_rfl) (by kernel_rfl) (by simp [Dens, Den, nilSV, nilLoc0, Value.cells]) (by simp [TT.agg, Value.cells]) Try.underlying87 (by first | exact ⟨_, rfl, rfl⟩ | rfl | exact ⟨_, rfl⟩) (by first | rfl | kernel_rfl) rfl
theorem tt98 : TtOk Try.prog 98 ⟨0, 0, [], .array 0 16, none⟩ := TtOk.of (z := .agg #[]) (by kernel_rfl) (by kernel_rfl) (by simp [Dens, Den, nilSV, nilLoc0, Value.cells]) (by simp [TT.agg, Value.cells]) Try.underlying98 (by first | exact ⟨_, rfl, rfl⟩ | rfl | exact ⟨_, rfl⟩) (by first | rfl | kernel_rfl) rfl
theorem tt99 : TtOk Try.prog 99 ⟨0, 0, [], .struct [(0, 98)], none⟩ := TtOk.of (z := .agg #[]) (by kernel_rfl) (by kernel_rfl) (by simp [Dens, Den, nilSV, nilLoc0, Value.cells]) (by simp [TT.agg, Value.cells]) Try.underlying99 (by first | exact ⟨_, rfl, rfl⟩ | rfl | exact ⟨_, rfl⟩) (by first | rfl | kernel_rfl) rfl
theorem tt100 : TtOk Try.prog 100 ⟨0, 0, [], .struct [(0, 98)], none⟩ := TtOk.of (z := .agg #[]) (by kernel_rfl) (by kernel_rfl) (by simp [Dens, Den, nilSV, nilLoc0, Value.cells]) (by simp [TT.agg, Value.cells]) Try.underlying100 (by first | exact ⟨_, rfl, rfl⟩ | rfl | exact ⟨_, rfl⟩) (by first | rfl | kernel_rfl) rfl
theorem tt102 : TtOk Try.prog 102 ⟨1, 4, [.int .u32 0], .int .u32, none⟩ := TtOk.of (z := .int .u32 0) (by kernel_rfl) (by kernel_rfl) (by simp [Dens, Den, nilSV, nilLoc0, Value.cells]) (by simp [TT.agg, Value.cells]) Try.underlying102 (by first | exact ⟨_, rfl, rfl⟩ | rfl | exact ⟨_, rfl⟩) (by first | rfl | kernel_rfl) rfl
theorem tt103 : TtOk Try.prog 103 ⟨1, 1, [.int .u8 0], .int .u8, none⟩ := TtOk.of (z := .int .u8 0) (by kernel_rfl) (by kernel_rfl) (by simp [Dens, Den, nilSV, nilLoc0, Value.cells]) (by simp [TT.agg, Value.cells]) Try.underlying103 (by first | exact ⟨_, rfl, rfl⟩ | rfl | exact ⟨_, rfl⟩) (by first | rfl | kernel_rfl) rfl
theorem tt104 : TtOk Try.prog 104 ⟨1, 1, [.int .u8 0], .int .u8, none⟩ := TtOk.of (z := .int .u8 0) (by kernel_rfl) (by kernel_rfl) (by simp [Dens, Den, nilSV, nilLoc0, Value.cells]) (by simp [TT.agg, Value.cells]) Try.underlying104 (by first | exact ⟨_, rfl, rfl⟩ | rfl | exact ⟨_, rfl⟩) (by first | rfl | kernel_rfl) rfl
theorem tt106 : TtOk Try.prog 106 ⟨1, 8, [.val (.pointer none)], .pointer, none⟩ := TtOk.of (z := .pointer none) (by kernel_rfl) (by kernel_rfl) (by simp [Dens, Den, nilSV, nilLoc0, Value.cells]) (by simp [TT.agg, Value.cells]) Try.underlying106 (by first | exact ⟨_, rfl, rfl⟩ | rfl | exact ⟨_, rfl⟩) (by first | rfl | kernel_rfl) rfl
theorem tt107 : TtOk Try.prog 107 ⟨1, 4, [.int .i32 0], .int .i32, none⟩ := TtOk.of (z := .int .i32 0) (by kernel_rfl) (by kernel_rfl) (by simp [Dens, Den, nilSV, nilLoc0, Value.cells]) (by simp [TT.agg, Value.cells]) Try.underlying107 (by first | exact ⟨_, rfl, rfl⟩ | rfl | exact ⟨_, rfl⟩) (by first | rfl | kernel_rfl) rfl
theorem tt108 : TtOk Try.prog 108 ⟨1, 4, [.int .i32 0], .int .i32, none⟩ := TtOk.of (z := .int .i32 0) (by kernel_rfl) (by kernel_rfl) (by simp [Dens, Den, nilSV, nilLoc0, Value.cells]) (by simp [TT.agg, Value.cells]) Try.underlying108 (by first | exact ⟨_, rfl, rfl⟩ | rfl | exact ⟨_, rfl⟩) (by first | rfl | kernel_rfl) rfl
theorem tt109 : TtOk Try.prog 109 ⟨11, 48, [.int .u64 0, .int .u64 0, .int .u32 0, .int .u8 0, .int .u8 0, .int .u8 0, .int .u8 0, .val .nilFunc, .val (.pointer none), .int .i32 0, .int .i32 0], .struct [(0, 12), (1, 12), (2, 102), (3, 103), (4, 5), (5, 5), (6, 104), (7, 105), (8, 106), (9, 107), (10, 108)], none⟩ := TtOk.of (z := .agg #[.int .u64 0, .int .u64 0, .int .u32 0, .int .u8 0, .int .u8 0, .int .u8 0, .int .u8 0, .nilFunc, .pointer none, .int .i32 0, .int .i32 0]) (by kernel_rfl) (by kernel_rfl) (by simp [Dens, Den, nilSV, nilLoc0, Value.cells]) (by simp [TT.agg, Value.cells]) Try.underlying109 (by first | exact ⟨_, rfl, rfl⟩ | rfl | exact ⟨_, rfl⟩) (by first | rfl | kernel_rfl) rfl
theorem tt110 : TtOk Try.prog 110 ⟨11, 48, [.int .u64 0, .int .u64 0, .int .u32 0, .int .u8 0, .int .u8 0, .int .u8 0, .int .u8 0, .val .nilFunc, .val (.pointer none), .int .i32 0, .int .i32 0], .struct [(0, 12), (1, 12), (2, 102), (3, 103), (4, 5), (5, 5), (6, 104), (7, 105), (8, 106), (9, 107), (10, 108)], none⟩ := TtOk.of (z := .agg #[.int .u64 0, .int .u64 0, .int .u32 0, .int .u8 0, .int .u8 0, .int .u8 0, .int .u8 0, .nilFunc, .pointer none, .int .i32 0, .int .i32 0]) (by kernel_rfl) (by kernel_rfl) (by simp [Dens, Den, nilSV, nilLoc0, Value.cells]) (by simp [TT.agg, Value.cells]) Try.underlying110 (by first | exact ⟨_, rfl, rfl⟩ | rfl | exact ⟨_, rfl⟩) (by first | rfl | kernel_rfl) rfl
theorem hT : ∀ t tt, tab t = some tt → TtOk Try.prog t tt := by
  intro t tt h
  unfold tab at h
  split at h
  · cases h; exact tt2
  · cases h; exact tt3
  · cases h; exact tt4
  · cases h; exact tt5
  · cases h; exact tt6
  · cases h; exact tt7
  · cases h; exact tt8
  · cases h; exact tt12
  · cases h; exact tt15
  · cases h; exact tt16
  · cases h; exact tt17
  · cases h; exact tt18
  · cases h; exact tt19
  · cases h; exact tt21
  · cases h; exact tt22
  · cases h; exact tt24
  · cases h; exact tt30
  · cases h; exact tt31
  · cases h; exact tt37
  · cases h; exact tt40
  · cases h; exact tt41
  · cases h; exact tt42
  · cases h; exact tt48
  · cases h; exact tt49
  · cases h; exact tt52
  · cases h; exact tt53
  · cases h; exact tt65
  · cases h; exact tt67
  · cases h; exact tt73
  · cases h; exact tt75
  · cases h; exact tt76
  · cases h; exact tt85
  · cases h; exact tt87
  · cases h; exact tt98
  · cases h; exact tt99
  · cases h; exact tt100
  · cases h; exact tt102
  · cases h; exact tt103
  · cases h; exact tt104
  · cases h; exact tt106
  · cases h; exact tt107
  · cases h; exact tt108
  · cases h; exact tt109
  · cases h; exact tt110
  · cases h
def isP : FuncId → Bool := fun f => f == 40 || f == 36 || f == 30 || f == 71 || f == 46 || f == 77 || f == 76 || f == 63
def ir71 : IR :=
  .seq (.reg false [⟨some 4, none, ⟨[], []⟩, .mov (.k (.bool false))⟩] [4] []) (.seq (.reg false [⟨some 5, none, ⟨[], []⟩, .mov (.t 0)⟩,
    ⟨some 6, none, ⟨[], []⟩, .bin 0 .geq (.t 5) (.k (.int .i64 0))⟩,
    ⟨some 7, none, ⟨[], []⟩, .mov (.t 6)⟩,
    ⟨some 8, some (7, true), ⟨[], []⟩, .mov (.t 1)⟩,
    ⟨some 9, some (7, true), ⟨[], []⟩, .bin 0 .geq (.t 8) (.k (.int .i64 0))⟩,
    ⟨some 10, none, ⟨[], []⟩, .pick (.t 7) (.t 9) (.k (.bool false))⟩,
    ⟨some 11, none, ⟨[], []⟩, .mov (.t 10)⟩,
    ⟨some 12, some (11, true), ⟨[], []⟩, .mov (.t 0)⟩,
    ⟨some 13, some (11, true), ⟨[], []⟩, .bin 0 .leq (.t 12) (.k (.int .i64 200))⟩,
    ⟨some 14, none, ⟨[], []⟩, .pick (.t 11) (.t 13) (.k (.bool false))⟩,
    ⟨some 15, none, ⟨[], []⟩, .mov (.t 14)⟩,
    ⟨some 16, some (15, true), ⟨[], []⟩, .mov (.t 1)⟩,
    ⟨some 17, some (15, true), ⟨[], []⟩, .bin 0 .leq (.t 16) (.k (.int .i64 200))⟩,
    ⟨some 18, none, ⟨[], []⟩, .pick (.t 15) (.t 17) (.k (.bool false))⟩,
    ⟨some 19, none, ⟨[], []⟩, .mov (.t 18)⟩,
    ⟨some 20, some (19, true), ⟨[], []⟩, .mov (.t 0)⟩,
    ⟨some 21, some (19, true), ⟨[], []⟩, .mov (.t 1)⟩,
    ⟨some 22, some (19, true), ⟨[], []⟩, .bin 0 .mul (.t 20) (.t 21)⟩,
    ⟨some 23, some (19, true), ⟨[], []⟩, .bin 0 .leq (.t 22) (.k (.int .i64 8192))⟩,
    ⟨some 24, none, ⟨[], []⟩, .pick (.t 19) (.t 23) (.k (.bool false))⟩,
    ⟨some 4, none, ⟨[], []⟩, .mov (.t 24)⟩] [0, 1, 5, 6, 7, 8, 9, 10, 11, 12, 13, 14, 15, 16, 17, 18, 19, 20, 21, 22, 23, 24] []) (.ret))
set_option maxRecDepth 4000 in
theorem comp71 : (Try.f71.body.bind fun c => compC tab isP chkAll ir71 c) = some ir71 := by kernel_rfl
def ir76 : IR :=
  .seq (.reg false [⟨some 2, none, ⟨[], []⟩, .mov (.k (.bool false))⟩] [2] []) (.seq (.reg false [⟨some 3, none, ⟨[], []⟩, .mov (.t 0)⟩,
    ⟨some 4, none, ⟨[], []⟩, .bin 0 .geq (.t 3) (.k (.int .i64 0))⟩,
    ⟨some 5, none, ⟨[], []⟩, .mov (.t 4)⟩,
    ⟨some 6, some (5, true), ⟨[], []⟩, .mov (.t 0)⟩,
    ⟨some 7, some (5, true), ⟨[], []⟩, .bin 0 .leq (.t 6) (.k (.int .i64 255))⟩,
    ⟨some 8, none, ⟨[], []⟩, .pick (.t 5) (.t 7) (.k (.bool false))⟩,
    ⟨some 2, none, ⟨[], []⟩, .mov (.t 8)⟩] [0, 3, 4, 5, 6, 7, 8] []) (.ret))
set_option maxRecDepth 4000 in
theorem comp76 : (Try.f76.body.bind fun c => compC tab isP chkAll ir76 c) = some ir76 := by kernel_rfl
def ir75 : IR :=
  .seq (.reg false [⟨some 2, none, ⟨[], []⟩, .mov (.k (.bool false))⟩] [2] []) (.seq (.reg false [⟨some 3, none, ⟨[], []⟩, .mov (.t 0)⟩,
    ⟨some 4, none, ⟨[], []⟩, .callp 76 [.t 3]⟩,
    ⟨some 5, none, ⟨[], []⟩, .not (.t 4)⟩,
    ⟨some 2, none, ⟨[], []⟩, .mov (.t 5)⟩] [0, 3, 4, 5] []) (.ret))
set_option maxRecDepth 4000 in
theorem comp75 : (Try.f75.body.bind fun c => compC tab isP chkAll ir75 c) = some ir75 := by kernel_rfl
theorem mixed : Try.prog.follows .mixedOrders = true := by kernel_rfl
theorem hyp {l : List (FuncId × Entry)} {lp : List (FuncId × EntryP)} (h : allOk Try.prog l) (hp : allPOk Try.prog lp) : Hyp Try.prog tab isP (spList l) (spPList lp) chkAll :=
  ⟨hT, spPList_ok hp, spList_ok h, draw_ok mixed hT (spPList_ok hp) (spList_ok h)⟩
theorem hypI {l : List (FuncId × Entry)} {li : List (FuncId × ITS)} {lp : List (FuncId × EntryP)} (h : allOk Try.prog l) (hi : allIt Try.prog li) (hp : allPOk Try.prog lp) : Hyp Try.prog tab isP (spListI l li) (spPList lp) chkAll :=
  ⟨hT, spPList_ok hp, spListI_ok h hi, draw_ok mixed hT (spPList_ok hp) (spListI_ok h hi)⟩
def SidesOk (w h : Int) : Prop := 0 ≤ w ∧ 0 ≤ h ∧ w ≤ 200 ∧ h ≤ 200 ∧ w * h ≤ 8192
instance (w h : Int) : Decidable (SidesOk w h) := by unfold SidesOk; infer_instance
def ValOk (n : Int) : Prop := 0 ≤ n ∧ n ≤ 255
instance (n : Int) : Decidable (ValOk n) := by unfold ValOk; infer_instance
theorem SidesOk.bd {w h : Int} (H : SidesOk w h) : 0 ≤ w * h ∧ w * h ≤ 8192 := ⟨Int.mul_nonneg H.1 H.2.1, H.2.2.2.2⟩
def sidesF : EntryP
  | [.int .i64 w, .int .i64 h] => some (True, .bool (decide (SidesOk w h)))
  | _ => none
def valF : EntryP
  | [.int .i64 n] => some (True, .bool (decide (ValOk n)))
  | _ => none
def nvalF : EntryP
  | [.int .i64 n] => some (True, .bool (decide (¬ ValOk n)))
  | _ => none
attribute [push_cast] sidesF valF nvalF
theorem p71 : EntryPOk Try.prog 71 sidesF := by
  refine ⟨⟨_, Try.func71, by kernel_rfl, by kernel_rfl⟩, fun us p v h hp => ?_⟩
  unfold sidesF at h
  split at h <;> cases h
  refine tri_evS (hyp (l := []) (lp := []) trivial trivial) Try.func71 comp71 (rs := [.tmp 4]) (by rfl) Try.ntmps71 10 ?_
  simp -implicitDefEqProofs only [push_cast, false_implies, reduceCtorEq, Classical.not_not, Nat.reduceAdd, Nat.reduceSub, Nat.reduceMul, Nat.reduceLeDiff, Nat.reduceLT, Nat.reduceEqDiff, Nat.reduceBEq, Nat.reduceBNe, Int.reduceNeg, Int.reduceToNat, Bool.or_false, Bool.false_or, Bool.or_true, Bool.true_or, BEq.rfl, Bool.not_eq_true, Bool.not_eq_false, decide_eq_true_eq, not_true_eq_false, not_false_eq_true, ite_true, ite_false, List.append_nil, and_assoc, Nat.mul_zero, Nat.zero_mul, ir71, sidesF]
  refine ⟨fun h => ?_, by simp only [SidesOk, and_assoc]⟩
  have := mul_bd h.1 h.2.2.1 h.2.1 h.2.2.2
  omega
theorem p76 : EntryPOk Try.prog 76 valF := by
  refine ⟨⟨_, Try.func76, by kernel_rfl, by kernel_rfl⟩, fun us p v h hp => ?_⟩
  unfold valF at h
  split at h <;> cases h
  refine tri_evS (hyp (l := []) (lp := []) trivial trivial) Try.func76 comp76 (rs := [.tmp 2]) (by rfl) Try.ntmps76 10 ?_
  simp -implicitDefEqProofs only [push_cast, false_implies, reduceCtorEq, Classical.not_not, Nat.reduceAdd, Nat.reduceSub, Nat.reduceMul, Nat.reduceLeDiff, Nat.reduceLT, Nat.reduceEqDiff, Nat.reduceBEq, Nat.reduceBNe, Int.reduceNeg, Int.reduceToNat, Bool.or_false, Bool.false_or, Bool.or_true, Bool.true_or, BEq.rfl, Bool.not_eq_true, Bool.not_eq_false, decide_eq_true_eq, not_true_eq_false, not_false_eq_true, ite_true, ite_false, List.append_nil, and_assoc, Nat.mul_zero, Nat.zero_mul, ir76, valF]
  rfl
theorem p75 : EntryPOk Try.prog 75 nvalF := by
  refine ⟨⟨_, Try.func75, by kernel_rfl, by kernel_rfl⟩, fun us p v h hp => ?_⟩
  unfold nvalF at h
  split at h <;> cases h
  refine tri_evS (hyp (l := []) (lp := [(76, valF)]) trivial ⟨p76, trivial⟩) Try.func75 comp75 (rs := [.tmp 2]) (by rfl) Try.ntmps75 10 ?_
  simp -implicitDefEqProofs only [push_cast, false_implies, reduceCtorEq, Classical.not_not, Nat.reduceAdd, Nat.reduceSub, Nat.reduceMul, Nat.reduceLeDiff, Nat.reduceLT, Nat.reduceEqDiff, Nat.reduceBEq, Nat.reduceBNe, Int.reduceNeg, Int.reduceToNat, Bool.or_false, Bool.false_or, Bool.or_true, Bool.true_or, BEq.rfl, Bool.not_eq_true, Bool.not_eq_false, decide_eq_true_eq, not_true_eq_false, not_false_eq_true, ite_true, ite_false, List.append_nil, and_assoc, Nat.mul_zero, Nat.zero_mul, ir75, nvalF]
def b74_1 : IR :=
  .seq (.reg false [⟨some 9, none, ⟨[], []⟩, .bin 0 .lss (.t 8) (.t 7)⟩] [] []) (.seq (.cond (.t 9) (.skip) (.exit 0)) (.seq (.block 1 (.seq (.reg false [⟨some 10, none, ⟨[], []⟩, .mov (.t 8)⟩,
    ⟨some 5, none, ⟨[], []⟩, .mov (.t 10)⟩] [9, 10] []) (.seq (.reg false [⟨some 11, none, ⟨[], []⟩, .mov (.t 1)⟩,
    ⟨some 12, none, ⟨[], []⟩, .mov (.t 0)⟩,
    ⟨some 13, none, ⟨[], []⟩, .mov (.t 5)⟩,
    ⟨some 14, none, ⟨[], []⟩, .idxS (.t 12) (.t 13) 1⟩,
    ⟨some 15, none, ⟨[], []⟩, .ld true none 0 0 (.t 14)⟩,
    ⟨some 16, none, ⟨[], []⟩, .callv (some 4) 10 (.t 11) [.t 15]⟩] [11, 12, 13, 14, 15] []) (.cond (.t 16) (.seq (.reg false [⟨some 17, none, ⟨[], []⟩, .mov (.t 5)⟩,
    ⟨some 4, none, ⟨[], []⟩, .mov (.t 17)⟩] [0, 1, 5, 7, 8, 16, 17] []) (.ret)) (.skip))))) (.reg false [⟨some 18, none, ⟨[], []⟩, .bin 0 .add (.t 8) (.k (.int .i64 1))⟩,
    ⟨some 8, none, ⟨[], []⟩, .mov (.t 18)⟩] [4, 5, 16, 18] [])))
def r74_2 : IR :=
  .seq (.reg false [⟨some 4, none, ⟨[], []⟩, .mov (.k (.int .i64 (-1)))⟩] [0, 1, 7, 8] []) (.ret)
def ir74 : IR :=
  .seq (.reg false [⟨some 4, none, ⟨[], []⟩, .mov (.k (.int .i64 0))⟩] [4] []) (.seq (.seq (.reg false [⟨some 6, none, ⟨[], []⟩, .mov (.t 0)⟩,
    ⟨some 7, none, ⟨[], []⟩, .len (.t 6)⟩,
    ⟨some 8, none, ⟨[], []⟩, .mov (.k (.int .i64 0))⟩] [6] []) (.block 0 (.loop b74_1))) (r74_2))
def kp74_1 : List Nat := [0, 1, 7, 8]
def kl74_1 : List Nat := [10, 11, 12, 13]
attribute [push_cast] kp74_1 kl74_1
set_option maxRecDepth 4000 in
theorem comp74 : (Try.f74.body.bind fun c => compC tab isP chkAll ir74 c) = some ir74 := by kernel_rfl
def ir64 : IR :=
  .seq (.reg false [⟨some 4, none, ⟨[], []⟩, .mov (.k (.bool false))⟩] [4] []) (.seq (.reg false [⟨some 5, none, ⟨[], []⟩, .mov (.t 0)⟩,
    ⟨some 6, none, ⟨[], []⟩, .mov (.t 1)⟩,
    ⟨some 7, none, ⟨[], []⟩, .call (some 4) 10 74 [.t 5, .t 6]⟩,
    ⟨some 8, none, ⟨[], []⟩, .bin 0 .geq (.t 7) (.k (.int .i64 0))⟩,
    ⟨some 4, none, ⟨[], []⟩, .mov (.t 8)⟩] [0, 1, 5, 6, 7, 8] []) (.ret))
set_option maxRecDepth 4000 in
theorem comp64 : (Try.f64.body.bind fun c => compC tab isP chkAll ir64 c) = some ir64 := by kernel_rfl
def ir72 : IR :=
  .seq (.reg false [⟨some 4, none, ⟨[], []⟩, .mov (.k (.bool false))⟩] [4] []) (.seq (.reg false [⟨some 5, none, ⟨[], []⟩, .mov (.t 0)⟩,
    ⟨some 6, none, ⟨[], []⟩, .len (.t 5)⟩,
    ⟨some 7, none, ⟨[], []⟩, .mov (.t 1)⟩,
    ⟨some 8, none, ⟨[], []⟩, .bin 0 .eql (.t 6) (.t 7)⟩,
    ⟨some 9, none, ⟨[], []⟩, .mov (.t 8)⟩,
    ⟨some 10, some (9, true), ⟨[], []⟩, .mov (.t 0)⟩,
    ⟨some 11, some (9, true), ⟨[], []⟩, .call (some 4) 10 64 [.t 10, .k (.fn 75 [])]⟩,
    ⟨some 12, some (9, true), ⟨[], []⟩, .not (.t 11)⟩,
    ⟨some 13, none, ⟨[], []⟩, .pick (.t 9) (.t 12) (.k (.bool false))⟩,
    ⟨some 4, none, ⟨[], []⟩, .mov (.t 13)⟩] [0, 1, 5, 6, 7, 8, 9, 10, 11, 12, 13] []) (.ret))
set_option maxRecDepth 4000 in
theorem comp72 : (Try.f72.body.bind fun c => compC tab isP chkAll ir72 c) = some ir72 := by kernel_rfl
def ir58 : IR :=
  .seq (.reg false [⟨some 1, none, ⟨[], []⟩, .box 10 (.t 0)⟩,
    ⟨some 2, none, ⟨[], []⟩, .mov (.k (.bool false))⟩] [0, 2] []) (.seq (.reg false [⟨some 4, none, ⟨[], []⟩, .fld (.t 1) 0⟩,
    ⟨some 5, none, ⟨[], []⟩, .ld false none 0 0 (.t 4)⟩,
    ⟨some 6, none, ⟨[], []⟩, .fld (.t 1) 1⟩,
    ⟨some 7, none, ⟨[], []⟩, .ld false none 0 0 (.t 6)⟩,
    ⟨some 8, none, ⟨[], []⟩, .bin 1 .mul (.t 5) (.t 7)⟩,
    ⟨some 3, none, ⟨[], []⟩, .mov (.t 8)⟩] [4, 5, 6, 7, 8] []) (.seq (.reg false [⟨some 9, none, ⟨[], []⟩, .fld (.t 1) 0⟩,
    ⟨some 10, none, ⟨[], []⟩, .ld false none 0 0 (.t 9)⟩,
    ⟨some 11, none, ⟨[], []⟩, .fld (.t 1) 1⟩,
    ⟨some 12, none, ⟨[], []⟩, .ld false none 0 0 (.t 11)⟩,
    ⟨some 13, none, ⟨[], []⟩, .callp 71 [.t 10, .t 12]⟩,
    ⟨some 14, none, ⟨[], []⟩, .mov (.t 13)⟩,
    ⟨some 15, some (14, true), ⟨[], []⟩, .fld (.t 1) 2⟩,
    ⟨some 16, some (14, true), ⟨[], []⟩, .ld false none 0 0 (.t 15)⟩,
    ⟨some 17, some (14, true), ⟨[], []⟩, .mov (.t 3)⟩,
    ⟨some 18, some (14, true), ⟨[], []⟩, .call (some 4) 11 72 [.t 16, .t 17]⟩,
    ⟨some 19, none, ⟨[], []⟩, .pick (.t 14) (.t 18) (.k (.bool false))⟩,
    ⟨some 20, none, ⟨[], []⟩, .mov (.t 19)⟩,
    ⟨some 21, some (20, true), ⟨[], []⟩, .fld (.t 1) 3⟩,
    ⟨some 22, some (20, true), ⟨[], []⟩, .ld false none 0 0 (.t 21)⟩,
    ⟨some 23, some (20, true), ⟨[], []⟩, .mov (.t 3)⟩,
    ⟨some 24, some (20, true), ⟨[], []⟩, .call (some 4) 15 72 [.t 22, .t 23]⟩,
    ⟨some 25, none, ⟨[], []⟩, .pick (.t 20) (.t 24) (.k (.bool false))⟩,
    ⟨some 26, none, ⟨[], []⟩, .mov (.t 25)⟩,
    ⟨some 27, some (26, true), ⟨[], []⟩, .fld (.t 1) 4⟩,
    ⟨some 28, some (26, true), ⟨[], []⟩, .ld false none 0 0 (.t 27)⟩,
    ⟨some 29, some (26, true), ⟨[], []⟩, .mov (.t 3)⟩,
    ⟨some 30, some (26, true), ⟨[], []⟩, .call (some 4) 19 72 [.t 28, .t 29]⟩,
    ⟨some 31, none, ⟨[], []⟩, .pick (.t 26) (.t 30) (.k (.bool false))⟩,
    ⟨some 2, none, ⟨[], []⟩, .mov (.t 31)⟩] [1, 3, 9, 10, 11, 12, 13, 14, 15, 16, 17, 18, 19, 20, 21, 22, 23, 24, 25, 26, 27, 28, 29, 30, 31] []) (.ret)))
set_option maxRecDepth 4000 in
theorem comp58 : (Try.f58.body.bind fun c => compC tab isP chkAll ir58 c) = some ir58 := by kernel_rfl
/-- A row that is only read. -/
structure RowA where
  L : Xf.Loc
  xs : List Int
def rowM (a : RowA) : Mem := [some (.ro, a.L, .ints .i64 a.xs)]
attribute [push_cast] rowM
def firstBad (xs : List Int) : Int := if (xs.findIdx fun n => decide (¬ ValOk n)) < xs.length then (xs.findIdx fun n => decide (¬ ValOk n)) else -1
theorem firstBad_at {xs : List Int} {i : Nat} (h : i < xs.length) (hb : ¬ ValOk (rd xs i)) (hj : ∀ j, j < i → ValOk (rd xs (j : Nat))) : firstBad xs = i := by
  have : (xs.findIdx fun n => decide (¬ ValOk n)) = i := by
    rw [List.findIdx_eq h]
    refine ⟨by rw [rd_lt xs i h] at hb; simpa using hb, fun j hji => ?_⟩
    have := hj j hji
    rw [rd_lt xs j (by omega)] at this
    simpa using this
  unfold firstBad
  rw [this, if_pos h]
theorem firstBad_no {xs : List Int} (hj : ∀ j, j < xs.length → ValOk (rd xs (j : Nat))) : firstBad xs = -1 := by
  unfold firstBad
  rw [if_neg]
  intro h
  have := List.findIdx_getElem (w := h)
  have h2 := hj _ h
  rw [rd_lt xs _ h] at h2
  simp only [decide_eq_true_eq] at this
  exact this h2
def AllVal (xs : List Int) : Prop := ∀ n ∈ xs, ValOk n
instance (xs : List Int) : Decidable (AllVal xs) := by unfold AllVal; infer_instance
theorem firstBad_iff (xs : List Int) : 0 ≤ firstBad xs ↔ ¬ AllVal xs := by
  unfold firstBad AllVal
  have h := List.findIdx_lt_length (xs := xs) (p := fun n => decide (¬ ValOk n))
  by_cases hh : (xs.findIdx fun n => decide (¬ ValOk n)) < xs.length
  · rw [if_pos hh]
    obtain ⟨x, hx, hb⟩ := h.1 hh
    constructor
    · intro _ H; simp [H x hx] at hb
    · intro _; omega
  · rw [if_neg hh]
    constructor
    · intro h; omega
    · intro H
      exfalso
      apply hh
      apply h.2
      simp only [Classical.not_forall] at H
      obtain ⟨x, hx, hb⟩ := H
      exact ⟨x, hx, by simpa using hb⟩
def fs74 : FS where
  A := RowA
  args := fun a => [.sl 0 a.L 1 0 a.xs.length, .fn 75 []]
  mem := rowM
  pre := fun a => a.xs.length ≤ 140737488355328
  res := fun a _ => .int .i64 (firstBad a.xs)
  out := fun _ _ => []
  new := fun _ _ => []
def inv74 : List SV → Look → Option (RowA × List Nat)
  | [.sl c _ 1 0 _, .fn 75 []], look => match rowI (look c) with
    | some (L, .i64, xs) => some (⟨L, xs⟩, [c])
    | _ => none
  | _, _ => none
attribute [push_cast] inv74
def I74 (L : Xf.Loc) (xs : List Int) (i : Nat) : List Ent × Mem := ([some (true, .sl 0 L 1 0 xs.length), some (true, .fn 75 []), none, none, none, none, none, some (true, .int .i64 xs.length), some (true, .int .i64 i), none, none, none, none, none, none, none, none, none, none],
    [some (.ro, L, .ints .i64 xs), none, none, none, none, none, none, none, none, none, none, none, none, none])
def lp74 (L : Xf.Loc) (xs : List Int) : LoopS where
  A := Nat
  I := I74 L xs
  R := fun i => i ≤ xs.length ∧ ∀ j, j < i → ValOk (rd xs (j : Nat))
  mu := fun i => xs.length - i
theorem ok74 : FSOk Try.prog 74 fs74 := by
  refine ⟨⟨_, Try.func74, by kernel_rfl, by kernel_rfl⟩, fun a => ⟨by simp [fs74, rowM, push_cast, noMine, argOwn, Chunk.frArg], by simp [fs74, rowM, push_cast, outOk, Chunk.ext], fun x => .inl (by simp [fs74, rowM, push_cast, frNew, frOut, Chunk.fr])⟩, fun a hp => ?_⟩
  obtain ⟨L, xs⟩ := a
  change xs.length ≤ 140737488355328 at hp
  change Tri Try.prog 74 [.sl 0 L 1 0 xs.length, .fn 75 []] [some (.ro, L, .ints .i64 xs)] (postF fs74 ⟨L, xs⟩)
  refine tri_evS (hyp (l := [(75, liftP nvalF)]) (lp := []) ⟨p75.lift, trivial⟩ trivial) Try.func74 comp74 (rs := [.tmp 4]) (by rfl) Try.ntmps74 13 ?_
  simp -implicitDefEqProofs only [push_cast, false_implies, reduceCtorEq, Classical.not_not, Nat.reduceAdd, Nat.reduceSub, Nat.reduceMul, Nat.reduceLeDiff, Nat.reduceLT, Nat.reduceEqDiff, Nat.reduceBEq, Nat.reduceBNe, Int.reduceNeg, Int.reduceToNat, Bool.or_false, Bool.false_or, Bool.or_true, Bool.true_or, BEq.rfl, Bool.not_eq_true, Bool.not_eq_false, decide_eq_true_eq, not_true_eq_false, not_false_eq_true, ite_true, ite_false, List.append_nil, and_assoc, Nat.mul_zero, Nat.zero_mul, ir74]
  refine evS_loop _ _ _ (lp74 L xs) (0 : Nat) ⟨by omega, by omega⟩ (Sub.refl _ _) ?_
  intro (i : Nat) hi
  change evS _ _ _ _ (I74 L xs i).1 (I74 L xs i).2
  obtain ⟨h1, h2⟩ : i ≤ xs.length ∧ ∀ j, j < i → ValOk (rd xs (j : Nat)) := hi
  simp -implicitDefEqProofs only [push_cast, false_implies, reduceCtorEq, Classical.not_not, Nat.reduceAdd, Nat.reduceSub, Nat.reduceMul, Nat.reduceLeDiff, Nat.reduceLT, Nat.reduceEqDiff, Nat.reduceBEq, Nat.reduceBNe, Int.reduceNeg, Int.reduceToNat, Bool.or_false, Bool.false_or, Bool.or_true, Bool.true_or, BEq.rfl, Bool.not_eq_true, Bool.not_eq_false, decide_eq_true_eq, not_true_eq_false, not_false_eq_true, ite_true, ite_false, List.append_nil, and_assoc, Nat.mul_zero, Nat.zero_mul, I74, b74_1, r74_2]
  refine ⟨fun h => ⟨by omega, h, by omega, h, fun hb => ?_, fun hb => ⟨by omega, by omega, ?_⟩⟩, fun h => ?_⟩
  · have e := firstBad_at (by omega) hb h2
    exact postF.mk' (fun _ => default) [some 0] (by simp -implicitDefEqProofs only [push_cast, false_implies, reduceCtorEq, Classical.not_not, Nat.reduceAdd, Nat.reduceSub, Nat.reduceMul, Nat.reduceLeDiff, Nat.reduceLT, Nat.reduceEqDiff, Nat.reduceBEq, Nat.reduceBNe, Int.reduceNeg, Int.reduceToNat, Bool.or_false, Bool.false_or, Bool.or_true, Bool.true_or, BEq.rfl, Bool.not_eq_true, Bool.not_eq_false, decide_eq_true_eq, not_true_eq_false, not_false_eq_true, ite_true, ite_false, List.append_nil, and_assoc, Nat.mul_zero, Nat.zero_mul, fs74, e])
  · refine lpK_mk (i + 1 : Nat) ⟨by omega, ?_⟩ (show xs.length - (i + 1) < xs.length - i by omega) (Sub.refl _ _)
    intro j hj
    by_cases e : j = i
    · subst e; exact hb
    · exact h2 j (by omega)
  · have e := firstBad_no (xs := xs) (fun j hj => h2 j (by omega))
    exact postF.mk' (fun _ => default) [some 0] (by simp -implicitDefEqProofs only [push_cast, false_implies, reduceCtorEq, Classical.not_not, Nat.reduceAdd, Nat.reduceSub, Nat.reduceMul, Nat.reduceLeDiff, Nat.reduceLT, Nat.reduceEqDiff, Nat.reduceBEq, Nat.reduceBNe, Int.reduceNeg, Int.reduceToNat, Bool.or_false, Bool.false_or, Bool.or_true, Bool.true_or, BEq.rfl, Bool.not_eq_true, Bool.not_eq_false, decide_eq_true_eq, not_true_eq_false, not_false_eq_true, ite_true, ite_false, List.append_nil, and_assoc, Nat.mul_zero, Nat.zero_mul, fs74, e])
def ent74 : Entry := spOf fs74 inv74
theorem e74 : EntryOk Try.prog 74 ent74 := entry_of ok74 inv74
@[push_cast] theorem ent74_app (us : List SV) (look : Look) (x : Nat → Xf.Loc) (k : Nat) : ent74 us look x k = spOf fs74 inv74 us look x k := rfl
def fs64 : FS := { fs74 with res := fun a _ => .bool (decide (¬ AllVal a.xs)) }
theorem ok64 : FSOk Try.prog 64 fs64 := by
  refine ⟨⟨_, Try.func64, by kernel_rfl, by kernel_rfl⟩, fun a => ⟨by simp [fs64, fs74, rowM, push_cast, noMine, argOwn, Chunk.frArg], by simp [fs64, fs74, rowM, push_cast, outOk, Chunk.ext], fun x => .inl (by simp [fs64, fs74, rowM, push_cast, frNew, frOut, Chunk.fr])⟩, fun a hp => ?_⟩
  obtain ⟨L, xs⟩ := a
  change xs.length ≤ 140737488355328 at hp
  change Tri Try.prog 64 [.sl 0 L 1 0 xs.length, .fn 75 []] [some (.ro, L, .ints .i64 xs)] (postF fs64 ⟨L, xs⟩)
  refine tri_evS (hyp (l := [(74, ent74)]) (lp := []) ⟨e74, trivial⟩ trivial) Try.func64 comp64 (rs := [.tmp 4]) (by rfl) Try.ntmps64 13 ?_
  simp -implicitDefEqProofs only [push_cast, false_implies, reduceCtorEq, Classical.not_not, Nat.reduceAdd, Nat.reduceSub, Nat.reduceMul, Nat.reduceLeDiff, Nat.reduceLT, Nat.reduceEqDiff, Nat.reduceBEq, Nat.reduceBNe, Int.reduceNeg, Int.reduceToNat, Bool.or_false, Bool.false_or, Bool.or_true, Bool.true_or, BEq.rfl, Bool.not_eq_true, Bool.not_eq_false, decide_eq_true_eq, not_true_eq_false, not_false_eq_true, ite_true, ite_false, List.append_nil, and_assoc, Nat.mul_zero, Nat.zero_mul, ir64, fs74]
  exact ⟨hp, postF.mk' (fun _ => default) [some 0] (by simp -implicitDefEqProofs only [push_cast, false_implies, reduceCtorEq, Classical.not_not, Nat.reduceAdd, Nat.reduceSub, Nat.reduceMul, Nat.reduceLeDiff, Nat.reduceLT, Nat.reduceEqDiff, Nat.reduceBEq, Nat.reduceBNe, Int.reduceNeg, Int.reduceToNat, Bool.or_false, Bool.false_or, Bool.or_true, Bool.true_or, BEq.rfl, Bool.not_eq_true, Bool.not_eq_false, decide_eq_true_eq, not_true_eq_false, not_false_eq_true, ite_true, ite_false, List.append_nil, and_assoc, Nat.mul_zero, Nat.zero_mul, fs64, fs74, firstBad_iff])⟩
def ent64 : Entry := spOf fs64 inv74
theorem e64 : EntryOk Try.prog 64 ent64 := entry_of ok64 inv74
@[push_cast] theorem ent64_app (us : List SV) (look : Look) (x : Nat → Xf.Loc) (k : Nat) : ent64 us look x k = spOf fs64 inv74 us look x k := rfl
structure RowN where
  L : Xf.Loc
  xs : List Int
  n : Int
def fs72 : FS where
  A := RowN
  args := fun a => [.sl 0 a.L 1 0 a.xs.length, .int .i64 a.n]
  mem := fun a => [some (.ro, a.L, .ints .i64 a.xs)]
  pre := fun a => a.xs.length ≤ 140737488355328
  res := fun a _ => .bool (decide (a.xs.length = a.n ∧ AllVal a.xs))
  out := fun _ _ => []
  new := fun _ _ => []
def inv72 : List SV → Look → Option (RowN × List Nat)
  | [.sl c _ 1 0 _, .int .i64 n], look => match rowI (look c) with
    | some (L, .i64, xs) => some (⟨L, xs, n⟩, [c])
    | _ => none
  | _, _ => none
attribute [push_cast] inv72
theorem ok72 : FSOk Try.prog 72 fs72 := by
  refine ⟨⟨_, Try.func72, by kernel_rfl, by kernel_rfl⟩, fun a => ⟨by simp [fs72, push_cast, noMine, argOwn, Chunk.frArg], by simp [fs72, push_cast, outOk, Chunk.ext], fun x => .inl (by simp [fs72, push_cast, frNew, frOut, Chunk.fr])⟩, fun a hp => ?_⟩
  obtain ⟨L, xs, n⟩ := a
  change xs.length ≤ 140737488355328 at hp
  change Tri Try.prog 72 [.sl 0 L 1 0 xs.length, .int .i64 n] [some (.ro, L, .ints .i64 xs)] (postF fs72 ⟨L, xs, n⟩)
  refine tri_evS (hyp (l := [(64, ent64)]) (lp := []) ⟨e64, trivial⟩ trivial) Try.func72 comp72 (rs := [.tmp 4]) (by rfl) Try.ntmps72 14 ?_
  simp -implicitDefEqProofs only [push_cast, false_implies, reduceCtorEq, Classical.not_not, Nat.reduceAdd, Nat.reduceSub, Nat.reduceMul, Nat.reduceLeDiff, Nat.reduceLT, Nat.reduceEqDiff, Nat.reduceBEq, Nat.reduceBNe, Int.reduceNeg, Int.reduceToNat, Bool.or_false, Bool.false_or, Bool.or_true, Bool.true_or, BEq.rfl, Bool.not_eq_true, Bool.not_eq_false, decide_eq_true_eq, not_true_eq_false, not_false_eq_true, ite_true, ite_false, List.append_nil, and_assoc, Nat.mul_zero, Nat.zero_mul, ir72, fs64, fs74, hp]
  exact postF.mk' (fun _ => default) [some 0] (by simp -implicitDefEqProofs only [push_cast, false_implies, reduceCtorEq, Classical.not_not, Nat.reduceAdd, Nat.reduceSub, Nat.reduceMul, Nat.reduceLeDiff, Nat.reduceLT, Nat.reduceEqDiff, Nat.reduceBEq, Nat.reduceBNe, Int.reduceNeg, Int.reduceToNat, Bool.or_false, Bool.false_or, Bool.or_true, Bool.true_or, BEq.rfl, Bool.not_eq_true, Bool.not_eq_false, decide_eq_true_eq, not_true_eq_false, not_false_eq_true, ite_true, ite_false, List.append_nil, and_assoc, Nat.mul_zero, Nat.zero_mul, fs72])
def ent72 : Entry := spOf fs72 inv72
theorem e72 : EntryOk Try.prog 72 ent72 := entry_of ok72 inv72
@[push_cast] theorem ent72_app (us : List SV) (look : Look) (x : Nat → Xf.Loc) (k : Nat) : ent72 us look x k = spOf fs72 inv72 us look x k := rfl
structure Im where
  w : Int
  h : Int
  R : List Int
  G : List Int
  B : List Int
structure ImA where
  i : Im
  L1 : Xf.Loc
  L2 : Xf.Loc
  L3 : Xf.Loc
def imV (i : Im) (L1 L2 L3 : Xf.Loc) (c : Nat) : SV := .agg [.int .i64 i.w, .int .i64 i.h, .sl c L1 1 0 i.R.length, .sl (c + 1) L2 1 0 i.G.length, .sl (c + 2) L3 1 0 i.B.length]
def imM (i : Im) (L1 L2 L3 : Xf.Loc) : Mem := [some (.ro, L1, .ints .i64 i.R), some (.ro, L2, .ints .i64 i.G), some (.ro, L3, .ints .i64 i.B)]
def Im.small (i : Im) : Prop := i.R.length ≤ 140737488355328 ∧ i.G.length ≤ 140737488355328 ∧ i.B.length ≤ 140737488355328
def Im.Ok (i : Im) : Prop := SidesOk i.w i.h ∧ (i.R.length = i.w * i.h ∧ AllVal i.R) ∧ (i.G.length = i.w * i.h ∧ AllVal i.G) ∧ (i.B.length = i.w * i.h ∧ AllVal i.B)
instance (i : Im) : Decidable i.Ok := by unfold Im.Ok; infer_instance
def fs58 : FS where
  A := ImA
  args := fun a => [imV a.i a.L1 a.L2 a.L3 0]
  mem := fun a => imM a.i a.L1 a.L2 a.L3
  pre := fun a => a.i.small
  res := fun a _ => .bool (decide a.i.Ok)
  out := fun _ _ => []
  new := fun _ _ => []
def getI (look : Look) : SV → Option (ImA × List Nat)
  | .agg [.int .i64 w, .int .i64 h, .sl c1 _ 1 0 _, .sl c2 _ 1 0 _, .sl c3 _ 1 0 _] => match rowI (look c1), rowI (look c2), rowI (look c3) with
    | some (L1, .i64, R), some (L2, .i64, G), some (L3, .i64, B) => some (⟨⟨w, h, R, G, B⟩, L1, L2, L3⟩, [c1, c2, c3])
    | _, _, _ => none
  | _ => none
def inv58 : List SV → Look → Option (ImA × List Nat)
  | [v], look => getI look v
  | _, _ => none
attribute [push_cast] inv58 getI imV imM
theorem ok58 : FSOk Try.prog 58 fs58 := by
  refine ⟨⟨_, Try.func58, by kernel_rfl, by kernel_rfl⟩, fun a => ⟨by simp [fs58, imM, push_cast, noMine, argOwn, Chunk.frArg], by simp [fs58, imM, push_cast, outOk, Chunk.ext], fun x => .inl (by simp [fs58, imM, push_cast, frNew, frOut, Chunk.fr])⟩, fun a hp => ?_⟩
  obtain ⟨⟨w, h, R, G, B⟩, L1, L2, L3⟩ := a
  obtain ⟨h1, h2, h3⟩ : R.length ≤ 140737488355328 ∧ G.length ≤ 140737488355328 ∧ B.length ≤ 140737488355328 := hp
  change Tri Try.prog 58 [imV ⟨w, h, R, G, B⟩ L1 L2 L3 0] (imM ⟨w, h, R, G, B⟩ L1 L2 L3) (postF fs58 ⟨⟨w, h, R, G, B⟩, L1, L2, L3⟩)
  refine tri_evS (hyp (l := [(72, ent72)]) (lp := [(71, sidesF)]) ⟨e72, trivial⟩ ⟨p71, trivial⟩) Try.func58 comp58 (rs := [.tmp 2]) (by rfl) Try.ntmps58 30 ?_
  simp -implicitDefEqProofs only [push_cast, false_implies, reduceCtorEq, Classical.not_not, Nat.reduceAdd, Nat.reduceSub, Nat.reduceMul, Nat.reduceLeDiff, Nat.reduceLT, Nat.reduceEqDiff, Nat.reduceBEq, Nat.reduceBNe, Int.reduceNeg, Int.reduceToNat, Bool.or_false, Bool.false_or, Bool.or_true, Bool.true_or, BEq.rfl, Bool.not_eq_true, Bool.not_eq_false, decide_eq_true_eq, not_true_eq_false, not_false_eq_true, ite_true, ite_false, List.append_nil, and_assoc, Nat.mul_zero, Nat.zero_mul, ir58, fs72, h1, h2, h3]
  intro X
  refine ⟨fun h => ?_, fun h => ?_, postF.mk' (fun _ => default) [some 0, some 1, some 2] ?_⟩
  · obtain ⟨a, b, c⟩ := h; exact ⟨a, b, c, a, b, c⟩
  · obtain ⟨a, b, c, d, e⟩ := h; exact ⟨a, b, c, d, e, a, b, c, d, e⟩
  · have e : (SidesOk w h ∧ R.length = IntKind.i64.wrap (w * h) ∧ AllVal R ∧ G.length = IntKind.i64.wrap (w * h) ∧ AllVal G ∧ B.length = IntKind.i64.wrap (w * h) ∧ AllVal B) ↔ (⟨w, h, R, G, B⟩ : Im).Ok := by
      unfold Im.Ok
      by_cases hs : SidesOk w h
      · have := hs.bd
        rw [inR_wrap (k := .i64) ⟨by omega, by omega⟩]
        simp only [and_assoc]
      · simp only [hs, false_and]
    simp -implicitDefEqProofs only [push_cast, false_implies, reduceCtorEq, Classical.not_not, Nat.reduceAdd, Nat.reduceSub, Nat.reduceMul, Nat.reduceLeDiff, Nat.reduceLT, Nat.reduceEqDiff, Nat.reduceBEq, Nat.reduceBNe, Int.reduceNeg, Int.reduceToNat, Bool.or_false, Bool.false_or, Bool.or_true, Bool.true_or, BEq.rfl, Bool.not_eq_true, Bool.not_eq_false, decide_eq_true_eq, not_true_eq_false, not_false_eq_true, ite_true, ite_false, List.append_nil, and_assoc, Nat.mul_zero, Nat.zero_mul, fs58, e]
def ent58 : Entry := spOf fs58 inv58
theorem e58 : EntryOk Try.prog 58 ent58 := entry_of ok58 inv58
@[push_cast] theorem ent58_app (us : List SV) (look : Look) (x : Nat → Xf.Loc) (k : Nat) : ent58 us look x k = spOf fs58 inv58 us look x k := rfl
def ir61 : IR :=
  .seq (.reg false [⟨some 4, none, ⟨[], []⟩, .alloc 10 [.int .i64 0, .int .i64 0, nilSV, nilSV, nilSV]⟩] [] []) (.seq (.reg false [⟨some 6, none, ⟨[], []⟩, .mov (.t 0)⟩,
    ⟨some 7, none, ⟨[], []⟩, .mov (.t 1)⟩,
    ⟨some 8, none, ⟨[], []⟩, .bin 0 .mul (.t 6) (.t 7)⟩,
    ⟨some 5, none, ⟨[], []⟩, .mov (.t 8)⟩] [6, 7, 8] []) (.seq (.reg true [⟨some 9, none, ⟨[], []⟩, .mov (.t 0)⟩,
    ⟨some 10, none, ⟨[], []⟩, .mov (.t 1)⟩,
    ⟨some 11, none, ⟨[], []⟩, .mov (.t 5)⟩,
    ⟨some 12, none, ⟨[], []⟩, .mks 11 (.int .i64 0) 8 (.t 11) (.t 11)⟩,
    ⟨some 13, none, ⟨[], []⟩, .mov (.t 5)⟩,
    ⟨some 14, none, ⟨[], []⟩, .mks 12 (.int .i64 0) 8 (.t 13) (.t 13)⟩,
    ⟨some 15, none, ⟨[], []⟩, .mov (.t 5)⟩,
    ⟨some 16, none, ⟨[], []⟩, .mks 13 (.int .i64 0) 8 (.t 15) (.t 15)⟩,
    ⟨some 17, none, ⟨[], []⟩, .build [.int .i64 0, .int .i64 0, nilSV, nilSV, nilSV] [(0, 1, .t 9), (1, 1, .t 10), (2, 1, .t 12), (3, 1, .t 14), (4, 1, .t 16)]⟩,
    ⟨none, none, ⟨[], []⟩, .sto false 5 .i64 (.t 4) (.t 17)⟩] [0, 1, 5, 9, 10, 11, 12, 13, 14, 15, 16, 17] []) (.ret)))
set_option maxRecDepth 4000 in
theorem comp61 : (Try.f61.body.bind fun c => compC tab isP chkAll ir61 c) = some ir61 := by kernel_rfl
def ir62 : IR :=
  .reg true [⟨some 10, none, ⟨[], []⟩, .mov (.t 0)⟩,
    ⟨some 11, none, ⟨[], []⟩, .nilc (.t 10)⟩,
    ⟨some 12, none, ⟨[], []⟩, .fld (.t 11) 2⟩,
    ⟨some 13, none, ⟨[], []⟩, .ld false none 0 0 (.t 12)⟩,
    ⟨some 14, none, ⟨[], []⟩, .mov (.t 1)⟩,
    ⟨some 15, none, ⟨[], []⟩, .mov (.t 0)⟩,
    ⟨some 16, none, ⟨[], []⟩, .nilc (.t 15)⟩,
    ⟨some 17, none, ⟨[], []⟩, .fld (.t 16) 3⟩,
    ⟨some 18, none, ⟨[], []⟩, .ld false none 0 0 (.t 17)⟩,
    ⟨some 19, none, ⟨[], []⟩, .mov (.t 1)⟩,
    ⟨some 20, none, ⟨[], []⟩, .mov (.t 0)⟩,
    ⟨some 21, none, ⟨[], []⟩, .nilc (.t 20)⟩,
    ⟨some 22, none, ⟨[], []⟩, .fld (.t 21) 4⟩,
    ⟨some 23, none, ⟨[], []⟩, .ld false none 0 0 (.t 22)⟩,
    ⟨some 24, none, ⟨[], []⟩, .mov (.t 1)⟩,
    ⟨some 25, none, ⟨[], []⟩, .mov (.t 2)⟩,
    ⟨some 26, none, ⟨[], []⟩, .mov (.t 3)⟩,
    ⟨some 27, none, ⟨[], []⟩, .mov (.t 4)⟩,
    ⟨some 28, none, ⟨[], []⟩, .idxS (.t 13) (.t 14) 1⟩,
    ⟨none, none, ⟨[], []⟩, .sto true 1 .i64 (.t 28) (.t 25)⟩,
    ⟨some 29, none, ⟨[], []⟩, .idxS (.t 18) (.t 19) 1⟩,
    ⟨none, none, ⟨[], []⟩, .sto true 1 .i64 (.t 29) (.t 26)⟩,
    ⟨some 30, none, ⟨[], []⟩, .idxS (.t 23) (.t 24) 1⟩,
    ⟨none, none, ⟨[], []⟩, .sto true 1 .i64 (.t 30) (.t 27)⟩] [0, 1, 2, 3, 4, 10, 11, 12, 13, 14, 15, 16, 17, 18, 19, 20, 21, 22, 23, 24, 25, 26, 27, 28, 29, 30] []
set_option maxRecDepth 4000 in
theorem comp62 : (Try.f62.body.bind fun c => compC tab isP chkAll ir62 c) = some ir62 := by kernel_rfl
structure WH where
  w : Int
  h : Int
def zs (n : Int) : List Int := List.replicate n.toNat 0
def fs61 : FS where
  A := WH
  args := fun a => [.int .i64 a.w, .int .i64 a.h]
  mem := fun _ => []
  pre := fun a => SidesOk a.w a.h
  res := fun a x => .agg [.int .i64 a.w, .int .i64 a.h, .sl 0 (x 0) 1 0 (a.w * a.h), .sl 1 (x 1) 1 0 (a.w * a.h), .sl 2 (x 2) 1 0 (a.w * a.h)]
  out := fun _ _ => []
  new := fun a x => [(x 0, .ints .i64 (zs (a.w * a.h))), (x 1, .ints .i64 (zs (a.w * a.h))), (x 2, .ints .i64 (zs (a.w * a.h)))]
def inv61 : List SV → Look → Option (WH × List Nat)
  | [.int .i64 w, .int .i64 h], _ => some (⟨w, h⟩, [])
  | _, _ => none
attribute [push_cast] inv61
theorem ok61 : FSOk Try.prog 61 fs61 := by
  refine ⟨⟨_, Try.func61, by kernel_rfl, by kernel_rfl⟩, fun a => ⟨by simp [fs61, push_cast, noMine, argOwn, Chunk.frArg], by simp [fs61, push_cast, outOk, Chunk.ext], fun x => .inl (by simp [fs61, push_cast, frNew, frOut, Chunk.fr])⟩, fun a hp => ?_⟩
  obtain ⟨w, h⟩ := a
  change SidesOk w h at hp
  change Tri Try.prog 61 [.int .i64 w, .int .i64 h] [] (postF fs61 ⟨w, h⟩)
  refine tri_evS (hyp (l := []) (lp := []) trivial trivial) Try.func61 comp61 (rs := [.cell 4 (some 5)]) (by rfl) Try.ntmps61 14 ?_
  simp -implicitDefEqProofs only [push_cast, false_implies, reduceCtorEq, Classical.not_not, Nat.reduceAdd, Nat.reduceSub, Nat.reduceMul, Nat.reduceLeDiff, Nat.reduceLT, Nat.reduceEqDiff, Nat.reduceBEq, Nat.reduceBNe, Int.reduceNeg, Int.reduceToNat, Bool.or_false, Bool.false_or, Bool.or_true, Bool.true_or, BEq.rfl, Bool.not_eq_true, Bool.not_eq_false, decide_eq_true_eq, not_true_eq_false, not_false_eq_true, ite_true, ite_false, List.append_nil, and_assoc, Nat.mul_zero, Nat.zero_mul, ir61]
  intro X
  have hm := hp.bd
  refine ⟨by omega, by omega, fun X1 => ⟨by omega, by omega, by omega, by omega, by omega, by omega, by omega, by omega, by omega, postF.mk' (locs [X1 3 11, X1 5 12, X1 7 13]) [some 11, some 12, some 13] ?_⟩⟩
  simp -implicitDefEqProofs only [push_cast, false_implies, reduceCtorEq, Classical.not_not, Nat.reduceAdd, Nat.reduceSub, Nat.reduceMul, Nat.reduceLeDiff, Nat.reduceLT, Nat.reduceEqDiff, Nat.reduceBEq, Nat.reduceBNe, Int.reduceNeg, Int.reduceToNat, Bool.or_false, Bool.false_or, Bool.or_true, Bool.true_or, BEq.rfl, Bool.not_eq_true, Bool.not_eq_false, decide_eq_true_eq, not_true_eq_false, not_false_eq_true, ite_true, ite_false, List.append_nil, and_assoc, Nat.mul_zero, Nat.zero_mul, fs61, zs]
def ent61 : Entry := spOf fs61 inv61
theorem e61 : EntryOk Try.prog 61 ent61 := entry_of ok61 inv61
@[push_cast] theorem ent61_app (us : List SV) (look : Look) (x : Nat → Xf.Loc) (k : Nat) : ent61 us look x k = spOf fs61 inv61 us look x k := rfl
structure SetA where
  i : Im
  L : Xf.Loc
  L1 : Xf.Loc
  L2 : Xf.Loc
  L3 : Xf.Loc
  k : Int
  r : Int
  g : Int
  b : Int
  n1 : Int
  n2 : Int
  n3 : Int
def fs62 : FS where
  A := SetA
  args := fun a => [.ptr 0 a.L 0 0 0, .int .i64 a.k, .int .i64 a.r, .int .i64 a.g, .int .i64 a.b]
  mem := fun a => [some (.ro, a.L, .cells [.int .i64 a.i.w, .int .i64 a.i.h, .sl 1 a.L1 1 0 a.n1, .sl 2 a.L2 1 0 a.n2, .sl 3 a.L3 1 0 a.n3]), some (.lent, a.L1, .ints .i64 a.i.R), some (.lent, a.L2, .ints .i64 a.i.G), some (.lent, a.L3, .ints .i64 a.i.B)]
  pre := fun a => 0 ≤ a.k ∧ a.k < a.i.R.length ∧ a.k < a.i.G.length ∧ a.k < a.i.B.length ∧ a.n1 = a.i.R.length ∧ a.n2 = a.i.G.length ∧ a.n3 = a.i.B.length
  res := fun a x => .tup []
  out := fun a _ => [none, some (some (.ints .i64 (a.i.R.set a.k.toNat a.r))), some (some (.ints .i64 (a.i.G.set a.k.toNat a.g))), some (some (.ints .i64 (a.i.B.set a.k.toNat a.b)))]
  new := fun _ _ => []
def inv62 : List SV → Look → Option (SetA × List Nat)
  | [.ptr c _ _ _ _, .int .i64 k, .int .i64 r, .int .i64 g, .int .i64 b], look => match rowC (look c) with
    | some (L, [.int .i64 w, .int .i64 h, .sl c1 _ 1 0 n1, .sl c2 _ 1 0 n2, .sl c3 _ 1 0 n3]) => match rowI (look c1), rowI (look c2), rowI (look c3) with
      | some (L1, .i64, R), some (L2, .i64, G), some (L3, .i64, B) => some (⟨⟨w, h, R, G, B⟩, L, L1, L2, L3, k, r, g, b, n1, n2, n3⟩, [c, c1, c2, c3])
      | _, _, _ => none
    | _ => none
  | _, _ => none
attribute [push_cast] inv62
theorem ok62 : FSOk Try.prog 62 fs62 := by
  refine ⟨⟨_, Try.func62, by kernel_rfl, by kernel_rfl⟩, fun a => ⟨by simp [fs62, push_cast, noMine, argOwn, Chunk.frArg], by simp [fs62, push_cast, outOk, Chunk.ext], fun x => .inl (by simp [fs62, push_cast, frNew, frOut, Chunk.fr])⟩, fun a hp => ?_⟩
  obtain ⟨⟨w, h, R, G, B⟩, L, L1, L2, L3, k, r, g, b, n1, n2, n3⟩ := a
  obtain ⟨h1, h2, h3, h4, rfl, rfl, rfl⟩ : 0 ≤ k ∧ k < R.length ∧ k < G.length ∧ k < B.length ∧ n1 = R.length ∧ n2 = G.length ∧ n3 = B.length := hp
  change Tri Try.prog 62 [.ptr 0 L 0 0 0, .int .i64 k, .int .i64 r, .int .i64 g, .int .i64 b] [some (.ro, L, .cells [.int .i64 w, .int .i64 h, .sl 1 L1 1 0 R.length, .sl 2 L2 1 0 G.length, .sl 3 L3 1 0 B.length]), some (.lent, L1, .ints .i64 R), some (.lent, L2, .ints .i64 G), some (.lent, L3, .ints .i64 B)] (postF fs62 ⟨⟨w, h, R, G, B⟩, L, L1, L2, L3, k, r, g, b, R.length, G.length, B.length⟩)
  refine tri_evS (hyp (l := []) (lp := []) trivial trivial) Try.func62 comp62 (rs := []) (by rfl) Try.ntmps62 14 ?_
  simp -implicitDefEqProofs only [push_cast, false_implies, reduceCtorEq, Classical.not_not, Nat.reduceAdd, Nat.reduceSub, Nat.reduceMul, Nat.reduceLeDiff, Nat.reduceLT, Nat.reduceEqDiff, Nat.reduceBEq, Nat.reduceBNe, Int.reduceNeg, Int.reduceToNat, Bool.or_false, Bool.false_or, Bool.or_true, Bool.true_or, BEq.rfl, Bool.not_eq_true, Bool.not_eq_false, decide_eq_true_eq, not_true_eq_false, not_false_eq_true, ite_true, ite_false, List.append_nil, and_assoc, Nat.mul_zero, Nat.zero_mul, ir62, h1, h2, h3, h4]
  exact postF.mk' (fun _ => default) [some 0, some 1, some 2, some 3] (by simp -implicitDefEqProofs only [push_cast, false_implies, reduceCtorEq, Classical.not_not, Nat.reduceAdd, Nat.reduceSub, Nat.reduceMul, Nat.reduceLeDiff, Nat.reduceLT, Nat.reduceEqDiff, Nat.reduceBEq, Nat.reduceBNe, Int.reduceNeg, Int.reduceToNat, Bool.or_false, Bool.false_or, Bool.or_true, Bool.true_or, BEq.rfl, Bool.not_eq_true, Bool.not_eq_false, decide_eq_true_eq, not_true_eq_false, not_false_eq_true, ite_true, ite_false, List.append_nil, and_assoc, Nat.mul_zero, Nat.zero_mul, fs62])
def ent62 : Entry := spOf fs62 inv62
theorem e62 : EntryOk Try.prog 62 ent62 := entry_of ok62 inv62
@[push_cast] theorem ent62_app (us : List SV) (look : Look) (x : Nat → Xf.Loc) (k : Nat) : ent62 us look x k = spOf fs62 inv62 us look x k := rfl
structure NewA where
  w : Int
  h : Int
  r : Int
  g : Int
  b : Int
def NewA.Ok (a : NewA) : Prop := SidesOk a.w a.h ∧ ValOk a.r ∧ ValOk a.g ∧ ValOk a.b
instance (a : NewA) : Decidable a.Ok := by unfold NewA.Ok; infer_instance
def im0 : Im := ⟨0, 0, [], [], []⟩
def imN (i : Im) (x : Nat → Xf.Loc) : List (Xf.Loc × Chunk) := [(x 0, .ints .i64 i.R), (x 1, .ints .i64 i.G), (x 2, .ints .i64 i.B)]
/-- Where a result lies: nowhere, if there is none. -/
def lx (p : Prop) [Decidable p] (x : Nat → Xf.Loc) (k : Nat) : Xf.Loc := if p then x k else nilLoc
attribute [push_cast] imN
theorem allVal_rd {xs : List Int} : AllVal xs ↔ ∀ j : Nat, j < xs.length → ValOk (rd xs j) := by
  unfold AllVal
  constructor
  · intro h j hj; rw [rd_lt xs j hj]; exact h _ (List.getElem_mem hj)
  · intro h x hx
    obtain ⟨j, hj, rfl⟩ := List.getElem_of_mem hx
    have := h j hj
    rwa [rd_lt xs j hj] at this
def b35_1 : IR :=
  .seq (.seq (.reg false [⟨some 47, none, ⟨[], []⟩, .mov (.t 5)⟩,
    ⟨some 48, none, ⟨[], []⟩, .fld (.t 2) 2⟩,
    ⟨some 49, none, ⟨[], []⟩, .ld false none 0 0 (.t 48)⟩,
    ⟨some 50, none, ⟨[], []⟩, .len (.t 49)⟩,
    ⟨some 51, none, ⟨[], []⟩, .bin 0 .lss (.t 47) (.t 50)⟩] [47, 48, 49, 50] []) (.cond (.t 51) (.skip) (.exit 0))) (.seq (.block 1 (.seq (.reg true [⟨some 54, none, ⟨[], []⟩, .fld (.t 2) 2⟩,
    ⟨some 55, none, ⟨[], []⟩, .ld false none 0 0 (.t 54)⟩,
    ⟨some 56, none, ⟨[], []⟩, .mov (.t 5)⟩,
    ⟨some 57, none, ⟨[], []⟩, .idxS (.t 55) (.t 56) 1⟩,
    ⟨some 58, none, ⟨[], []⟩, .ld true none 0 0 (.t 57)⟩,
    ⟨some 59, none, ⟨[], []⟩, .fld (.t 3) 2⟩,
    ⟨some 60, none, ⟨[], []⟩, .ld false none 0 0 (.t 59)⟩,
    ⟨some 61, none, ⟨[], []⟩, .mov (.t 5)⟩,
    ⟨some 62, none, ⟨[], []⟩, .idxS (.t 60) (.t 61) 1⟩,
    ⟨some 63, none, ⟨[], []⟩, .ld true none 0 0 (.t 62)⟩,
    ⟨some 64, none, ⟨[], []⟩, .bin 0 .neq (.t 58) (.t 63)⟩] [51, 54, 55, 56, 57, 58, 59, 60, 61, 62, 63] []) (.cond (.t 64) (.seq (.reg false [⟨some 4, none, ⟨[], []⟩, .mov (.k (.bool false))⟩] [2, 3, 5, 64] []) (.ret)) (.skip)))) (.reg false [⟨some 52, none, ⟨[], []⟩, .mov (.t 5)⟩,
    ⟨some 53, none, ⟨[], []⟩, .bin 0 .add (.t 52) (.k (.int .i64 1))⟩,
    ⟨some 5, none, ⟨[], []⟩, .mov (.t 53)⟩] [4, 52, 53, 64] []))
def b35_2 : IR :=
  .seq (.seq (.reg false [⟨some 65, none, ⟨[], []⟩, .mov (.t 6)⟩,
    ⟨some 66, none, ⟨[], []⟩, .fld (.t 2) 3⟩,
    ⟨some 67, none, ⟨[], []⟩, .ld false none 0 0 (.t 66)⟩,
    ⟨some 68, none, ⟨[], []⟩, .len (.t 67)⟩,
    ⟨some 69, none, ⟨[], []⟩, .bin 0 .lss (.t 65) (.t 68)⟩] [65, 66, 67, 68] []) (.cond (.t 69) (.skip) (.exit 2))) (.seq (.block 3 (.seq (.reg true [⟨some 72, none, ⟨[], []⟩, .fld (.t 2) 3⟩,
    ⟨some 73, none, ⟨[], []⟩, .ld false none 0 0 (.t 72)⟩,
    ⟨some 74, none, ⟨[], []⟩, .mov (.t 6)⟩,
    ⟨some 75, none, ⟨[], []⟩, .idxS (.t 73) (.t 74) 1⟩,
    ⟨some 76, none, ⟨[], []⟩, .ld true none 0 0 (.t 75)⟩,
    ⟨some 77, none, ⟨[], []⟩, .fld (.t 3) 3⟩,
    ⟨some 78, none, ⟨[], []⟩, .ld false none 0 0 (.t 77)⟩,
    ⟨some 79, none, ⟨[], []⟩, .mov (.t 6)⟩,
    ⟨some 80, none, ⟨[], []⟩, .idxS (.t 78) (.t 79) 1⟩,
    ⟨some 81, none, ⟨[], []⟩, .ld true none 0 0 (.t 80)⟩,
    ⟨some 82, none, ⟨[], []⟩, .bin 0 .neq (.t 76) (.t 81)⟩] [69, 72, 73, 74, 75, 76, 77, 78, 79, 80, 81] []) (.cond (.t 82) (.seq (.reg false [⟨some 4, none, ⟨[], []⟩, .mov (.k (.bool false))⟩] [2, 3, 6, 82] []) (.ret)) (.skip)))) (.reg false [⟨some 70, none, ⟨[], []⟩, .mov (.t 6)⟩,
    ⟨some 71, none, ⟨[], []⟩, .bin 0 .add (.t 70) (.k (.int .i64 1))⟩,
    ⟨some 6, none, ⟨[], []⟩, .mov (.t 71)⟩] [4, 70, 71, 82] []))
def b35_3 : IR :=
  .seq (.seq (.reg false [⟨some 83, none, ⟨[], []⟩, .mov (.t 7)⟩,
    ⟨some 84, none, ⟨[], []⟩, .fld (.t 2) 4⟩,
    ⟨some 85, none, ⟨[], []⟩, .ld false none 0 0 (.t 84)⟩,
    ⟨some 86, none, ⟨[], []⟩, .len (.t 85)⟩,
    ⟨some 87, none, ⟨[], []⟩, .bin 0 .lss (.t 83) (.t 86)⟩] [83, 84, 85, 86] []) (.cond (.t 87) (.skip) (.exit 4))) (.seq (.block 5 (.seq (.reg true [⟨some 90, none, ⟨[], []⟩, .fld (.t 2) 4⟩,
    ⟨some 91, none, ⟨[], []⟩, .ld false none 0 0 (.t 90)⟩,
    ⟨some 92, none, ⟨[], []⟩, .mov (.t 7)⟩,
    ⟨some 93, none, ⟨[], []⟩, .idxS (.t 91) (.t 92) 1⟩,
    ⟨some 94, none, ⟨[], []⟩, .ld true none 0 0 (.t 93)⟩,
    ⟨some 95, none, ⟨[], []⟩, .fld (.t 3) 4⟩,
    ⟨some 96, none, ⟨[], []⟩, .ld false none 0 0 (.t 95)⟩,
    ⟨some 97, none, ⟨[], []⟩, .mov (.t 7)⟩,
    ⟨some 98, none, ⟨[], []⟩, .idxS (.t 96) (.t 97) 1⟩,
    ⟨some 99, none, ⟨[], []⟩, .ld true none 0 0 (.t 98)⟩,
    ⟨some 100, none, ⟨[], []⟩, .bin 0 .neq (.t 94) (.t 99)⟩] [87, 90, 91, 92, 93, 94, 95, 96, 97, 98, 99] []) (.cond (.t 100) (.seq (.reg false [⟨some 4, none, ⟨[], []⟩, .mov (.k (.bool false))⟩] [2, 3, 7, 100] []) (.ret)) (.skip)))) (.reg false [⟨some 88, none, ⟨[], []⟩, .mov (.t 7)⟩,
    ⟨some 89, none, ⟨[], []⟩, .bin 0 .add (.t 88) (.k (.int .i64 1))⟩,
    ⟨some 7, none, ⟨[], []⟩, .mov (.t 89)⟩] [4, 88, 89, 100] []))
def r35_4 : IR :=
  .seq (.reg false [⟨some 4, none, ⟨[], []⟩, .mov (.k (.bool true))⟩] [2, 3, 7] []) (.ret)
def r35_5 : IR :=
  .seq (.seq (.reg false [⟨some 7, none, ⟨[], []⟩, .mov (.k (.int .i64 0))⟩] [6] []) (.block 4 (.loop b35_3))) (r35_4)
def r35_6 : IR :=
  .seq (.seq (.reg false [⟨some 6, none, ⟨[], []⟩, .mov (.k (.int .i64 0))⟩] [5] []) (.block 2 (.loop b35_2))) (r35_5)
def ir35 : IR :=
  .seq (.reg false [⟨some 2, none, ⟨[], []⟩, .box 10 (.t 0)⟩,
    ⟨some 3, none, ⟨[], []⟩, .box 11 (.t 1)⟩,
    ⟨some 4, none, ⟨[], []⟩, .mov (.k (.bool false))⟩] [0, 1, 4] []) (.seq (.seq (.reg false [⟨some 8, none, ⟨[], []⟩, .fld (.t 2) 0⟩,
    ⟨some 9, none, ⟨[], []⟩, .ld false none 0 0 (.t 8)⟩,
    ⟨some 10, none, ⟨[], []⟩, .fld (.t 3) 0⟩,
    ⟨some 11, none, ⟨[], []⟩, .ld false none 0 0 (.t 10)⟩,
    ⟨some 12, none, ⟨[], []⟩, .bin 0 .neq (.t 9) (.t 11)⟩,
    ⟨some 13, none, ⟨[], []⟩, .mov (.t 12)⟩,
    ⟨some 14, some (13, false), ⟨[], []⟩, .fld (.t 2) 1⟩,
    ⟨some 15, some (13, false), ⟨[], []⟩, .ld false none 0 0 (.t 14)⟩,
    ⟨some 16, some (13, false), ⟨[], []⟩, .fld (.t 3) 1⟩,
    ⟨some 17, some (13, false), ⟨[], []⟩, .ld false none 0 0 (.t 16)⟩,
    ⟨some 18, some (13, false), ⟨[], []⟩, .bin 0 .neq (.t 15) (.t 17)⟩,
    ⟨some 19, none, ⟨[], []⟩, .pick (.t 13) (.k (.bool true)) (.t 18)⟩,
    ⟨some 20, none, ⟨[], []⟩, .mov (.t 19)⟩,
    ⟨some 21, some (20, false), ⟨[], []⟩, .fld (.t 2) 2⟩,
    ⟨some 22, some (20, false), ⟨[], []⟩, .ld false none 0 0 (.t 21)⟩,
    ⟨some 23, some (20, false), ⟨[], []⟩, .len (.t 22)⟩,
    ⟨some 24, some (20, false), ⟨[], []⟩, .fld (.t 3) 2⟩,
    ⟨some 25, some (20, false), ⟨[], []⟩, .ld false none 0 0 (.t 24)⟩,
    ⟨some 26, some (20, false), ⟨[], []⟩, .len (.t 25)⟩,
    ⟨some 27, some (20, false), ⟨[], []⟩, .bin 0 .neq (.t 23) (.t 26)⟩,
    ⟨some 28, none, ⟨[], []⟩, .pick (.t 20) (.k (.bool true)) (.t 27)⟩,
    ⟨some 29, none, ⟨[], []⟩, .mov (.t 28)⟩,
    ⟨some 30, some (29, false), ⟨[], []⟩, .fld (.t 2) 3⟩,
    ⟨some 31, some (29, false), ⟨[], []⟩, .ld false none 0 0 (.t 30)⟩,
    ⟨some 32, some (29, false), ⟨[], []⟩, .len (.t 31)⟩,
    ⟨some 33, some (29, false), ⟨[], []⟩, .fld (.t 3) 3⟩,
    ⟨some 34, some (29, false), ⟨[], []⟩, .ld false none 0 0 (.t 33)⟩,
    ⟨some 35, some (29, false), ⟨[], []⟩, .len (.t 34)⟩,
    ⟨some 36, some (29, false), ⟨[], []⟩, .bin 0 .neq (.t 32) (.t 35)⟩,
    ⟨some 37, none, ⟨[], []⟩, .pick (.t 29) (.k (.bool true)) (.t 36)⟩,
    ⟨some 38, none, ⟨[], []⟩, .mov (.t 37)⟩,
    ⟨some 39, some (38, false), ⟨[], []⟩, .fld (.t 2) 4⟩,
    ⟨some 40, some (38, false), ⟨[], []⟩, .ld false none 0 0 (.t 39)⟩,
    ⟨some 41, some (38, false), ⟨[], []⟩, .len (.t 40)⟩,
    ⟨some 42, some (38, false), ⟨[], []⟩, .fld (.t 3) 4⟩,
    ⟨some 43, some (38, false), ⟨[], []⟩, .ld false none 0 0 (.t 42)⟩,
    ⟨some 44, some (38, false), ⟨[], []⟩, .len (.t 43)⟩,
    ⟨some 45, some (38, false), ⟨[], []⟩, .bin 0 .neq (.t 41) (.t 44)⟩,
    ⟨some 46, none, ⟨[], []⟩, .pick (.t 38) (.k (.bool true)) (.t 45)⟩] [8, 9, 10, 11, 12, 13, 14, 15, 16, 17, 18, 19, 20, 21, 22, 23, 24, 25, 26, 27, 28, 29, 30, 31, 32, 33, 34, 35, 36, 37, 38, 39, 40, 41, 42, 43, 44, 45] []) (.cond (.t 46) (.seq (.reg false [⟨some 4, none, ⟨[], []⟩, .mov (.k (.bool false))⟩] [2, 3, 46] []) (.ret)) (.skip))) (.seq (.seq (.reg false [⟨some 5, none, ⟨[], []⟩, .mov (.k (.int .i64 0))⟩] [4, 46] []) (.block 0 (.loop b35_1))) (r35_6)))
set_option maxRecDepth 4000 in
theorem comp35 : (Try.f35.body.bind fun c => compC tab isP chkAll ir35 c) = some ir35 := by kernel_rfl
def Im.Eq (a b : Im) : Prop := a.w = b.w ∧ a.h = b.h ∧ a.R = b.R ∧ a.G = b.G ∧ a.B = b.B
instance (a b : Im) : Decidable (a.Eq b) := by unfold Im.Eq; infer_instance
theorem Im.Eq.refl (a : Im) : a.Eq a := ⟨rfl, rfl, rfl, rfl, rfl⟩
structure Im2 where
  a : ImA
  b : ImA
def fs35 : FS where
  A := Im2
  args := fun a => [imV a.a.i a.a.L1 a.a.L2 a.a.L3 0, imV a.b.i a.b.L1 a.b.L2 a.b.L3 3]
  mem := fun a => [some (.ro, a.a.L1, .ints .i64 a.a.i.R), some (.ro, a.a.L2, .ints .i64 a.a.i.G), some (.ro, a.a.L3, .ints .i64 a.a.i.B), some (.ro, a.b.L1, .ints .i64 a.b.i.R), some (.ro, a.b.L2, .ints .i64 a.b.i.G), some (.ro, a.b.L3, .ints .i64 a.b.i.B)]
  pre := fun a => a.a.i.small ∧ a.b.i.small
  res := fun a _ => .bool (decide (a.a.i.Eq a.b.i))
  out := fun _ _ => []
  new := fun _ _ => []
def inv35 : List SV → Look → Option (Im2 × List Nat)
  | [v, u], look => match getI look v, getI look u with
    | some (a, g), some (b, g') => some (⟨a, b⟩, g ++ g')
    | _, _ => none
  | _, _ => none
attribute [push_cast] inv35
def M35 (w h w' h' : Int) (R G B R' G' B' : List Int) (L1 L2 L3 M1 M2 M3 L0 L0' : Xf.Loc) : Mem :=
  mkM 18 [(0, .ro, L1, .ints .i64 R), (1, .ro, L2, .ints .i64 G), (2, .ro, L3, .ints .i64 B), (3, .ro, M1, .ints .i64 R'), (4, .ro, M2, .ints .i64 G'), (5, .ro, M3, .ints .i64 B'),
    (10, .mine, L0, .cells [.int .i64 w, .int .i64 h, .sl 0 L1 1 0 R.length, .sl 1 L2 1 0 G.length, .sl 2 L3 1 0 B.length]), (11, .mine, L0', .cells [.int .i64 w', .int .i64 h', .sl 3 M1 1 0 R'.length, .sl 4 M2 1 0 G'.length, .sl 5 M3 1 0 B'.length])]
def lp35 (t : Nat) (xs ys : List Int) (m : Mem) (L0 L0' : Xf.Loc) : LoopS where
  A := Nat
  I := fun i => (mkS 101 [(2, .ptr 10 L0 0 0 0), (3, .ptr 11 L0' 0 0 0), (t, .int .i64 i)], m)
  R := fun i => i ≤ xs.length ∧ ∀ j, j < i → rd xs (j : Nat) = rd ys (j : Nat)
  mu := fun i => xs.length - i
theorem ok35 : FSOk Try.prog 35 fs35 := by
  refine ⟨⟨_, Try.func35, by kernel_rfl, by kernel_rfl⟩, fun a => ⟨by simp [fs35, push_cast, noMine, argOwn, Chunk.frArg], by simp [fs35, push_cast, outOk, Chunk.ext], fun x => .inl (by simp [fs35, push_cast, frNew, frOut, Chunk.fr])⟩, fun a hp => ?_⟩
  obtain ⟨⟨⟨w, h, R, G, B⟩, L1, L2, L3⟩, ⟨⟨w', h', R', G', B'⟩, M1, M2, M3⟩⟩ := a
  obtain ⟨⟨s1, s2, s3⟩, s4, s5, s6⟩ := hp
  simp only at s1 s2 s3 s4 s5 s6
  change Tri Try.prog 35 [imV ⟨w, h, R, G, B⟩ L1 L2 L3 0, imV ⟨w', h', R', G', B'⟩ M1 M2 M3 3] [some (.ro, L1, .ints .i64 R), some (.ro, L2, .ints .i64 G), some (.ro, L3, .ints .i64 B), some (.ro, M1, .ints .i64 R'), some (.ro, M2, .ints .i64 G'), some (.ro, M3, .ints .i64 B')] (postF fs35 ⟨⟨⟨w, h, R, G, B⟩, L1, L2, L3⟩, ⟨⟨w', h', R', G', B'⟩, M1, M2, M3⟩⟩)
  refine tri_evS (hyp (l := []) (lp := []) trivial trivial) Try.func35 comp35 (rs := [.tmp 4]) (by rfl) Try.ntmps35 12 ?_
  simp -implicitDefEqProofs only [push_cast, false_implies, reduceCtorEq, Classical.not_not, Nat.reduceAdd, Nat.reduceSub, Nat.reduceMul, Nat.reduceLeDiff, Nat.reduceLT, Nat.reduceEqDiff, Nat.reduceBEq, Nat.reduceBNe, Int.reduceNeg, Int.reduceToNat, Bool.or_false, Bool.false_or, Bool.or_true, Bool.true_or, BEq.rfl, Bool.not_eq_true, Bool.not_eq_false, decide_eq_true_eq, not_true_eq_false, not_false_eq_true, ite_true, ite_false, List.append_nil, and_assoc, Nat.mul_zero, Nat.zero_mul, ir35]
  intro X
  refine ⟨fun hn => ?_, fun hy => ?_⟩
  · have e : ¬ (⟨w, h, R, G, B⟩ : Im).Eq ⟨w', h', R', G', B'⟩ := fun H => by
      obtain ⟨a, b, c, d, f⟩ := H
      simp only at a b c d f
      subst a b c d f
      simp at hn
    refine postF.mk' (fun _ => default) [some 0, some 1, some 2, some 3, some 4, some 5] ?_
    simp -implicitDefEqProofs only [push_cast, false_implies, reduceCtorEq, Classical.not_not, Nat.reduceAdd, Nat.reduceSub, Nat.reduceMul, Nat.reduceLeDiff, Nat.reduceLT, Nat.reduceEqDiff, Nat.reduceBEq, Nat.reduceBNe, Int.reduceNeg, Int.reduceToNat, Bool.or_false, Bool.false_or, Bool.or_true, Bool.true_or, BEq.rfl, Bool.not_eq_true, Bool.not_eq_false, decide_eq_true_eq, not_true_eq_false, not_false_eq_true, ite_true, ite_false, List.append_nil, and_assoc, Nat.mul_zero, Nat.zero_mul, fs35, e, decide_false]
  obtain ⟨q1, q2, q3, q4, q5⟩ : w = w' ∧ h = h' ∧ R.length = R'.length ∧ G.length = G'.length ∧ B.length = B'.length := by omega
  refine evS_loop _ _ _ (lp35 5 R R' (M35 w h w' h' R G B R' G' B' L1 L2 L3 M1 M2 M3 (X 0 10) (X 1 11)) (X 0 10) (X 1 11)) (0 : Nat) ⟨Nat.zero_le _, fun j hj => absurd hj (Nat.not_lt_zero _)⟩ ?_ ?_
  · change Sub _ _ ((lp35 5 R R' (M35 w h w' h' R G B R' G' B' L1 L2 L3 M1 M2 M3 (X 0 10) (X 1 11)) (X 0 10) (X 1 11)).I (0 : Nat)).1 ((lp35 5 R R' (M35 w h w' h' R G B R' G' B' L1 L2 L3 M1 M2 M3 (X 0 10) (X 1 11)) (X 0 10) (X 1 11)).I (0 : Nat)).2
    refine Sub.of (mkG 18 [(0, 0), (1, 1), (2, 2), (3, 3), (4, 4), (5, 5), (10, 10), (11, 11)]) ?_
    simp -implicitDefEqProofs only [push_cast, false_implies, reduceCtorEq, Classical.not_not, Nat.reduceAdd, Nat.reduceSub, Nat.reduceMul, Nat.reduceLeDiff, Nat.reduceLT, Nat.reduceEqDiff, Nat.reduceBEq, Nat.reduceBNe, Int.reduceNeg, Int.reduceToNat, Bool.or_false, Bool.false_or, Bool.or_true, Bool.true_or, BEq.rfl, Bool.not_eq_true, Bool.not_eq_false, decide_eq_true_eq, not_true_eq_false, not_false_eq_true, ite_true, ite_false, List.append_nil, and_assoc, Nat.mul_zero, Nat.zero_mul, lp35, M35]
  intro (i : Nat) ⟨(hi : i ≤ R.length), (hj : ∀ j, j < i → rd R (j : Nat) = rd R' (j : Nat))⟩
  change evS _ _ _ _ (mkS 101 [(2, .ptr 10 (X 0 10) 0 0 0), (3, .ptr 11 (X 1 11) 0 0 0), (5, .int .i64 i)]) (M35 w h w' h' R G B R' G' B' L1 L2 L3 M1 M2 M3 (X 0 10) (X 1 11))
  simp -implicitDefEqProofs only [push_cast, false_implies, reduceCtorEq, Classical.not_not, Nat.reduceAdd, Nat.reduceSub, Nat.reduceMul, Nat.reduceLeDiff, Nat.reduceLT, Nat.reduceEqDiff, Nat.reduceBEq, Nat.reduceBNe, Int.reduceNeg, Int.reduceToNat, Bool.or_false, Bool.false_or, Bool.or_true, Bool.true_or, BEq.rfl, Bool.not_eq_true, Bool.not_eq_false, decide_eq_true_eq, not_true_eq_false, not_false_eq_true, ite_true, ite_false, List.append_nil, and_assoc, Nat.mul_zero, Nat.zero_mul, M35, b35_1, r35_6]
  refine ⟨fun hl => ⟨by omega, by omega, by omega, by omega, by omega, by omega, by omega, by omega, fun hb => ?_, fun hg => ⟨by omega, by omega, ?_⟩⟩, fun hl => ?_⟩
  · have e : ¬ (⟨w, h, R, G, B⟩ : Im).Eq ⟨w', h', R', G', B'⟩ := fun H => by
      obtain ⟨a, b, c, d, f⟩ := H
      simp only at a b c d f
      subst a b c d f
      simp at hb
    refine postF.mk' (fun _ => default) [some 0, some 1, some 2, some 3, some 4, some 5] ?_
    simp -implicitDefEqProofs only [push_cast, false_implies, reduceCtorEq, Classical.not_not, Nat.reduceAdd, Nat.reduceSub, Nat.reduceMul, Nat.reduceLeDiff, Nat.reduceLT, Nat.reduceEqDiff, Nat.reduceBEq, Nat.reduceBNe, Int.reduceNeg, Int.reduceToNat, Bool.or_false, Bool.false_or, Bool.or_true, Bool.true_or, BEq.rfl, Bool.not_eq_true, Bool.not_eq_false, decide_eq_true_eq, not_true_eq_false, not_false_eq_true, ite_true, ite_false, List.append_nil, and_assoc, Nat.mul_zero, Nat.zero_mul, fs35, e, decide_false]
  · refine lpK_mk (i + 1 : Nat) ⟨by omega, fun j h => ?_⟩ (show R.length - (i + 1) < R.length - i by omega) ?_
    · by_cases e : j = i
      · subst e; exact hg
      · exact hj j (by omega)
    · change Sub _ _ ((lp35 5 R R' (M35 w h w' h' R G B R' G' B' L1 L2 L3 M1 M2 M3 (X 0 10) (X 1 11)) (X 0 10) (X 1 11)).I (i + 1 : Nat)).1 ((lp35 5 R R' (M35 w h w' h' R G B R' G' B' L1 L2 L3 M1 M2 M3 (X 0 10) (X 1 11)) (X 0 10) (X 1 11)).I (i + 1 : Nat)).2
      simp -implicitDefEqProofs only [push_cast, false_implies, reduceCtorEq, Classical.not_not, Nat.reduceAdd, Nat.reduceSub, Nat.reduceMul, Nat.reduceLeDiff, Nat.reduceLT, Nat.reduceEqDiff, Nat.reduceBEq, Nat.reduceBNe, Int.reduceNeg, Int.reduceToNat, Bool.or_false, Bool.false_or, Bool.or_true, Bool.true_or, BEq.rfl, Bool.not_eq_true, Bool.not_eq_false, decide_eq_true_eq, not_true_eq_false, not_false_eq_true, ite_true, ite_false, List.append_nil, and_assoc, Nat.mul_zero, Nat.zero_mul, lp35, M35]
      exact Sub.refl _ _
  have eqR : R = R' := eq_of_rd q3 fun j h => hj j (by omega)
  clear hj
  refine evS_loop _ _ _ (lp35 6 G G' (M35 w h w' h' R G B R' G' B' L1 L2 L3 M1 M2 M3 (X 0 10) (X 1 11)) (X 0 10) (X 1 11)) (0 : Nat) ⟨Nat.zero_le _, fun j hj => absurd hj (Nat.not_lt_zero _)⟩ ?_ ?_
  · change Sub _ _ ((lp35 6 G G' (M35 w h w' h' R G B R' G' B' L1 L2 L3 M1 M2 M3 (X 0 10) (X 1 11)) (X 0 10) (X 1 11)).I (0 : Nat)).1 ((lp35 6 G G' (M35 w h w' h' R G B R' G' B' L1 L2 L3 M1 M2 M3 (X 0 10) (X 1 11)) (X 0 10) (X 1 11)).I (0 : Nat)).2
    refine Sub.of (mkG 18 [(0, 0), (1, 1), (2, 2), (3, 3), (4, 4), (5, 5), (10, 10), (11, 11)]) ?_
    simp -implicitDefEqProofs only [push_cast, false_implies, reduceCtorEq, Classical.not_not, Nat.reduceAdd, Nat.reduceSub, Nat.reduceMul, Nat.reduceLeDiff, Nat.reduceLT, Nat.reduceEqDiff, Nat.reduceBEq, Nat.reduceBNe, Int.reduceNeg, Int.reduceToNat, Bool.or_false, Bool.false_or, Bool.or_true, Bool.true_or, BEq.rfl, Bool.not_eq_true, Bool.not_eq_false, decide_eq_true_eq, not_true_eq_false, not_false_eq_true, ite_true, ite_false, List.append_nil, and_assoc, Nat.mul_zero, Nat.zero_mul, lp35, M35]
  intro (i : Nat) ⟨(hi : i ≤ G.length), (hj : ∀ j, j < i → rd G (j : Nat) = rd G' (j : Nat))⟩
  change evS _ _ _ _ (mkS 101 [(2, .ptr 10 (X 0 10) 0 0 0), (3, .ptr 11 (X 1 11) 0 0 0), (6, .int .i64 i)]) (M35 w h w' h' R G B R' G' B' L1 L2 L3 M1 M2 M3 (X 0 10) (X 1 11))
  simp -implicitDefEqProofs only [push_cast, false_implies, reduceCtorEq, Classical.not_not, Nat.reduceAdd, Nat.reduceSub, Nat.reduceMul, Nat.reduceLeDiff, Nat.reduceLT, Nat.reduceEqDiff, Nat.reduceBEq, Nat.reduceBNe, Int.reduceNeg, Int.reduceToNat, Bool.or_false, Bool.false_or, Bool.or_true, Bool.true_or, BEq.rfl, Bool.not_eq_true, Bool.not_eq_false, decide_eq_true_eq, not_true_eq_false, not_false_eq_true, ite_true, ite_false, List.append_nil, and_assoc, Nat.mul_zero, Nat.zero_mul, M35, b35_2, r35_5]
  refine ⟨fun hl => ⟨by omega, by omega, by omega, by omega, by omega, by omega, by omega, by omega, fun hb => ?_, fun hg => ⟨by omega, by omega, ?_⟩⟩, fun hl => ?_⟩
  · have e : ¬ (⟨w, h, R, G, B⟩ : Im).Eq ⟨w', h', R', G', B'⟩ := fun H => by
      obtain ⟨a, b, c, d, f⟩ := H
      simp only at a b c d f
      subst a b c d f
      simp at hb
    refine postF.mk' (fun _ => default) [some 0, some 1, some 2, some 3, some 4, some 5] ?_
    simp -implicitDefEqProofs only [push_cast, false_implies, reduceCtorEq, Classical.not_not, Nat.reduceAdd, Nat.reduceSub, Nat.reduceMul, Nat.reduceLeDiff, Nat.reduceLT, Nat.reduceEqDiff, Nat.reduceBEq, Nat.reduceBNe, Int.reduceNeg, Int.reduceToNat, Bool.or_false, Bool.false_or, Bool.or_true, Bool.true_or, BEq.rfl, Bool.not_eq_true, Bool.not_eq_false, decide_eq_true_eq, not_true_eq_false, not_false_eq_true, ite_true, ite_false, List.append_nil, and_assoc, Nat.mul_zero, Nat.zero_mul, fs35, e, decide_false]
  · refine lpK_mk (i + 1 : Nat) ⟨by omega, fun j h => ?_⟩ (show G.length - (i + 1) < G.length - i by omega) ?_
    · by_cases e : j = i
      · subst e; exact hg
      · exact hj j (by omega)
    · change Sub _ _ ((lp35 6 G G' (M35 w h w' h' R G B R' G' B' L1 L2 L3 M1 M2 M3 (X 0 10) (X 1 11)) (X 0 10) (X 1 11)).I (i + 1 : Nat)).1 ((lp35 6 G G' (M35 w h w' h' R G B R' G' B' L1 L2 L3 M1 M2 M3 (X 0 10) (X 1 11)) (X 0 10) (X 1 11)).I (i + 1 : Nat)).2
      simp -implicitDefEqProofs only [push_cast, false_implies, reduceCtorEq, Classical.not_not, Nat.reduceAdd, Nat.reduceSub, Nat.reduceMul, Nat.reduceLeDiff, Nat.reduceLT, Nat.reduceEqDiff, Nat.reduceBEq, Nat.reduceBNe, Int.reduceNeg, Int.reduceToNat, Bool.or_false, Bool.false_or, Bool.or_true, Bool.true_or, BEq.rfl, Bool.not_eq_true, Bool.not_eq_false, decide_eq_true_eq, not_true_eq_false, not_false_eq_true, ite_true, ite_false, List.append_nil, and_assoc, Nat.mul_zero, Nat.zero_mul, lp35, M35]
      exact Sub.refl _ _
  have eqG : G = G' := eq_of_rd q4 fun j h => hj j (by omega)
  clear hj
  refine evS_loop _ _ _ (lp35 7 B B' (M35 w h w' h' R G B R' G' B' L1 L2 L3 M1 M2 M3 (X 0 10) (X 1 11)) (X 0 10) (X 1 11)) (0 : Nat) ⟨Nat.zero_le _, fun j hj => absurd hj (Nat.not_lt_zero _)⟩ ?_ ?_
  · change Sub _ _ ((lp35 7 B B' (M35 w h w' h' R G B R' G' B' L1 L2 L3 M1 M2 M3 (X 0 10) (X 1 11)) (X 0 10) (X 1 11)).I (0 : Nat)).1 ((lp35 7 B B' (M35 w h w' h' R G B R' G' B' L1 L2 L3 M1 M2 M3 (X 0 10) (X 1 11)) (X 0 10) (X 1 11)).I (0 : Nat)).2
    refine Sub.of (mkG 18 [(0, 0), (1, 1), (2, 2), (3, 3), (4, 4), (5, 5), (10, 10), (11, 11)]) ?_
    simp -implicitDefEqProofs only [push_cast, false_implies, reduceCtorEq, Classical.not_not, Nat.reduceAdd, Nat.reduceSub, Nat.reduceMul, Nat.reduceLeDiff, Nat.reduceLT, Nat.reduceEqDiff, Nat.reduceBEq, Nat.reduceBNe, Int.reduceNeg, Int.reduceToNat, Bool.or_false, Bool.false_or, Bool.or_true, Bool.true_or, BEq.rfl, Bool.not_eq_true, Bool.not_eq_false, decide_eq_true_eq, not_true_eq_false, not_false_eq_true, ite_true, ite_false, List.append_nil, and_assoc, Nat.mul_zero, Nat.zero_mul, lp35, M35]
  intro (i : Nat) ⟨(hi : i ≤ B.length), (hj : ∀ j, j < i → rd B (j : Nat) = rd B' (j : Nat))⟩
  change evS _ _ _ _ (mkS 101 [(2, .ptr 10 (X 0 10) 0 0 0), (3, .ptr 11 (X 1 11) 0 0 0), (7, .int .i64 i)]) (M35 w h w' h' R G B R' G' B' L1 L2 L3 M1 M2 M3 (X 0 10) (X 1 11))
  simp -implicitDefEqProofs only [push_cast, false_implies, reduceCtorEq, Classical.not_not, Nat.reduceAdd, Nat.reduceSub, Nat.reduceMul, Nat.reduceLeDiff, Nat.reduceLT, Nat.reduceEqDiff, Nat.reduceBEq, Nat.reduceBNe, Int.reduceNeg, Int.reduceToNat, Bool.or_false, Bool.false_or, Bool.or_true, Bool.true_or, BEq.rfl, Bool.not_eq_true, Bool.not_eq_false, decide_eq_true_eq, not_true_eq_false, not_false_eq_true, ite_true, ite_false, List.append_nil, and_assoc, Nat.mul_zero, Nat.zero_mul, M35, b35_3, r35_4]
  refine ⟨fun hl => ⟨by omega, by omega, by omega, by omega, by omega, by omega, by omega, by omega, fun hb => ?_, fun hg => ⟨by omega, by omega, ?_⟩⟩, fun hl => ?_⟩
  · have e : ¬ (⟨w, h, R, G, B⟩ : Im).Eq ⟨w', h', R', G', B'⟩ := fun H => by
      obtain ⟨a, b, c, d, f⟩ := H
      simp only at a b c d f
      subst a b c d f
      simp at hb
    refine postF.mk' (fun _ => default) [some 0, some 1, some 2, some 3, some 4, some 5] ?_
    simp -implicitDefEqProofs only [push_cast, false_implies, reduceCtorEq, Classical.not_not, Nat.reduceAdd, Nat.reduceSub, Nat.reduceMul, Nat.reduceLeDiff, Nat.reduceLT, Nat.reduceEqDiff, Nat.reduceBEq, Nat.reduceBNe, Int.reduceNeg, Int.reduceToNat, Bool.or_false, Bool.false_or, Bool.or_true, Bool.true_or, BEq.rfl, Bool.not_eq_true, Bool.not_eq_false, decide_eq_true_eq, not_true_eq_false, not_false_eq_true, ite_true, ite_false, List.append_nil, and_assoc, Nat.mul_zero, Nat.zero_mul, fs35, e, decide_false]
  · refine lpK_mk (i + 1 : Nat) ⟨by omega, fun j h => ?_⟩ (show B.length - (i + 1) < B.length - i by omega) ?_
    · by_cases e : j = i
      · subst e; exact hg
      · exact hj j (by omega)
    · change Sub _ _ ((lp35 7 B B' (M35 w h w' h' R G B R' G' B' L1 L2 L3 M1 M2 M3 (X 0 10) (X 1 11)) (X 0 10) (X 1 11)).I (i + 1 : Nat)).1 ((lp35 7 B B' (M35 w h w' h' R G B R' G' B' L1 L2 L3 M1 M2 M3 (X 0 10) (X 1 11)) (X 0 10) (X 1 11)).I (i + 1 : Nat)).2
      simp -implicitDefEqProofs only [push_cast, false_implies, reduceCtorEq, Classical.not_not, Nat.reduceAdd, Nat.reduceSub, Nat.reduceMul, Nat.reduceLeDiff, Nat.reduceLT, Nat.reduceEqDiff, Nat.reduceBEq, Nat.reduceBNe, Int.reduceNeg, Int.reduceToNat, Bool.or_false, Bool.false_or, Bool.or_true, Bool.true_or, BEq.rfl, Bool.not_eq_true, Bool.not_eq_false, decide_eq_true_eq, not_true_eq_false, not_false_eq_true, ite_true, ite_false, List.append_nil, and_assoc, Nat.mul_zero, Nat.zero_mul, lp35, M35]
      exact Sub.refl _ _
  have eqB : B = B' := eq_of_rd q5 fun j h => hj j (by omega)
  clear hj
  have e : (⟨w, h, R, G, B⟩ : Im).Eq ⟨w', h', R', G', B'⟩ := ⟨q1, q2, eqR, eqG, eqB⟩
  refine postF.mk' (fun _ => default) [some 0, some 1, some 2, some 3, some 4, some 5] ?_
  simp -implicitDefEqProofs only [push_cast, false_implies, reduceCtorEq, Classical.not_not, Nat.reduceAdd, Nat.reduceSub, Nat.reduceMul, Nat.reduceLeDiff, Nat.reduceLT, Nat.reduceEqDiff, Nat.reduceBEq, Nat.reduceBNe, Int.reduceNeg, Int.reduceToNat, Bool.or_false, Bool.false_or, Bool.or_true, Bool.true_or, BEq.rfl, Bool.not_eq_true, Bool.not_eq_false, decide_eq_true_eq, not_true_eq_false, not_false_eq_true, ite_true, ite_false, List.append_nil, and_assoc, Nat.mul_zero, Nat.zero_mul, fs35, e, decide_true]
def ent35 : Entry := spOf fs35 inv35
theorem e35 : EntryOk Try.prog 35 ent35 := entry_of ok35 inv35
@[push_cast] theorem ent35_app (us : List SV) (look : Look) (x : Nat → Xf.Loc) (k : Nat) : ent35 us look x k = spOf fs35 inv35 us look x k := rfl
def ir59 : IR :=
  .seq (.reg false [⟨some 4, none, ⟨[], []⟩, .alloc 10 [.int .i64 0, .int .i64 0, nilSV]⟩] [] []) (.seq (.reg false [⟨some 5, none, ⟨[], []⟩, .mov (.t 0)⟩,
    ⟨some 6, none, ⟨[], []⟩, .mov (.t 1)⟩,
    ⟨some 7, none, ⟨[], []⟩, .mov (.t 0)⟩,
    ⟨some 8, none, ⟨[], []⟩, .mov (.t 1)⟩,
    ⟨some 9, none, ⟨[], []⟩, .bin 0 .mul (.t 7) (.t 8)⟩,
    ⟨some 10, none, ⟨[], []⟩, .mks 11 (.int .i64 0) 8 (.t 9) (.t 9)⟩,
    ⟨some 11, none, ⟨[], []⟩, .build [.int .i64 0, .int .i64 0, nilSV] [(0, 1, .t 5), (1, 1, .t 6), (2, 1, .t 10)]⟩,
    ⟨none, none, ⟨[], []⟩, .sto false 3 .i64 (.t 4) (.t 11)⟩] [0, 1, 5, 6, 7, 8, 9, 10, 11] []) (.ret))
set_option maxRecDepth 4000 in
theorem comp59 : (Try.f59.body.bind fun c => compC tab isP chkAll ir59 c) = some ir59 := by kernel_rfl
def b33_1 : IR :=
  .seq (.reg false [⟨some 32, none, ⟨[], []⟩, .bin 0 .lss (.t 31) (.t 30)⟩] [] []) (.seq (.cond (.t 32) (.skip) (.exit 0)) (.seq (.block 1 (.seq (.reg false [⟨some 33, none, ⟨[], []⟩, .mov (.t 31)⟩,
    ⟨some 6, none, ⟨[], []⟩, .mov (.t 33)⟩] [32, 33] []) (.seq (.reg true [⟨some 34, none, ⟨[], []⟩, .fld (.t 2) 2⟩,
    ⟨some 35, none, ⟨[], []⟩, .ld false none 0 0 (.t 34)⟩,
    ⟨some 36, none, ⟨[], []⟩, .mov (.t 6)⟩,
    ⟨some 37, none, ⟨[], []⟩, .fld (.t 1) 2⟩,
    ⟨some 38, none, ⟨[], []⟩, .ld false none 0 0 (.t 37)⟩,
    ⟨some 39, none, ⟨[], []⟩, .mov (.t 6)⟩,
    ⟨some 40, none, ⟨[], []⟩, .idxS (.t 38) (.t 39) 1⟩,
    ⟨some 41, none, ⟨[], []⟩, .ld true none 0 0 (.t 40)⟩,
    ⟨some 42, none, ⟨[], []⟩, .fld (.t 1) 3⟩,
    ⟨some 43, none, ⟨[], []⟩, .ld false none 0 0 (.t 42)⟩,
    ⟨some 44, none, ⟨[], []⟩, .mov (.t 6)⟩,
    ⟨some 45, none, ⟨[], []⟩, .idxS (.t 43) (.t 44) 1⟩,
    ⟨some 46, none, ⟨[], []⟩, .ld true none 0 0 (.t 45)⟩,
    ⟨some 47, none, ⟨[], []⟩, .bin 0 .mul (.k (.int .i64 2)) (.t 46)⟩,
    ⟨some 48, none, ⟨[], []⟩, .bin 0 .add (.t 41) (.t 47)⟩,
    ⟨some 49, none, ⟨[], []⟩, .fld (.t 1) 4⟩,
    ⟨some 50, none, ⟨[], []⟩, .ld false none 0 0 (.t 49)⟩,
    ⟨some 51, none, ⟨[], []⟩, .mov (.t 6)⟩,
    ⟨some 52, none, ⟨[], []⟩, .idxS (.t 50) (.t 51) 1⟩,
    ⟨some 53, none, ⟨[], []⟩, .ld true none 0 0 (.t 52)⟩,
    ⟨some 54, none, ⟨[], []⟩, .bin 0 .add (.t 48) (.t 53)⟩,
    ⟨some 55, none, ⟨[], []⟩, .bin 0 .quo (.t 54) (.k (.int .i64 4))⟩,
    ⟨some 56, none, ⟨[], []⟩, .idxS (.t 35) (.t 36) 1⟩,
    ⟨none, none, ⟨[], []⟩, .sto true 1 .i64 (.t 56) (.t 55)⟩] [34, 35, 36, 37, 38, 39, 40, 41, 42, 43, 44, 45, 46, 47, 48, 49, 50, 51, 52, 53, 54, 55, 56] []) (.seq (.reg true [⟨some 57, none, ⟨[], []⟩, .fld (.t 3) 2⟩,
    ⟨some 58, none, ⟨[], []⟩, .ld false none 0 0 (.t 57)⟩,
    ⟨some 59, none, ⟨[], []⟩, .mov (.t 6)⟩,
    ⟨some 60, none, ⟨[], []⟩, .fld (.t 1) 4⟩,
    ⟨some 61, none, ⟨[], []⟩, .ld false none 0 0 (.t 60)⟩,
    ⟨some 62, none, ⟨[], []⟩, .mov (.t 6)⟩,
    ⟨some 63, none, ⟨[], []⟩, .idxS (.t 61) (.t 62) 1⟩,
    ⟨some 64, none, ⟨[], []⟩, .ld true none 0 0 (.t 63)⟩,
    ⟨some 65, none, ⟨[], []⟩, .fld (.t 1) 3⟩,
    ⟨some 66, none, ⟨[], []⟩, .ld false none 0 0 (.t 65)⟩,
    ⟨some 67, none, ⟨[], []⟩, .mov (.t 6)⟩,
    ⟨some 68, none, ⟨[], []⟩, .idxS (.t 66) (.t 67) 1⟩,
    ⟨some 69, none, ⟨[], []⟩, .ld true none 0 0 (.t 68)⟩,
    ⟨some 70, none, ⟨[], []⟩, .bin 0 .sub (.t 64) (.t 69)⟩,
    ⟨some 71, none, ⟨[], []⟩, .idxS (.t 58) (.t 59) 1⟩,
    ⟨none, none, ⟨[], []⟩, .sto true 1 .i64 (.t 71) (.t 70)⟩] [57, 58, 59, 60, 61, 62, 63, 64, 65, 66, 67, 68, 69, 70, 71] []) (.reg true [⟨some 72, none, ⟨[], []⟩, .fld (.t 4) 2⟩,
    ⟨some 73, none, ⟨[], []⟩, .ld false none 0 0 (.t 72)⟩,
    ⟨some 74, none, ⟨[], []⟩, .mov (.t 6)⟩,
    ⟨some 75, none, ⟨[], []⟩, .fld (.t 1) 2⟩,
    ⟨some 76, none, ⟨[], []⟩, .ld false none 0 0 (.t 75)⟩,
    ⟨some 77, none, ⟨[], []⟩, .mov (.t 6)⟩,
    ⟨some 78, none, ⟨[], []⟩, .idxS (.t 76) (.t 77) 1⟩,
    ⟨some 79, none, ⟨[], []⟩, .ld true none 0 0 (.t 78)⟩,
    ⟨some 80, none, ⟨[], []⟩, .fld (.t 1) 3⟩,
    ⟨some 81, none, ⟨[], []⟩, .ld false none 0 0 (.t 80)⟩,
    ⟨some 82, none, ⟨[], []⟩, .mov (.t 6)⟩,
    ⟨some 83, none, ⟨[], []⟩, .idxS (.t 81) (.t 82) 1⟩,
    ⟨some 84, none, ⟨[], []⟩, .ld true none 0 0 (.t 83)⟩,
    ⟨some 85, none, ⟨[], []⟩, .bin 0 .sub (.t 79) (.t 84)⟩,
    ⟨some 86, none, ⟨[], []⟩, .idxS (.t 73) (.t 74) 1⟩,
    ⟨none, none, ⟨[], []⟩, .sto true 1 .i64 (.t 86) (.t 85)⟩] [6, 72, 73, 74, 75, 76, 77, 78, 79, 80, 81, 82, 83, 84, 85, 86] []))))) (.reg false [⟨some 87, none, ⟨[], []⟩, .bin 0 .add (.t 31) (.k (.int .i64 1))⟩,
    ⟨some 31, none, ⟨[], []⟩, .mov (.t 87)⟩] [87] [])))
def r33_2 : IR :=
  .seq (.reg true [⟨some 88, none, ⟨[], []⟩, .ld false (some 3) 0 0 (.t 2)⟩,
    ⟨some 89, none, ⟨[11], []⟩, .ld false (some 3) 0 0 (.t 3)⟩,
    ⟨some 90, none, ⟨[11, 12], []⟩, .ld false (some 3) 0 0 (.t 4)⟩,
    ⟨none, none, ⟨[], [11]⟩, .sto false 3 .i64 (.t 2) (.t 88)⟩,
    ⟨none, none, ⟨[], [12]⟩, .sto false 3 .i64 (.t 3) (.t 89)⟩,
    ⟨none, none, ⟨[], []⟩, .sto false 3 .i64 (.t 4) (.t 90)⟩,
    ⟨some 5, none, ⟨[], []⟩, .mov (.k (.int .i64 0))⟩] [1, 30, 31, 88, 89, 90] []) (.ret)
def ir33 : IR :=
  .seq (.reg false [⟨some 1, none, ⟨[], []⟩, .box 10 (.t 0)⟩,
    ⟨some 2, none, ⟨[], []⟩, .alloc 11 [.int .i64 0, .int .i64 0, nilSV]⟩,
    ⟨some 3, none, ⟨[], []⟩, .alloc 12 [.int .i64 0, .int .i64 0, nilSV]⟩,
    ⟨some 4, none, ⟨[], []⟩, .alloc 13 [.int .i64 0, .int .i64 0, nilSV]⟩,
    ⟨some 5, none, ⟨[], []⟩, .mov (.k (.int .i64 0))⟩] [0, 5] []) (.seq (.seq (.reg false [⟨some 7, none, ⟨[], []⟩, .ld false (some 5) 0 0 (.t 1)⟩,
    ⟨some 8, none, ⟨[], []⟩, .call (some 4) 14 58 [.t 7]⟩,
    ⟨some 9, none, ⟨[], []⟩, .not (.t 8)⟩] [7, 8] []) (.cond (.t 9) (.seq (.reg true [⟨some 10, none, ⟨[], []⟩, .ld false (some 3) 0 0 (.t 2)⟩,
    ⟨some 11, none, ⟨[11], []⟩, .ld false (some 3) 0 0 (.t 3)⟩,
    ⟨some 12, none, ⟨[11, 12], []⟩, .ld false (some 3) 0 0 (.t 4)⟩,
    ⟨none, none, ⟨[], [11]⟩, .sto false 3 .i64 (.t 2) (.t 10)⟩,
    ⟨none, none, ⟨[], [12]⟩, .sto false 3 .i64 (.t 3) (.t 11)⟩,
    ⟨none, none, ⟨[], []⟩, .sto false 3 .i64 (.t 4) (.t 12)⟩,
    ⟨some 5, none, ⟨[], []⟩, .mov (.k (.int .i64 75))⟩] [1, 9, 10, 11, 12] []) (.ret)) (.skip))) (.seq (.reg true [⟨some 13, none, ⟨[], []⟩, .fld (.t 1) 0⟩,
    ⟨some 14, none, ⟨[], []⟩, .ld false none 0 0 (.t 13)⟩,
    ⟨some 15, none, ⟨[], []⟩, .fld (.t 1) 1⟩,
    ⟨some 16, none, ⟨[], []⟩, .ld false none 0 0 (.t 15)⟩,
    ⟨some 17, none, ⟨[], []⟩, .call (some 4) 18 59 [.t 14, .t 16]⟩,
    ⟨some 18, none, ⟨[], []⟩, .fld (.t 1) 0⟩,
    ⟨some 19, none, ⟨[18, 19, 20, 21], []⟩, .ld false none 0 0 (.t 18)⟩,
    ⟨some 20, none, ⟨[], []⟩, .fld (.t 1) 1⟩,
    ⟨some 21, none, ⟨[18, 19, 20, 21], []⟩, .ld false none 0 0 (.t 20)⟩,
    ⟨some 22, none, ⟨[], []⟩, .call (some 4) 22 59 [.t 19, .t 21]⟩,
    ⟨some 23, none, ⟨[], []⟩, .fld (.t 1) 0⟩,
    ⟨some 24, none, ⟨[18, 19, 20, 21, 22, 23, 24, 25], []⟩, .ld false none 0 0 (.t 23)⟩,
    ⟨some 25, none, ⟨[], []⟩, .fld (.t 1) 1⟩,
    ⟨some 26, none, ⟨[18, 19, 20, 21, 22, 23, 24, 25], []⟩, .ld false none 0 0 (.t 25)⟩,
    ⟨some 27, none, ⟨[], []⟩, .call (some 4) 26 59 [.t 24, .t 26]⟩,
    ⟨none, none, ⟨[], []⟩, .sto false 3 .i64 (.t 2) (.t 17)⟩,
    ⟨none, none, ⟨[], []⟩, .sto false 3 .i64 (.t 3) (.t 22)⟩,
    ⟨none, none, ⟨[], []⟩, .sto false 3 .i64 (.t 4) (.t 27)⟩] [5, 9, 13, 14, 15, 16, 17, 18, 19, 20, 21, 22, 23, 24, 25, 26, 27] []) (.seq (.seq (.reg false [⟨some 28, none, ⟨[], []⟩, .fld (.t 1) 2⟩,
    ⟨some 29, none, ⟨[], []⟩, .ld false none 0 0 (.t 28)⟩,
    ⟨some 30, none, ⟨[], []⟩, .len (.t 29)⟩,
    ⟨some 31, none, ⟨[], []⟩, .mov (.k (.int .i64 0))⟩] [28, 29] []) (.block 0 (.loop b33_1))) (r33_2))))
set_option maxRecDepth 4000 in
theorem comp33 : (Try.f33.body.bind fun c => compC tab isP chkAll ir33 c) = some ir33 := by kernel_rfl
structure Pl where
  w : Int
  h : Int
  xs : List Int
def plV (p : Pl) (L : Xf.Loc) (c : Nat) : SV := .agg [.int .i64 p.w, .int .i64 p.h, .sl c L 1 0 p.xs.length]
attribute [push_cast] plV
def pl0 : Pl := ⟨0, 0, []⟩
def fs59 : FS where
  A := WH
  args := fun a => [.int .i64 a.w, .int .i64 a.h]
  mem := fun _ => []
  pre := fun a => SidesOk a.w a.h
  res := fun a x => .agg [.int .i64 a.w, .int .i64 a.h, .sl 0 (x 0) 1 0 (a.w * a.h)]
  out := fun _ _ => []
  new := fun a x => [(x 0, .ints .i64 (zs (a.w * a.h)))]
theorem ok59 : FSOk Try.prog 59 fs59 := by
  refine ⟨⟨_, Try.func59, by kernel_rfl, by kernel_rfl⟩, fun a => ⟨by simp [fs59, push_cast, noMine, argOwn, Chunk.frArg], by simp [fs59, push_cast, outOk, Chunk.ext], fun x => .inl (by simp [fs59, push_cast, frNew, frOut, Chunk.fr])⟩, fun a hp => ?_⟩
  obtain ⟨w, h⟩ := a
  change SidesOk w h at hp
  change Tri Try.prog 59 [.int .i64 w, .int .i64 h] [] (postF fs59 ⟨w, h⟩)
  refine tri_evS (hyp (l := []) (lp := []) trivial trivial) Try.func59 comp59 (rs := [.cell 4 (some 3)]) (by rfl) Try.ntmps59 14 ?_
  simp -implicitDefEqProofs only [push_cast, false_implies, reduceCtorEq, Classical.not_not, Nat.reduceAdd, Nat.reduceSub, Nat.reduceMul, Nat.reduceLeDiff, Nat.reduceLT, Nat.reduceEqDiff, Nat.reduceBEq, Nat.reduceBNe, Int.reduceNeg, Int.reduceToNat, Bool.or_false, Bool.false_or, Bool.or_true, Bool.true_or, BEq.rfl, Bool.not_eq_true, Bool.not_eq_false, decide_eq_true_eq, not_true_eq_false, not_false_eq_true, ite_true, ite_false, List.append_nil, and_assoc, Nat.mul_zero, Nat.zero_mul, ir59]
  have hm := hp.bd
  intro X X1
  refine ⟨by omega, by omega, by omega, by omega, by omega, postF.mk' (locs [X1 5 11]) [some 11] ?_⟩
  simp -implicitDefEqProofs only [push_cast, false_implies, reduceCtorEq, Classical.not_not, Nat.reduceAdd, Nat.reduceSub, Nat.reduceMul, Nat.reduceLeDiff, Nat.reduceLT, Nat.reduceEqDiff, Nat.reduceBEq, Nat.reduceBNe, Int.reduceNeg, Int.reduceToNat, Bool.or_false, Bool.false_or, Bool.or_true, Bool.true_or, BEq.rfl, Bool.not_eq_true, Bool.not_eq_false, decide_eq_true_eq, not_true_eq_false, not_false_eq_true, ite_true, ite_false, List.append_nil, and_assoc, Nat.mul_zero, Nat.zero_mul, fs59, zs]
def ent59 : Entry := spOf fs59 inv61
theorem e59 : EntryOk Try.prog 59 ent59 := entry_of ok59 inv61
@[push_cast] theorem ent59_app (us : List SV) (look : Look) (x : Nat → Xf.Loc) (k : Nat) : ent59 us look x k = spOf fs59 inv61 us look x k := rfl
/-- The planes of an image. -/
def tY (i : Im) : Nat → Int := fun k => (rd i.R (k : Nat) + 2 * rd i.G (k : Nat) + rd i.B (k : Nat)) / 4
def tU (i : Im) : Nat → Int := fun k => rd i.B (k : Nat) - rd i.G (k : Nat)
def tV (i : Im) : Nat → Int := fun k => rd i.R (k : Nat) - rd i.G (k : Nat)
def turn (f : Im → Nat → Int) (i : Im) : Pl := if i.Ok then ⟨i.w, i.h, tabl i.R.length (f i)⟩ else pl0
def fs33 : FS where
  A := ImA
  args := fun a => [imV a.i a.L1 a.L2 a.L3 0]
  mem := fun a => imM a.i a.L1 a.L2 a.L3
  pre := fun a => a.i.small
  res := fun a x => .tup [plV (turn tY a.i) (lx a.i.Ok x 0) 3, plV (turn tU a.i) (lx a.i.Ok x 1) 4, plV (turn tV a.i) (lx a.i.Ok x 2) 5, .int .i64 (if a.i.Ok then 0 else 75)]
  out := fun _ _ => []
  new := fun a x => [(lx a.i.Ok x 0, .ints .i64 (turn tY a.i).xs), (lx a.i.Ok x 1, .ints .i64 (turn tU a.i).xs), (lx a.i.Ok x 2, .ints .i64 (turn tV a.i).xs)]
def I33 (i : Im) (L1 L2 L3 L0 M1 M2 M3 N1 N2 N3 : Xf.Loc) (k : Nat) : List Ent × Mem :=
  (mkS 91 [(1, .ptr 10 L0 0 0 0), (2, .ptr 11 M1 0 0 0), (3, .ptr 12 M2 0 0 0), (4, .ptr 13 M3 0 0 0), (30, .int .i64 i.R.length), (31, .int .i64 k)],
    mkM 35 [(0, .ro, L1, .ints .i64 i.R), (1, .ro, L2, .ints .i64 i.G), (2, .ro, L3, .ints .i64 i.B), (10, .mine, L0, .cells [.int .i64 i.w, .int .i64 i.h, .sl 0 L1 1 0 i.R.length, .sl 1 L2 1 0 i.G.length, .sl 2 L3 1 0 i.B.length]),
      (11, .mine, M1, .cells [.int .i64 i.w, .int .i64 i.h, .sl 18 N1 1 0 (i.w * i.h)]), (12, .mine, M2, .cells [.int .i64 i.w, .int .i64 i.h, .sl 22 N2 1 0 (i.w * i.h)]), (13, .mine, M3, .cells [.int .i64 i.w, .int .i64 i.h, .sl 26 N3 1 0 (i.w * i.h)]),
      (18, .mine, N1, .ints .i64 (prt i.R.length k (tY i))), (22, .mine, N2, .ints .i64 (prt i.R.length k (tU i))), (26, .mine, N3, .ints .i64 (prt i.R.length k (tV i)))])
def lp33 (i : Im) (L1 L2 L3 L0 M1 M2 M3 N1 N2 N3 : Xf.Loc) : LoopS where
  A := Nat
  I := I33 i L1 L2 L3 L0 M1 M2 M3 N1 N2 N3
  R := fun k => k ≤ i.R.length
  mu := fun k => i.R.length - k
theorem Im.Ok.val {i : Im} (h : i.Ok) : i.G.length = i.R.length ∧ i.B.length = i.R.length ∧ ∀ k : Nat, k < i.R.length → (0 ≤ rd i.R (k : Nat) ∧ rd i.R (k : Nat) ≤ 255) ∧ (0 ≤ rd i.G (k : Nat) ∧ rd i.G (k : Nat) ≤ 255) ∧ (0 ≤ rd i.B (k : Nat) ∧ rd i.B (k : Nat) ≤ 255) := by
  obtain ⟨_, ⟨a, x⟩, ⟨b, y⟩, ⟨c, z⟩⟩ := h
  have e1 : i.G.length = i.R.length := by omega
  have e2 : i.B.length = i.R.length := by omega
  exact ⟨e1, e2, fun k hk => ⟨allVal_rd.1 x k hk, allVal_rd.1 y k (by omega), allVal_rd.1 z k (by omega)⟩⟩
theorem ok33 : FSOk Try.prog 33 fs33 := by
  refine ⟨⟨_, Try.func33, by kernel_rfl, by kernel_rfl⟩, fun a => ⟨by simp [fs33, imM, push_cast, noMine, argOwn, Chunk.frArg], by simp [fs33, imM, push_cast, outOk, Chunk.ext], fun x => .inl (by simp [fs33, imM, push_cast, frNew, frOut, Chunk.fr])⟩, fun a hp => ?_⟩
  obtain ⟨⟨w, h, R, G, B⟩, L1, L2, L3⟩ := a
  change (⟨w, h, R, G, B⟩ : Im).small at hp
  change Tri Try.prog 33 [imV ⟨w, h, R, G, B⟩ L1 L2 L3 0] (imM ⟨w, h, R, G, B⟩ L1 L2 L3) (postF fs33 ⟨⟨w, h, R, G, B⟩, L1, L2, L3⟩)
  refine tri_evS (hyp (l := [(58, ent58), (59, ent59)]) (lp := []) ⟨e58, e59, trivial⟩ trivial) Try.func33 comp33 (rs := [.cell 2 (some 3), .cell 3 (some 3), .cell 4 (some 3), .tmp 5]) (by rfl) Try.ntmps33 32 ?_
  simp -implicitDefEqProofs only [push_cast, false_implies, reduceCtorEq, Classical.not_not, Nat.reduceAdd, Nat.reduceSub, Nat.reduceMul, Nat.reduceLeDiff, Nat.reduceLT, Nat.reduceEqDiff, Nat.reduceBEq, Nat.reduceBNe, Int.reduceNeg, Int.reduceToNat, Bool.or_false, Bool.false_or, Bool.or_true, Bool.true_or, BEq.rfl, Bool.not_eq_true, Bool.not_eq_false, decide_eq_true_eq, not_true_eq_false, not_false_eq_true, ite_true, ite_false, List.append_nil, and_assoc, Nat.mul_zero, Nat.zero_mul, ir33, fs58, fs59]
  intro X
  refine ⟨hp, fun hn => ?_, fun hy X1 => ⟨hy.1, ?_⟩⟩
  · refine postF.mk' (fun _ => default) [some 0, some 1, some 2, none, none, none] ?_
    simp -implicitDefEqProofs only [push_cast, false_implies, reduceCtorEq, Classical.not_not, Nat.reduceAdd, Nat.reduceSub, Nat.reduceMul, Nat.reduceLeDiff, Nat.reduceLT, Nat.reduceEqDiff, Nat.reduceBEq, Nat.reduceBNe, Int.reduceNeg, Int.reduceToNat, Bool.or_false, Bool.false_or, Bool.or_true, Bool.true_or, BEq.rfl, Bool.not_eq_true, Bool.not_eq_false, decide_eq_true_eq, not_true_eq_false, not_false_eq_true, ite_true, ite_false, List.append_nil, and_assoc, Nat.mul_zero, Nat.zero_mul, fs33, turn, hn, if_false, lx, pl0]
  have hs : SidesOk w h := hy.1
  have hm := hs.bd
  have hl : (R.length : Int) = w * h := hy.2.1.1
  obtain ⟨e1, e2, hv⟩ := hy.val
  simp only at e1 e2 hv
  refine evS_loop _ _ _ (lp33 ⟨w, h, R, G, B⟩ L1 L2 L3 (X 0 10) (X 1 11) (X 2 12) (X 3 13) (X1 4 18) (X1 9 22) (X1 14 26)) (0 : Nat) (Nat.zero_le _) ?_ ?_
  · refine Sub.of (mkG 35 [(0, 0), (1, 1), (2, 2), (10, 10), (11, 11), (12, 12), (13, 13), (18, 18), (22, 22), (26, 26)]) ?_
    have ez : (w * h).toNat = R.length := by omega
    simp -implicitDefEqProofs only [push_cast, false_implies, reduceCtorEq, Classical.not_not, Nat.reduceAdd, Nat.reduceSub, Nat.reduceMul, Nat.reduceLeDiff, Nat.reduceLT, Nat.reduceEqDiff, Nat.reduceBEq, Nat.reduceBNe, Int.reduceNeg, Int.reduceToNat, Bool.or_false, Bool.false_or, Bool.or_true, Bool.true_or, BEq.rfl, Bool.not_eq_true, Bool.not_eq_false, decide_eq_true_eq, not_true_eq_false, not_false_eq_true, ite_true, ite_false, List.append_nil, and_assoc, Nat.mul_zero, Nat.zero_mul, lp33, I33, zs, prt_zero, ez]
  intro (k : Nat) (hk : k ≤ R.length)
  change evS _ _ _ _ (I33 ⟨w, h, R, G, B⟩ L1 L2 L3 (X 0 10) (X 1 11) (X 2 12) (X 3 13) (X1 4 18) (X1 9 22) (X1 14 26) k).1 (I33 ⟨w, h, R, G, B⟩ L1 L2 L3 (X 0 10) (X 1 11) (X 2 12) (X 3 13) (X1 4 18) (X1 9 22) (X1 14 26) k).2
  simp -implicitDefEqProofs only [push_cast, false_implies, reduceCtorEq, Classical.not_not, Nat.reduceAdd, Nat.reduceSub, Nat.reduceMul, Nat.reduceLeDiff, Nat.reduceLT, Nat.reduceEqDiff, Nat.reduceBEq, Nat.reduceBNe, Int.reduceNeg, Int.reduceToNat, Bool.or_false, Bool.false_or, Bool.or_true, Bool.true_or, BEq.rfl, Bool.not_eq_true, Bool.not_eq_false, decide_eq_true_eq, not_true_eq_false, not_false_eq_true, ite_true, ite_false, List.append_nil, and_assoc, Nat.mul_zero, Nat.zero_mul, I33, b33_1, r33_2]
  refine ⟨fun hk1 => ?_, fun hk1 => ?_⟩
  · have hk' : k < R.length := by omega
    obtain ⟨v1, v2, v3⟩ := hv k hk'
    have lY := prt_length hk (tY (⟨w, h, R, G, B⟩ : Im))
    have lU := prt_length hk (tU (⟨w, h, R, G, B⟩ : Im))
    have lV := prt_length hk (tV (⟨w, h, R, G, B⟩ : Im))
    repeat (refine ⟨by omega, ?_⟩)
    refine lpK_mk (k + 1 : Nat) hk' (show R.length - (k + 1) < R.length - k by omega) ?_
    have q1 : (prt R.length k (tY (⟨w, h, R, G, B⟩ : Im))).set k ((rd R k + 2 * rd G k + rd B k) / 4) = prt R.length (k + 1) (tY (⟨w, h, R, G, B⟩ : Im)) := prt_set hk' _
    have q2 : (prt R.length k (tU (⟨w, h, R, G, B⟩ : Im))).set k (rd B k - rd G k) = prt R.length (k + 1) (tU (⟨w, h, R, G, B⟩ : Im)) := prt_set hk' _
    have q3 : (prt R.length k (tV (⟨w, h, R, G, B⟩ : Im))).set k (rd R k - rd G k) = prt R.length (k + 1) (tV (⟨w, h, R, G, B⟩ : Im)) := prt_set hk' _
    refine Sub.of (mkG 35 [(0, 0), (1, 1), (2, 2), (10, 10), (11, 11), (12, 12), (13, 13), (18, 18), (22, 22), (26, 26)]) ?_
    simp -implicitDefEqProofs only [push_cast, false_implies, reduceCtorEq, Classical.not_not, Nat.reduceAdd, Nat.reduceSub, Nat.reduceMul, Nat.reduceLeDiff, Nat.reduceLT, Nat.reduceEqDiff, Nat.reduceBEq, Nat.reduceBNe, Int.reduceNeg, Int.reduceToNat, Bool.or_false, Bool.false_or, Bool.or_true, Bool.true_or, BEq.rfl, Bool.not_eq_true, Bool.not_eq_false, decide_eq_true_eq, not_true_eq_false, not_false_eq_true, ite_true, ite_false, List.append_nil, and_assoc, Nat.mul_zero, Nat.zero_mul, lp33, I33, Int.toNat_natCast, q1, q2, q3]
  · obtain rfl : k = R.length := by omega
    refine postF.mk' (locs [X1 4 18, X1 9 22, X1 14 26]) [some 0, some 1, some 2, some 18, some 22, some 26] ?_
    simp -implicitDefEqProofs only [push_cast, false_implies, reduceCtorEq, Classical.not_not, Nat.reduceAdd, Nat.reduceSub, Nat.reduceMul, Nat.reduceLeDiff, Nat.reduceLT, Nat.reduceEqDiff, Nat.reduceBEq, Nat.reduceBNe, Int.reduceNeg, Int.reduceToNat, Bool.or_false, Bool.false_or, Bool.or_true, Bool.true_or, BEq.rfl, Bool.not_eq_true, Bool.not_eq_false, decide_eq_true_eq, not_true_eq_false, not_false_eq_true, ite_true, ite_false, List.append_nil, and_assoc, Nat.mul_zero, Nat.zero_mul, fs33, turn, hy, if_true, lx, prt_all, tabl_length, hl]
def ent33 : Entry := spOf fs33 inv58
theorem e33 : EntryOk Try.prog 33 ent33 := entry_of ok33 inv58
@[push_cast] theorem ent33_app (us : List SV) (look : Look) (x : Nat → Xf.Loc) (k : Nat) : ent33 us look x k = spOf fs33 inv58 us look x k := rfl
structure CutA where
  a : ImA
  x : Int
  y : Int
  w : Int
  h : Int
def CutA.In (c : CutA) : Prop := 0 ≤ c.x ∧ 0 ≤ c.y ∧ 0 ≤ c.w ∧ 0 ≤ c.h ∧ c.x + c.w ≤ c.a.i.w ∧ c.y + c.h ≤ c.a.i.h
instance (c : CutA) : Decidable c.In := by unfold CutA.In; infer_instance
def CutA.Ok (c : CutA) : Prop := c.a.i.Ok ∧ c.In
instance (c : CutA) : Decidable c.Ok := by unfold CutA.Ok; infer_instance
def ir77 : IR :=
  .seq (.reg false [⟨some 4, none, ⟨[], []⟩, .mov (.k (.bool false))⟩] [4] []) (.seq (.reg false [⟨some 5, none, ⟨[], []⟩, .mov (.t 0)⟩,
    ⟨some 6, none, ⟨[], []⟩, .bin 0 .geq (.t 5) (.k (.int .i64 0))⟩,
    ⟨some 7, none, ⟨[], []⟩, .mov (.t 6)⟩,
    ⟨some 8, some (7, true), ⟨[], []⟩, .mov (.t 1)⟩,
    ⟨some 9, some (7, true), ⟨[], []⟩, .bin 0 .geq (.t 8) (.k (.int .i64 0))⟩,
    ⟨some 10, none, ⟨[], []⟩, .pick (.t 7) (.t 9) (.k (.bool false))⟩,
    ⟨some 11, none, ⟨[], []⟩, .mov (.t 10)⟩,
    ⟨some 12, some (11, true), ⟨[], []⟩, .mov (.t 0)⟩,
    ⟨some 13, some (11, true), ⟨[], []⟩, .bin 0 .leq (.t 12) (.k (.int .i64 200))⟩,
    ⟨some 14, none, ⟨[], []⟩, .pick (.t 11) (.t 13) (.k (.bool false))⟩,
    ⟨some 15, none, ⟨[], []⟩, .mov (.t 14)⟩,
    ⟨some 16, some (15, true), ⟨[], []⟩, .mov (.t 1)⟩,
    ⟨some 17, some (15, true), ⟨[], []⟩, .bin 0 .leq (.t 16) (.k (.int .i64 200))⟩,
    ⟨some 18, none, ⟨[], []⟩, .pick (.t 15) (.t 17) (.k (.bool false))⟩,
    ⟨some 4, none, ⟨[], []⟩, .mov (.t 18)⟩] [0, 1, 5, 6, 7, 8, 9, 10, 11, 12, 13, 14, 15, 16, 17, 18] []) (.ret))
set_option maxRecDepth 4000 in
theorem comp77 : (Try.f77.body.bind fun c => compC tab isP chkAll ir77 c) = some ir77 := by kernel_rfl
def ir78 : IR :=
  .seq (.reg false [⟨some 4, none, ⟨[], []⟩, .mov (.k (.bool false))⟩] [4] []) (.seq (.reg false [⟨some 5, none, ⟨[], []⟩, .mov (.t 0)⟩,
    ⟨some 6, none, ⟨[], []⟩, .ld false none 0 0 (.t 1)⟩,
    ⟨some 7, none, ⟨[], []⟩, .bin 0 .lss (.t 5) (.t 6)⟩,
    ⟨some 8, none, ⟨[], []⟩, .mov (.t 7)⟩,
    ⟨some 9, some (8, false), ⟨[], []⟩, .mov (.t 0)⟩,
    ⟨some 10, some (8, false), ⟨[], []⟩, .ld false none 0 0 (.t 2)⟩,
    ⟨some 11, some (8, false), ⟨[], []⟩, .bin 0 .gtr (.t 9) (.t 10)⟩,
    ⟨some 12, none, ⟨[], []⟩, .pick (.t 8) (.k (.bool true)) (.t 11)⟩,
    ⟨some 4, none, ⟨[], []⟩, .mov (.t 12)⟩] [0, 1, 2, 5, 6, 7, 8, 9, 10, 11, 12] []) (.ret))
set_option maxRecDepth 4000 in
theorem comp78 : (Try.f78.body.bind fun c => compC tab isP chkAll ir78 c) = some ir78 := by kernel_rfl
def ir73 : IR :=
  .seq (.reg false [⟨some 3, none, ⟨[], []⟩, .box 10 (.t 0)⟩,
    ⟨some 4, none, ⟨[], []⟩, .box 11 (.t 1)⟩,
    ⟨some 5, none, ⟨[], []⟩, .box 12 (.t 2)⟩,
    ⟨some 6, none, ⟨[], []⟩, .mov (.k (.bool false))⟩] [0, 1, 2, 6] []) (.seq (.seq (.reg false [⟨some 7, none, ⟨[], []⟩, .fld (.t 3) 0⟩,
    ⟨some 8, none, ⟨[], []⟩, .ld false none 0 0 (.t 7)⟩,
    ⟨some 9, none, ⟨[], []⟩, .fld (.t 3) 1⟩,
    ⟨some 10, none, ⟨[], []⟩, .ld false none 0 0 (.t 9)⟩,
    ⟨some 11, none, ⟨[], []⟩, .callp 77 [.t 8, .t 10]⟩,
    ⟨some 12, none, ⟨[], []⟩, .not (.t 11)⟩,
    ⟨some 13, none, ⟨[], []⟩, .mov (.t 12)⟩,
    ⟨some 14, some (13, false), ⟨[], []⟩, .fld (.t 3) 0⟩,
    ⟨some 15, some (13, false), ⟨[], []⟩, .ld false none 0 0 (.t 14)⟩,
    ⟨some 16, some (13, false), ⟨[], []⟩, .fld (.t 3) 1⟩,
    ⟨some 17, some (13, false), ⟨[], []⟩, .ld false none 0 0 (.t 16)⟩,
    ⟨some 18, some (13, false), ⟨[], []⟩, .bin 0 .mul (.t 15) (.t 17)⟩,
    ⟨some 19, some (13, false), ⟨[], []⟩, .fld (.t 3) 2⟩,
    ⟨some 20, some (13, false), ⟨[], []⟩, .ld false none 0 0 (.t 19)⟩,
    ⟨some 21, some (13, false), ⟨[], []⟩, .len (.t 20)⟩,
    ⟨some 22, some (13, false), ⟨[], []⟩, .bin 0 .neq (.t 18) (.t 21)⟩,
    ⟨some 23, none, ⟨[], []⟩, .pick (.t 13) (.k (.bool true)) (.t 22)⟩,
    ⟨some 24, none, ⟨[], []⟩, .mov (.t 23)⟩,
    ⟨some 25, some (24, false), ⟨[], []⟩, .fld (.t 3) 2⟩,
    ⟨some 26, some (24, false), ⟨[], []⟩, .ld false none 0 0 (.t 25)⟩,
    ⟨some 27, some (24, false), ⟨[], []⟩, .len (.t 26)⟩,
    ⟨some 28, some (24, false), ⟨[], []⟩, .bin 0 .gtr (.t 27) (.k (.int .i64 8192))⟩,
    ⟨some 29, none, ⟨[], []⟩, .pick (.t 24) (.k (.bool true)) (.t 28)⟩] [7, 8, 9, 10, 11, 12, 13, 14, 15, 16, 17, 18, 19, 20, 21, 22, 23, 24, 25, 26, 27, 28] []) (.cond (.t 29) (.seq (.reg false [⟨some 6, none, ⟨[], []⟩, .mov (.k (.bool false))⟩] [3, 4, 5, 29] []) (.ret)) (.skip))) (.seq (.reg false [⟨some 30, none, ⟨[], []⟩, .fld (.t 3) 2⟩,
    ⟨some 31, none, ⟨[], []⟩, .ld false none 0 0 (.t 30)⟩,
    ⟨some 32, none, ⟨[], []⟩, .mkf 78 [.t 4, .t 5]⟩,
    ⟨some 33, none, ⟨[], []⟩, .call (some 4) 13 64 [.t 31, .t 32]⟩,
    ⟨some 34, none, ⟨[], []⟩, .not (.t 33)⟩,
    ⟨some 6, none, ⟨[], []⟩, .mov (.t 34)⟩] [3, 4, 5, 29, 30, 31, 32, 33, 34] []) (.ret)))
set_option maxRecDepth 4000 in
theorem comp73 : (Try.f73.body.bind fun c => compC tab isP chkAll ir73 c) = some ir73 := by kernel_rfl
def ir60 : IR :=
  .seq (.reg false [⟨some 1, none, ⟨[], []⟩, .box 10 (.t 0)⟩,
    ⟨some 2, none, ⟨[], []⟩, .mov (.k (.bool false))⟩] [0, 2] []) (.seq (.reg false [⟨some 3, none, ⟨[], []⟩, .ld false (some 3) 0 0 (.t 1)⟩,
    ⟨some 4, none, ⟨[], []⟩, .call (some 4) 11 73 [.t 3, .k (.int .i64 (-16777216)), .k (.int .i64 16777216)]⟩,
    ⟨some 2, none, ⟨[], []⟩, .mov (.t 4)⟩] [1, 3, 4] []) (.ret))
set_option maxRecDepth 4000 in
theorem comp60 : (Try.f60.body.bind fun c => compC tab isP chkAll ir60 c) = some ir60 := by kernel_rfl
/-- The first number of some kind. -/
def firstB (p : Int → Bool) (xs : List Int) : Int := if xs.findIdx p < xs.length then xs.findIdx p else -1
theorem firstB_at {p : Int → Bool} {xs : List Int} {i : Nat} (h : i < xs.length) (hb : p (rd xs i) = true) (hj : ∀ j, j < i → p (rd xs (j : Nat)) = false) : firstB p xs = i := by
  have : xs.findIdx p = i := by
    rw [List.findIdx_eq h]
    refine ⟨by rw [rd_lt xs i h] at hb; exact hb, fun j hji => ?_⟩
    have := hj j hji
    rw [rd_lt xs j (by omega)] at this
    exact this
  unfold firstB
  rw [this, if_pos h]
theorem firstB_no {p : Int → Bool} {xs : List Int} (hj : ∀ j, j < xs.length → p (rd xs (j : Nat)) = false) : firstB p xs = -1 := by
  unfold firstB
  rw [if_neg]
  intro h
  have := List.findIdx_getElem (w := h)
  have h2 := hj _ h
  rw [rd_lt xs _ h, this] at h2
  cases h2
theorem firstB_iff (p : Int → Bool) (xs : List Int) : 0 ≤ firstB p xs ↔ ∃ n, n ∈ xs ∧ p n = true := by
  unfold firstB
  have h := List.findIdx_lt_length (xs := xs) (p := p)
  by_cases hh : xs.findIdx p < xs.length
  · rw [if_pos hh]
    exact ⟨fun _ => h.1 hh, fun _ => by omega⟩
  · rw [if_neg hh]
    exact ⟨fun h => by omega, fun H => absurd (h.2 H) hh⟩
def sides4F : EntryP
  | [.int .i64 w, .int .i64 h] => some (True, .bool (decide (0 ≤ w ∧ 0 ≤ h ∧ w ≤ 200 ∧ h ≤ 200)))
  | _ => none
attribute [push_cast] sides4F
theorem p77 : EntryPOk Try.prog 77 sides4F := by
  refine ⟨⟨_, Try.func77, by kernel_rfl, by kernel_rfl⟩, fun us p v h hp => ?_⟩
  unfold sides4F at h
  split at h <;> cases h
  refine tri_evS (hyp (l := []) (lp := []) trivial trivial) Try.func77 comp77 (rs := [.tmp 4]) (by rfl) Try.ntmps77 10 ?_
  simp -implicitDefEqProofs only [push_cast, false_implies, reduceCtorEq, Classical.not_not, Nat.reduceAdd, Nat.reduceSub, Nat.reduceMul, Nat.reduceLeDiff, Nat.reduceLT, Nat.reduceEqDiff, Nat.reduceBEq, Nat.reduceBNe, Int.reduceNeg, Int.reduceToNat, Bool.or_false, Bool.false_or, Bool.or_true, Bool.true_or, BEq.rfl, Bool.not_eq_true, Bool.not_eq_false, decide_eq_true_eq, not_true_eq_false, not_false_eq_true, ite_true, ite_false, List.append_nil, and_assoc, Nat.mul_zero, Nat.zero_mul, ir77, sides4F]
structure OutA where
  L1 : Xf.Loc
  L2 : Xf.Loc
  n : Int
  lo : Int
  hi : Int
def outB (lo hi n : Int) : Bool := decide (n < lo ∨ hi < n)
def fs78 : FS where
  A := OutA
  args := fun a => [.int .i64 a.n, .ptr 0 a.L1 0 0 0, .ptr 1 a.L2 0 0 0]
  mem := fun a => [some (.ro, a.L1, .cells [.int .i64 a.lo]), some (.ro, a.L2, .cells [.int .i64 a.hi])]
  pre := fun _ => True
  res := fun a _ => .bool (outB a.lo a.hi a.n)
  out := fun _ _ => []
  new := fun _ _ => []
def inv78 : List SV → Look → Option (OutA × List Nat)
  | [.int .i64 n, .ptr c1 _ 0 0 0, .ptr c2 _ 0 0 0], look => match rowC (look c1), rowC (look c2) with
    | some (L1, [.int .i64 lo]), some (L2, [.int .i64 hi]) => some (⟨L1, L2, n, lo, hi⟩, [c1, c2])
    | _, _ => none
  | _, _ => none
attribute [push_cast] inv78
theorem ok78 : FSOk Try.prog 78 fs78 := by
  refine ⟨⟨_, Try.func78, by kernel_rfl, by kernel_rfl⟩, fun a => ⟨by simp [fs78, push_cast, noMine, argOwn, Chunk.frArg], by simp [fs78, push_cast, outOk, Chunk.ext], fun x => .inl (by simp [fs78, push_cast, frNew, frOut, Chunk.fr])⟩, fun a hp => ?_⟩
  obtain ⟨L1, L2, n, lo, hi⟩ := a
  change Tri Try.prog 78 [.int .i64 n, .ptr 0 L1 0 0 0, .ptr 1 L2 0 0 0] [some (.ro, L1, .cells [.int .i64 lo]), some (.ro, L2, .cells [.int .i64 hi])] (postF fs78 ⟨L1, L2, n, lo, hi⟩)
  refine tri_evS (hyp (l := []) (lp := []) trivial trivial) Try.func78 comp78 (rs := [.tmp 4]) (by rfl) Try.ntmps78 10 ?_
  simp -implicitDefEqProofs only [push_cast, false_implies, reduceCtorEq, Classical.not_not, Nat.reduceAdd, Nat.reduceSub, Nat.reduceMul, Nat.reduceLeDiff, Nat.reduceLT, Nat.reduceEqDiff, Nat.reduceBEq, Nat.reduceBNe, Int.reduceNeg, Int.reduceToNat, Bool.or_false, Bool.false_or, Bool.or_true, Bool.true_or, BEq.rfl, Bool.not_eq_true, Bool.not_eq_false, decide_eq_true_eq, not_true_eq_false, not_false_eq_true, ite_true, ite_false, List.append_nil, and_assoc, Nat.mul_zero, Nat.zero_mul, ir78]
  refine postF.mk' (fun _ => default) [some 0, some 1] ?_
  simp -implicitDefEqProofs only [push_cast, false_implies, reduceCtorEq, Classical.not_not, Nat.reduceAdd, Nat.reduceSub, Nat.reduceMul, Nat.reduceLeDiff, Nat.reduceLT, Nat.reduceEqDiff, Nat.reduceBEq, Nat.reduceBNe, Int.reduceNeg, Int.reduceToNat, Bool.or_false, Bool.false_or, Bool.or_true, Bool.true_or, BEq.rfl, Bool.not_eq_true, Bool.not_eq_false, decide_eq_true_eq, not_true_eq_false, not_false_eq_true, ite_true, ite_false, List.append_nil, and_assoc, Nat.mul_zero, Nat.zero_mul, fs78, outB]
def ent78 : Entry := spOf fs78 inv78
theorem e78 : EntryOk Try.prog 78 ent78 := entry_of ok78 inv78
@[push_cast] theorem ent78_app (us : List SV) (look : Look) (x : Nat → Xf.Loc) (k : Nat) : ent78 us look x k = spOf fs78 inv78 us look x k := rfl
structure OutR where
  L : Xf.Loc
  xs : List Int
  L1 : Xf.Loc
  L2 : Xf.Loc
  lo : Int
  hi : Int
def fs74w : FS where
  A := OutR
  args := fun a => [.sl 0 a.L 1 0 a.xs.length, .fn 78 [.ptr 1 a.L1 0 0 0, .ptr 2 a.L2 0 0 0]]
  mem := fun a => [some (.ro, a.L, .ints .i64 a.xs), some (.ro, a.L1, .cells [.int .i64 a.lo]), some (.ro, a.L2, .cells [.int .i64 a.hi])]
  pre := fun a => a.xs.length ≤ 140737488355328
  res := fun a _ => .int .i64 (firstB (outB a.lo a.hi) a.xs)
  out := fun _ _ => []
  new := fun _ _ => []
def inv74w : List SV → Look → Option (OutR × List Nat)
  | [.sl c _ 1 0 _, .fn 78 [.ptr c1 _ 0 0 0, .ptr c2 _ 0 0 0]], look => match rowI (look c), rowC (look c1), rowC (look c2) with
    | some (L, .i64, xs), some (L1, [.int .i64 lo]), some (L2, [.int .i64 hi]) => some (⟨L, xs, L1, L2, lo, hi⟩, [c, c1, c2])
    | _, _, _ => none
  | _, _ => none
attribute [push_cast] inv74w
theorem ok74w : FSOk Try.prog 74 fs74w := by
  refine ⟨⟨_, Try.func74, by kernel_rfl, by kernel_rfl⟩, fun a => ⟨by simp [fs74w, push_cast, noMine, argOwn, Chunk.frArg], by simp [fs74w, push_cast, outOk, Chunk.ext], fun x => .inl (by simp [fs74w, push_cast, frNew, frOut, Chunk.fr])⟩, fun a hp => ?_⟩
  obtain ⟨L, xs, L1, L2, lo, hi⟩ := a
  change xs.length ≤ 140737488355328 at hp
  change Tri Try.prog 74 [.sl 0 L 1 0 xs.length, .fn 78 [.ptr 1 L1 0 0 0, .ptr 2 L2 0 0 0]] [some (.ro, L, .ints .i64 xs), some (.ro, L1, .cells [.int .i64 lo]), some (.ro, L2, .cells [.int .i64 hi])] (postF fs74w ⟨L, xs, L1, L2, lo, hi⟩)
  refine tri_evS (hyp (l := [(78, ent78)]) (lp := []) ⟨e78, trivial⟩ trivial) Try.func74 comp74 (rs := [.tmp 4]) (by rfl) Try.ntmps74 14 ?_
  simp -implicitDefEqProofs only [push_cast, false_implies, reduceCtorEq, Classical.not_not, Nat.reduceAdd, Nat.reduceSub, Nat.reduceMul, Nat.reduceLeDiff, Nat.reduceLT, Nat.reduceEqDiff, Nat.reduceBEq, Nat.reduceBNe, Int.reduceNeg, Int.reduceToNat, Bool.or_false, Bool.false_or, Bool.or_true, Bool.true_or, BEq.rfl, Bool.not_eq_true, Bool.not_eq_false, decide_eq_true_eq, not_true_eq_false, not_false_eq_true, ite_true, ite_false, List.append_nil, and_assoc, Nat.mul_zero, Nat.zero_mul, ir74]
  refine evS_loopU (A := Nat) kp74_1 kl74_1 (fun i => [(8, .int .i64 i)]) (fun _ => [])
    (fun i => i ≤ xs.length ∧ ∀ j, j < i → outB lo hi (rd xs (j : Nat)) = false) (fun i => xs.length - i) 0 ⟨by omega, by omega⟩ (Sub.pt ?_) ?_
  · simp -implicitDefEqProofs only [push_cast, false_implies, reduceCtorEq, Classical.not_not, Nat.reduceAdd, Nat.reduceSub, Nat.reduceMul, Nat.reduceLeDiff, Nat.reduceLT, Nat.reduceEqDiff, Nat.reduceBEq, Nat.reduceBNe, Int.reduceNeg, Int.reduceToNat, Bool.or_false, Bool.false_or, Bool.or_true, Bool.true_or, BEq.rfl, Bool.not_eq_true, Bool.not_eq_false, decide_eq_true_eq, not_true_eq_false, not_false_eq_true, ite_true, ite_false, List.append_nil, and_assoc, Nat.mul_zero, Nat.zero_mul]
  intro i ⟨h1, h2⟩ K hK
  simp -implicitDefEqProofs only [push_cast, false_implies, reduceCtorEq, Classical.not_not, Nat.reduceAdd, Nat.reduceSub, Nat.reduceMul, Nat.reduceLeDiff, Nat.reduceLT, Nat.reduceEqDiff, Nat.reduceBEq, Nat.reduceBNe, Int.reduceNeg, Int.reduceToNat, Bool.or_false, Bool.false_or, Bool.or_true, Bool.true_or, BEq.rfl, Bool.not_eq_true, Bool.not_eq_false, decide_eq_true_eq, not_true_eq_false, not_false_eq_true, ite_true, ite_false, List.append_nil, and_assoc, Nat.mul_zero, Nat.zero_mul, b74_1, r74_2, fs78]
  refine ⟨fun h => ⟨by omega, h, by omega, h, fun hb => ?_, fun hb => ⟨by omega, by omega, ?_⟩⟩, fun h => ?_⟩
  · have e := firstB_at (by omega) hb h2
    exact postF.mk' (fun _ => default) [some 0, some 1, some 2] (by simp -implicitDefEqProofs only [push_cast, false_implies, reduceCtorEq, Classical.not_not, Nat.reduceAdd, Nat.reduceSub, Nat.reduceMul, Nat.reduceLeDiff, Nat.reduceLT, Nat.reduceEqDiff, Nat.reduceBEq, Nat.reduceBNe, Int.reduceNeg, Int.reduceToNat, Bool.or_false, Bool.false_or, Bool.or_true, Bool.true_or, BEq.rfl, Bool.not_eq_true, Bool.not_eq_false, decide_eq_true_eq, not_true_eq_false, not_false_eq_true, ite_true, ite_false, List.append_nil, and_assoc, Nat.mul_zero, Nat.zero_mul, fs74w, e])
  · refine hK (i + 1) ⟨by omega, ?_⟩ (show xs.length - (i + 1) < xs.length - i by omega) _ _ (Sub.pt ?_)
    · intro j hj
      by_cases e : j = i
      · subst e; exact hb
      · exact h2 j (by omega)
    · simp -implicitDefEqProofs only [push_cast, false_implies, reduceCtorEq, Classical.not_not, Nat.reduceAdd, Nat.reduceSub, Nat.reduceMul, Nat.reduceLeDiff, Nat.reduceLT, Nat.reduceEqDiff, Nat.reduceBEq, Nat.reduceBNe, Int.reduceNeg, Int.reduceToNat, Bool.or_false, Bool.false_or, Bool.or_true, Bool.true_or, BEq.rfl, Bool.not_eq_true, Bool.not_eq_false, decide_eq_true_eq, not_true_eq_false, not_false_eq_true, ite_true, ite_false, List.append_nil, and_assoc, Nat.mul_zero, Nat.zero_mul]
  · have e := firstB_no (p := outB lo hi) (xs := xs) (fun j hj => h2 j (by omega))
    exact postF.mk' (fun _ => default) [some 0, some 1, some 2] (by simp -implicitDefEqProofs only [push_cast, false_implies, reduceCtorEq, Classical.not_not, Nat.reduceAdd, Nat.reduceSub, Nat.reduceMul, Nat.reduceLeDiff, Nat.reduceLT, Nat.reduceEqDiff, Nat.reduceBEq, Nat.reduceBNe, Int.reduceNeg, Int.reduceToNat, Bool.or_false, Bool.false_or, Bool.or_true, Bool.true_or, BEq.rfl, Bool.not_eq_true, Bool.not_eq_false, decide_eq_true_eq, not_true_eq_false, not_false_eq_true, ite_true, ite_false, List.append_nil, and_assoc, Nat.mul_zero, Nat.zero_mul, fs74w, e])
def ent74w : Entry := spOf fs74w inv74w
theorem e74w : EntryOk Try.prog 74 ent74w := entry_of ok74w inv74w
@[push_cast] theorem ent74w_app (us : List SV) (look : Look) (x : Nat → Xf.Loc) (k : Nat) : ent74w us look x k = spOf fs74w inv74w us look x k := rfl
def AllIn (lo hi : Int) (xs : List Int) : Prop := ∀ n, n ∈ xs → lo ≤ n ∧ n ≤ hi
instance (lo hi : Int) (xs : List Int) : Decidable (AllIn lo hi xs) := by unfold AllIn; infer_instance
theorem allIn_iff {lo hi : Int} {xs : List Int} : (0 ≤ firstB (outB lo hi) xs) = ¬ AllIn lo hi xs := by
  rw [firstB_iff]
  unfold AllIn outB
  simp only [decide_eq_true_eq, Classical.not_forall, eq_iff_iff]
  constructor
  · rintro ⟨n, h1, h2⟩; exact ⟨n, h1, by omega⟩
  · rintro ⟨n, h1, h2⟩; exact ⟨n, h1, by omega⟩
theorem allIn_rd {lo hi : Int} {xs : List Int} : AllIn lo hi xs ↔ ∀ j : Nat, j < xs.length → lo ≤ rd xs j ∧ rd xs j ≤ hi := by
  unfold AllIn
  constructor
  · intro h j hj; rw [rd_lt xs j hj]; exact h _ (List.getElem_mem hj)
  · intro h n hn
    obtain ⟨j, hj, rfl⟩ := List.mem_iff_getElem.1 hn
    have := h j hj
    rwa [rd_lt xs j hj] at this
def fs64w : FS := { fs74w with res := fun a _ => .bool (decide (¬ AllIn a.lo a.hi a.xs)) }
theorem ok64w : FSOk Try.prog 64 fs64w := by
  refine ⟨⟨_, Try.func64, by kernel_rfl, by kernel_rfl⟩, fun a => ⟨by simp [fs64w, fs74w, push_cast, noMine, argOwn, Chunk.frArg], by simp [fs64w, fs74w, push_cast, outOk, Chunk.ext], fun x => .inl (by simp [fs64w, fs74w, push_cast, frNew, frOut, Chunk.fr])⟩, fun a hp => ?_⟩
  obtain ⟨L, xs, L1, L2, lo, hi⟩ := a
  change xs.length ≤ 140737488355328 at hp
  change Tri Try.prog 64 [.sl 0 L 1 0 xs.length, .fn 78 [.ptr 1 L1 0 0 0, .ptr 2 L2 0 0 0]] [some (.ro, L, .ints .i64 xs), some (.ro, L1, .cells [.int .i64 lo]), some (.ro, L2, .cells [.int .i64 hi])] (postF fs64w ⟨L, xs, L1, L2, lo, hi⟩)
  refine tri_evS (hyp (l := [(74, ent74w)]) (lp := []) ⟨e74w, trivial⟩ trivial) Try.func64 comp64 (rs := [.tmp 4]) (by rfl) Try.ntmps64 14 ?_
  simp -implicitDefEqProofs only [push_cast, false_implies, reduceCtorEq, Classical.not_not, Nat.reduceAdd, Nat.reduceSub, Nat.reduceMul, Nat.reduceLeDiff, Nat.reduceLT, Nat.reduceEqDiff, Nat.reduceBEq, Nat.reduceBNe, Int.reduceNeg, Int.reduceToNat, Bool.or_false, Bool.false_or, Bool.or_true, Bool.true_or, BEq.rfl, Bool.not_eq_true, Bool.not_eq_false, decide_eq_true_eq, not_true_eq_false, not_false_eq_true, ite_true, ite_false, List.append_nil, and_assoc, Nat.mul_zero, Nat.zero_mul, ir64, fs74w]
  exact ⟨hp, postF.mk' (fun _ => default) [some 0, some 1, some 2] (by simp -implicitDefEqProofs only [push_cast, false_implies, reduceCtorEq, Classical.not_not, Nat.reduceAdd, Nat.reduceSub, Nat.reduceMul, Nat.reduceLeDiff, Nat.reduceLT, Nat.reduceEqDiff, Nat.reduceBEq, Nat.reduceBNe, Int.reduceNeg, Int.reduceToNat, Bool.or_false, Bool.false_or, Bool.or_true, Bool.true_or, BEq.rfl, Bool.not_eq_true, Bool.not_eq_false, decide_eq_true_eq, not_true_eq_false, not_false_eq_true, ite_true, ite_false, List.append_nil, and_assoc, Nat.mul_zero, Nat.zero_mul, fs64w, fs74w, allIn_iff])⟩
def ent64w : Entry := spOf fs64w inv74w
theorem e64w : EntryOk Try.prog 64 ent64w := entry_of ok64w inv74w
@[push_cast] theorem ent64w_app (us : List SV) (look : Look) (x : Nat → Xf.Loc) (k : Nat) : ent64w us look x k = spOf fs64w inv74w us look x k := rfl
def Pl.In (p : Pl) (lo hi : Int) : Prop := SidesOk p.w p.h ∧ p.xs.length = p.w * p.h ∧ AllIn lo hi p.xs
instance (p : Pl) (lo hi : Int) : Decidable (p.In lo hi) := by unfold Pl.In; infer_instance
structure PlA where
  p : Pl
  L : Xf.Loc
structure PlW where
  a : PlA
  lo : Int
  hi : Int
def getP (look : Look) : SV → Option (PlA × List Nat)
  | .agg [.int .i64 w, .int .i64 h, .sl c _ 1 0 _] => match rowI (lkZ look (.ints .i64 []) c) with
    | some (L, .i64, xs) => some (⟨⟨w, h, xs⟩, L⟩, [c])
    | _ => none
  | _ => none
attribute [push_cast] getP
def fs73 : FS where
  A := PlW
  args := fun a => [plV a.a.p a.a.L 0, .int .i64 a.lo, .int .i64 a.hi]
  mem := fun a => [some (.ro, a.a.L, .ints .i64 a.a.p.xs)]
  pre := fun a => a.a.p.xs.length ≤ 140737488355328
  res := fun a _ => .bool (decide (a.a.p.In a.lo a.hi))
  out := fun _ _ => []
  new := fun _ _ => []
def inv73 : List SV → Look → Option (PlW × List Nat)
  | [v, .int .i64 lo, .int .i64 hi], look => match getP look v with
    | some (a, g) => some (⟨a, lo, hi⟩, g)
    | _ => none
  | _, _ => none
attribute [push_cast] inv73
theorem ok73 : FSOk Try.prog 73 fs73 := by
  refine ⟨⟨_, Try.func73, by kernel_rfl, by kernel_rfl⟩, fun a => ⟨by simp [fs73, push_cast, noMine, argOwn, Chunk.frArg], by simp [fs73, push_cast, outOk, Chunk.ext], fun x => .inl (by simp [fs73, push_cast, frNew, frOut, Chunk.fr])⟩, fun a hp => ?_⟩
  obtain ⟨⟨⟨w, h, xs⟩, L⟩, lo, hi⟩ := a
  change xs.length ≤ 140737488355328 at hp
  change Tri Try.prog 73 [plV ⟨w, h, xs⟩ L 0, .int .i64 lo, .int .i64 hi] [some (.ro, L, .ints .i64 xs)] (postF fs73 ⟨⟨⟨w, h, xs⟩, L⟩, lo, hi⟩)
  refine tri_evS (hyp (l := [(64, ent64w)]) (lp := [(77, sides4F)]) ⟨e64w, trivial⟩ ⟨p77, trivial⟩) Try.func73 comp73 (rs := [.tmp 6]) (by rfl) Try.ntmps73 17 ?_
  simp -implicitDefEqProofs only [push_cast, false_implies, reduceCtorEq, Classical.not_not, Nat.reduceAdd, Nat.reduceSub, Nat.reduceMul, Nat.reduceLeDiff, Nat.reduceLT, Nat.reduceEqDiff, Nat.reduceBEq, Nat.reduceBNe, Int.reduceNeg, Int.reduceToNat, Bool.or_false, Bool.false_or, Bool.or_true, Bool.true_or, BEq.rfl, Bool.not_eq_true, Bool.not_eq_false, decide_eq_true_eq, not_true_eq_false, not_false_eq_true, ite_true, ite_false, List.append_nil, and_assoc, Nat.mul_zero, Nat.zero_mul, ir73, fs64w, fs74w, hp]
  intro X
  refine ⟨fun H => ?_, fun H => ⟨H.1, H.2.1, H.2.2.1, H.2.2.2, H⟩, fun hn => ?_, fun hy => ?_⟩
  · have := mul_bd H.1 H.2.2.1 H.2.1 H.2.2.2
    omega
  · have e : ¬ (⟨w, h, xs⟩ : Pl).In lo hi := fun H => by
      obtain ⟨⟨a1, a2, a3, a4, a5⟩, b, _⟩ := H
      simp only at a1 a2 a3 a4 a5 b
      omega
    refine postF.mk' (fun _ => default) [some 0] ?_
    simp -implicitDefEqProofs only [push_cast, false_implies, reduceCtorEq, Classical.not_not, Nat.reduceAdd, Nat.reduceSub, Nat.reduceMul, Nat.reduceLeDiff, Nat.reduceLT, Nat.reduceEqDiff, Nat.reduceBEq, Nat.reduceBNe, Int.reduceNeg, Int.reduceToNat, Bool.or_false, Bool.false_or, Bool.or_true, Bool.true_or, BEq.rfl, Bool.not_eq_true, Bool.not_eq_false, decide_eq_true_eq, not_true_eq_false, not_false_eq_true, ite_true, ite_false, List.append_nil, and_assoc, Nat.mul_zero, Nat.zero_mul, fs73, e, decide_false]
  · have e : (AllIn lo hi xs) ↔ (⟨w, h, xs⟩ : Pl).In lo hi := by
      unfold Pl.In SidesOk
      simp only
      constructor
      · intro H; refine ⟨⟨by omega, by omega, by omega, by omega, by omega⟩, by omega, H⟩
      · intro H; exact H.2.2
    refine postF.mk' (fun _ => default) [some 0] ?_
    simp -implicitDefEqProofs only [push_cast, false_implies, reduceCtorEq, Classical.not_not, Nat.reduceAdd, Nat.reduceSub, Nat.reduceMul, Nat.reduceLeDiff, Nat.reduceLT, Nat.reduceEqDiff, Nat.reduceBEq, Nat.reduceBNe, Int.reduceNeg, Int.reduceToNat, Bool.or_false, Bool.false_or, Bool.or_true, Bool.true_or, BEq.rfl, Bool.not_eq_true, Bool.not_eq_false, decide_eq_true_eq, not_true_eq_false, not_false_eq_true, ite_true, ite_false, List.append_nil, and_assoc, Nat.mul_zero, Nat.zero_mul, fs73, e]
def ent73 : Entry := spOf fs73 inv73
theorem e73 : EntryOk Try.prog 73 ent73 := entry_of ok73 inv73
@[push_cast] theorem ent73_app (us : List SV) (look : Look) (x : Nat → Xf.Loc) (k : Nat) : ent73 us look x k = spOf fs73 inv73 us look x k := rfl
def Pl.Ok (p : Pl) : Prop := p.In (-16777216) 16777216
instance (p : Pl) : Decidable p.Ok := by unfold Pl.Ok; infer_instance
def fs60 : FS where
  A := PlA
  args := fun a => [plV a.p a.L 0]
  mem := fun a => [some (.ro, a.L, .ints .i64 a.p.xs)]
  pre := fun a => a.p.xs.length ≤ 140737488355328
  res := fun a _ => .bool (decide a.p.Ok)
  out := fun _ _ => []
  new := fun _ _ => []
def inv60 : List SV → Look → Option (PlA × List Nat)
  | [v], look => getP look v
  | _, _ => none
attribute [push_cast] inv60
theorem ok60 : FSOk Try.prog 60 fs60 := by
  refine ⟨⟨_, Try.func60, by kernel_rfl, by kernel_rfl⟩, fun a => ⟨by simp [fs60, push_cast, noMine, argOwn, Chunk.frArg], by simp [fs60, push_cast, outOk, Chunk.ext], fun x => .inl (by simp [fs60, push_cast, frNew, frOut, Chunk.fr])⟩, fun a hp => ?_⟩
  obtain ⟨⟨w, h, xs⟩, L⟩ := a
  change xs.length ≤ 140737488355328 at hp
  change Tri Try.prog 60 [plV ⟨w, h, xs⟩ L 0] [some (.ro, L, .ints .i64 xs)] (postF fs60 ⟨⟨w, h, xs⟩, L⟩)
  refine tri_evS (hyp (l := [(73, ent73)]) (lp := []) ⟨e73, trivial⟩ trivial) Try.func60 comp60 (rs := [.tmp 2]) (by rfl) Try.ntmps60 15 ?_
  simp -implicitDefEqProofs only [push_cast, false_implies, reduceCtorEq, Classical.not_not, Nat.reduceAdd, Nat.reduceSub, Nat.reduceMul, Nat.reduceLeDiff, Nat.reduceLT, Nat.reduceEqDiff, Nat.reduceBEq, Nat.reduceBNe, Int.reduceNeg, Int.reduceToNat, Bool.or_false, Bool.false_or, Bool.or_true, Bool.true_or, BEq.rfl, Bool.not_eq_true, Bool.not_eq_false, decide_eq_true_eq, not_true_eq_false, not_false_eq_true, ite_true, ite_false, List.append_nil, and_assoc, Nat.mul_zero, Nat.zero_mul, ir60, fs73, hp]
  refine fun X => postF.mk' (fun _ => default) [some 0] ?_
  simp -implicitDefEqProofs only [push_cast, false_implies, reduceCtorEq, Classical.not_not, Nat.reduceAdd, Nat.reduceSub, Nat.reduceMul, Nat.reduceLeDiff, Nat.reduceLT, Nat.reduceEqDiff, Nat.reduceBEq, Nat.reduceBNe, Int.reduceNeg, Int.reduceToNat, Bool.or_false, Bool.false_or, Bool.or_true, Bool.true_or, BEq.rfl, Bool.not_eq_true, Bool.not_eq_false, decide_eq_true_eq, not_true_eq_false, not_false_eq_true, ite_true, ite_false, List.append_nil, and_assoc, Nat.mul_zero, Nat.zero_mul, fs60, Pl.Ok]
def ent60 : Entry := spOf fs60 inv60
theorem e60 : EntryOk Try.prog 60 ent60 := entry_of ok60 inv60
@[push_cast] theorem ent60_app (us : List SV) (look : Look) (x : Nat → Xf.Loc) (k : Nat) : ent60 us look x k = spOf fs60 inv60 us look x k := rfl
def Pl.Eq (a b : Pl) : Prop := a.w = b.w ∧ a.h = b.h ∧ a.xs = b.xs
instance (a b : Pl) : Decidable (a.Eq b) := by unfold Pl.Eq; infer_instance
theorem Pl.Eq.refl (a : Pl) : a.Eq a := ⟨rfl, rfl, rfl⟩
structure Pl2 where
  a : PlA
  b : PlA
def ir63 : IR :=
  .seq (.reg false [⟨some 2, none, ⟨[], []⟩, .mov (.k (.int .i64 0))⟩] [2] []) (.seq (.reg false [⟨some 3, none, ⟨[], []⟩, .mov (.t 0)⟩,
    ⟨some 4, none, ⟨[], []⟩, .mx (.t 3) (.k (.int .i64 0))⟩,
    ⟨some 5, none, ⟨[], []⟩, .mn (.t 4) (.k (.int .i64 255))⟩,
    ⟨some 2, none, ⟨[], []⟩, .mov (.t 5)⟩] [0, 3, 4, 5] []) (.ret))
set_option maxRecDepth 4000 in
theorem comp63 : (Try.f63.body.bind fun c => compC tab isP chkAll ir63 c) = some ir63 := by kernel_rfl
def b34_1 : IR :=
  .seq (.reg false [⟨some 61, none, ⟨[], []⟩, .bin 0 .lss (.t 60) (.t 59)⟩] [] []) (.seq (.cond (.t 61) (.skip) (.exit 0)) (.seq (.block 1 (.seq (.reg false [⟨some 62, none, ⟨[], []⟩, .mov (.t 60)⟩,
    ⟨some 9, none, ⟨[], []⟩, .mov (.t 62)⟩] [61, 62] []) (.seq (.reg true [⟨some 63, none, ⟨[], []⟩, .fld (.t 3) 2⟩,
    ⟨some 64, none, ⟨[], []⟩, .ld false none 0 0 (.t 63)⟩,
    ⟨some 65, none, ⟨[], []⟩, .mov (.t 9)⟩,
    ⟨some 66, none, ⟨[], []⟩, .idxS (.t 64) (.t 65) 1⟩,
    ⟨some 67, none, ⟨[], []⟩, .ld true none 0 0 (.t 66)⟩,
    ⟨some 68, none, ⟨[], []⟩, .fld (.t 4) 2⟩,
    ⟨some 69, none, ⟨[], []⟩, .ld false none 0 0 (.t 68)⟩,
    ⟨some 70, none, ⟨[], []⟩, .mov (.t 9)⟩,
    ⟨some 71, none, ⟨[], []⟩, .idxS (.t 69) (.t 70) 1⟩,
    ⟨some 72, none, ⟨[], []⟩, .ld true none 0 0 (.t 71)⟩,
    ⟨some 73, none, ⟨[], []⟩, .fld (.t 5) 2⟩,
    ⟨some 74, none, ⟨[], []⟩, .ld false none 0 0 (.t 73)⟩,
    ⟨some 75, none, ⟨[], []⟩, .mov (.t 9)⟩,
    ⟨some 76, none, ⟨[], []⟩, .idxS (.t 74) (.t 75) 1⟩,
    ⟨some 77, none, ⟨[], []⟩, .ld true none 0 0 (.t 76)⟩,
    ⟨some 78, none, ⟨[], []⟩, .bin 0 .add (.t 72) (.t 77)⟩,
    ⟨some 79, none, ⟨[], []⟩, .bin 0 .shr (.t 78) (.k (.int .u64 2))⟩,
    ⟨some 80, none, ⟨[], []⟩, .bin 0 .sub (.t 67) (.t 79)⟩,
    ⟨some 10, none, ⟨[], []⟩, .mov (.t 80)⟩] [63, 64, 65, 66, 67, 68, 69, 70, 71, 72, 73, 74, 75, 76, 77, 78, 79, 80] []) (.reg true [⟨some 81, none, ⟨[], []⟩, .mov (.t 9)⟩,
    ⟨some 82, none, ⟨[], []⟩, .fld (.t 5) 2⟩,
    ⟨some 83, none, ⟨[], []⟩, .ld false none 0 0 (.t 82)⟩,
    ⟨some 84, none, ⟨[], []⟩, .mov (.t 9)⟩,
    ⟨some 85, none, ⟨[], []⟩, .idxS (.t 83) (.t 84) 1⟩,
    ⟨some 86, none, ⟨[], []⟩, .ld true none 0 0 (.t 85)⟩,
    ⟨some 87, none, ⟨[], []⟩, .mov (.t 10)⟩,
    ⟨some 88, none, ⟨[], []⟩, .bin 0 .add (.t 86) (.t 87)⟩,
    ⟨some 89, none, ⟨[], []⟩, .callp 63 [.t 88]⟩,
    ⟨some 90, none, ⟨[], []⟩, .mov (.t 10)⟩,
    ⟨some 91, none, ⟨[], []⟩, .callp 63 [.t 90]⟩,
    ⟨some 92, none, ⟨[], []⟩, .fld (.t 4) 2⟩,
    ⟨some 93, none, ⟨[], []⟩, .ld false none 0 0 (.t 92)⟩,
    ⟨some 94, none, ⟨[], []⟩, .mov (.t 9)⟩,
    ⟨some 95, none, ⟨[], []⟩, .idxS (.t 93) (.t 94) 1⟩,
    ⟨some 96, none, ⟨[], []⟩, .ld true none 0 0 (.t 95)⟩,
    ⟨some 97, none, ⟨[], []⟩, .mov (.t 10)⟩,
    ⟨some 98, none, ⟨[], []⟩, .bin 0 .add (.t 96) (.t 97)⟩,
    ⟨some 99, none, ⟨[], []⟩, .callp 63 [.t 98]⟩,
    ⟨some 100, none, ⟨[], []⟩, .call none 31 62 [.t 8, .t 81, .t 89, .t 91, .t 99]⟩] [9, 10, 81, 82, 83, 84, 85, 86, 87, 88, 89, 90, 91, 92, 93, 94, 95, 96, 97, 98, 99, 100] [])))) (.reg false [⟨some 101, none, ⟨[], []⟩, .bin 0 .add (.t 60) (.k (.int .i64 1))⟩,
    ⟨some 60, none, ⟨[], []⟩, .mov (.t 101)⟩] [101] [])))
def r34_2 : IR :=
  .seq (.reg false [⟨some 102, none, ⟨[], []⟩, .ld false (some 5) 0 0 (.t 8)⟩,
    ⟨none, none, ⟨[], []⟩, .sto false 5 .i64 (.t 6) (.t 102)⟩,
    ⟨some 7, none, ⟨[], []⟩, .mov (.k (.int .i64 0))⟩] [3, 4, 5, 8, 59, 60, 102] []) (.ret)
def ir34 : IR :=
  .seq (.reg false [⟨some 3, none, ⟨[], []⟩, .box 10 (.t 0)⟩,
    ⟨some 4, none, ⟨[], []⟩, .box 11 (.t 1)⟩,
    ⟨some 5, none, ⟨[], []⟩, .box 12 (.t 2)⟩,
    ⟨some 6, none, ⟨[], []⟩, .alloc 13 [.int .i64 0, .int .i64 0, nilSV, nilSV, nilSV]⟩,
    ⟨some 7, none, ⟨[], []⟩, .mov (.k (.int .i64 0))⟩] [0, 1, 2, 7] []) (.seq (.seq (.reg false [⟨some 11, none, ⟨[], []⟩, .ld false (some 3) 0 0 (.t 3)⟩,
    ⟨some 12, none, ⟨[], []⟩, .call (some 4) 14 60 [.t 11]⟩,
    ⟨some 13, none, ⟨[], []⟩, .not (.t 12)⟩,
    ⟨some 14, none, ⟨[], []⟩, .mov (.t 13)⟩,
    ⟨some 15, some (14, false), ⟨[], []⟩, .ld false (some 3) 0 0 (.t 4)⟩,
    ⟨some 16, some (14, false), ⟨[], []⟩, .call (some 4) 18 60 [.t 15]⟩,
    ⟨some 17, some (14, false), ⟨[], []⟩, .not (.t 16)⟩,
    ⟨some 18, none, ⟨[], []⟩, .pick (.t 14) (.k (.bool true)) (.t 17)⟩,
    ⟨some 19, none, ⟨[], []⟩, .mov (.t 18)⟩,
    ⟨some 20, some (19, false), ⟨[], []⟩, .ld false (some 3) 0 0 (.t 5)⟩,
    ⟨some 21, some (19, false), ⟨[], []⟩, .call (some 4) 22 60 [.t 20]⟩,
    ⟨some 22, some (19, false), ⟨[], []⟩, .not (.t 21)⟩,
    ⟨some 23, none, ⟨[], []⟩, .pick (.t 19) (.k (.bool true)) (.t 22)⟩] [11, 12, 13, 14, 15, 16, 17, 18, 19, 20, 21, 22] []) (.cond (.t 23) (.seq (.reg false [⟨some 24, none, ⟨[], []⟩, .build [.int .i64 0, .int .i64 0, nilSV, nilSV, nilSV] []⟩,
    ⟨none, none, ⟨[], []⟩, .sto false 5 .i64 (.t 6) (.t 24)⟩,
    ⟨some 7, none, ⟨[], []⟩, .mov (.k (.int .i64 70))⟩] [3, 4, 5, 23, 24] []) (.ret)) (.skip))) (.seq (.seq (.reg false [⟨some 25, none, ⟨[], []⟩, .fld (.t 3) 0⟩,
    ⟨some 26, none, ⟨[], []⟩, .ld false none 0 0 (.t 25)⟩,
    ⟨some 27, none, ⟨[], []⟩, .fld (.t 4) 0⟩,
    ⟨some 28, none, ⟨[], []⟩, .ld false none 0 0 (.t 27)⟩,
    ⟨some 29, none, ⟨[], []⟩, .bin 0 .neq (.t 26) (.t 28)⟩,
    ⟨some 30, none, ⟨[], []⟩, .mov (.t 29)⟩,
    ⟨some 31, some (30, false), ⟨[], []⟩, .fld (.t 3) 0⟩,
    ⟨some 32, some (30, false), ⟨[], []⟩, .ld false none 0 0 (.t 31)⟩,
    ⟨some 33, some (30, false), ⟨[], []⟩, .fld (.t 5) 0⟩,
    ⟨some 34, some (30, false), ⟨[], []⟩, .ld false none 0 0 (.t 33)⟩,
    ⟨some 35, some (30, false), ⟨[], []⟩, .bin 0 .neq (.t 32) (.t 34)⟩,
    ⟨some 36, none, ⟨[], []⟩, .pick (.t 30) (.k (.bool true)) (.t 35)⟩,
    ⟨some 37, none, ⟨[], []⟩, .mov (.t 36)⟩,
    ⟨some 38, some (37, false), ⟨[], []⟩, .fld (.t 3) 1⟩,
    ⟨some 39, some (37, false), ⟨[], []⟩, .ld false none 0 0 (.t 38)⟩,
    ⟨some 40, some (37, false), ⟨[], []⟩, .fld (.t 4) 1⟩,
    ⟨some 41, some (37, false), ⟨[], []⟩, .ld false none 0 0 (.t 40)⟩,
    ⟨some 42, some (37, false), ⟨[], []⟩, .bin 0 .neq (.t 39) (.t 41)⟩,
    ⟨some 43, none, ⟨[], []⟩, .pick (.t 37) (.k (.bool true)) (.t 42)⟩,
    ⟨some 44, none, ⟨[], []⟩, .mov (.t 43)⟩,
    ⟨some 45, some (44, false), ⟨[], []⟩, .fld (.t 3) 1⟩,
    ⟨some 46, some (44, false), ⟨[], []⟩, .ld false none 0 0 (.t 45)⟩,
    ⟨some 47, some (44, false), ⟨[], []⟩, .fld (.t 5) 1⟩,
    ⟨some 48, some (44, false), ⟨[], []⟩, .ld false none 0 0 (.t 47)⟩,
    ⟨some 49, some (44, false), ⟨[], []⟩, .bin 0 .neq (.t 46) (.t 48)⟩,
    ⟨some 50, none, ⟨[], []⟩, .pick (.t 44) (.k (.bool true)) (.t 49)⟩] [7, 23, 25, 26, 27, 28, 29, 30, 31, 32, 33, 34, 35, 36, 37, 38, 39, 40, 41, 42, 43, 44, 45, 46, 47, 48, 49] []) (.cond (.t 50) (.seq (.reg false [⟨some 51, none, ⟨[], []⟩, .build [.int .i64 0, .int .i64 0, nilSV, nilSV, nilSV] []⟩,
    ⟨none, none, ⟨[], []⟩, .sto false 5 .i64 (.t 6) (.t 51)⟩,
    ⟨some 7, none, ⟨[], []⟩, .mov (.k (.int .i64 2))⟩] [3, 4, 5, 50, 51] []) (.ret)) (.skip))) (.seq (.reg false [⟨some 52, none, ⟨[], []⟩, .fld (.t 3) 0⟩,
    ⟨some 53, none, ⟨[], []⟩, .ld false none 0 0 (.t 52)⟩,
    ⟨some 54, none, ⟨[], []⟩, .fld (.t 3) 1⟩,
    ⟨some 55, none, ⟨[], []⟩, .ld false none 0 0 (.t 54)⟩,
    ⟨some 56, none, ⟨[], []⟩, .call (some 4) 26 61 [.t 53, .t 55]⟩,
    ⟨some 8, none, ⟨[], []⟩, .alloc 30 [.int .i64 0, .int .i64 0, nilSV, nilSV, nilSV]⟩,
    ⟨none, none, ⟨[], []⟩, .sto false 5 .i64 (.t 8) (.t 56)⟩] [7, 50, 52, 53, 54, 55, 56] []) (.seq (.seq (.reg false [⟨some 57, none, ⟨[], []⟩, .fld (.t 3) 2⟩,
    ⟨some 58, none, ⟨[], []⟩, .ld false none 0 0 (.t 57)⟩,
    ⟨some 59, none, ⟨[], []⟩, .len (.t 58)⟩,
    ⟨some 60, none, ⟨[], []⟩, .mov (.k (.int .i64 0))⟩] [57, 58] []) (.block 0 (.loop b34_1))) (r34_2)))))
def kp34_1 : List Nat := [3, 4, 5, 6, 8, 59, 60]
def kl34_1 : List Nat := [31, 32, 33, 34]
attribute [push_cast] kp34_1 kl34_1
set_option maxRecDepth 4000 in
theorem comp34 : (Try.f34.body.bind fun c => compC tab isP chkAll ir34 c) = some ir34 := by kernel_rfl
def clampI (n : Int) : Int := min (max n 0) 255
def clampF : EntryP
  | [.int .i64 n] => some (True, .int .i64 (clampI n))
  | _ => none
attribute [push_cast] clampF
theorem p63 : EntryPOk Try.prog 63 clampF := by
  refine ⟨⟨_, Try.func63, by kernel_rfl, by kernel_rfl⟩, fun us p v h hp => ?_⟩
  unfold clampF at h
  split at h <;> cases h
  refine tri_evS (hyp (l := []) (lp := []) trivial trivial) Try.func63 comp63 (rs := [.tmp 2]) (by rfl) Try.ntmps63 10 ?_
  simp -implicitDefEqProofs only [push_cast, false_implies, reduceCtorEq, Classical.not_not, Nat.reduceAdd, Nat.reduceSub, Nat.reduceMul, Nat.reduceLeDiff, Nat.reduceLT, Nat.reduceEqDiff, Nat.reduceBEq, Nat.reduceBNe, Int.reduceNeg, Int.reduceToNat, Bool.or_false, Bool.false_or, Bool.or_true, Bool.true_or, BEq.rfl, Bool.not_eq_true, Bool.not_eq_false, decide_eq_true_eq, not_true_eq_false, not_false_eq_true, ite_true, ite_false, List.append_nil, and_assoc, Nat.mul_zero, Nat.zero_mul, ir63, clampF, clampI]
structure Bk where
  y : PlA
  u : PlA
  v : PlA
def Bk.planes (b : Bk) : Prop := b.y.p.Ok ∧ b.u.p.Ok ∧ b.v.p.Ok
def Bk.sides (b : Bk) : Prop := b.u.p.w = b.y.p.w ∧ b.u.p.h = b.y.p.h ∧ b.v.p.w = b.y.p.w ∧ b.v.p.h = b.y.p.h
instance (b : Bk) : Decidable b.planes := by unfold Bk.planes; infer_instance
instance (b : Bk) : Decidable b.sides := by unfold Bk.sides; infer_instance
def Bk.Ok (b : Bk) : Prop := b.planes ∧ b.sides
instance (b : Bk) : Decidable b.Ok := by unfold Bk.Ok; infer_instance
def bG (y u v : List Int) : Nat → Int := fun k => rd y (k : Nat) - (rd u (k : Nat) + rd v (k : Nat)) / 4
def bkR (y u v : List Int) : Nat → Int := fun k => clampI (rd v (k : Nat) + bG y u v k)
def bkG (y u v : List Int) : Nat → Int := fun k => clampI (bG y u v k)
def bkB (y u v : List Int) : Nat → Int := fun k => clampI (rd u (k : Nat) + bG y u v k)
def backI (b : Bk) : Im := if b.Ok then ⟨b.y.p.w, b.y.p.h, tabl b.y.p.xs.length (bkR b.y.p.xs b.u.p.xs b.v.p.xs), tabl b.y.p.xs.length (bkG b.y.p.xs b.u.p.xs b.v.p.xs), tabl b.y.p.xs.length (bkB b.y.p.xs b.u.p.xs b.v.p.xs)⟩ else im0
def Bk.small (b : Bk) : Prop := b.y.p.xs.length ≤ 140737488355328 ∧ b.u.p.xs.length ≤ 140737488355328 ∧ b.v.p.xs.length ≤ 140737488355328
def fs34 : FS where
  A := Bk
  args := fun b => [plV b.y.p b.y.L 0, plV b.u.p b.u.L 1, plV b.v.p b.v.L 2]
  mem := fun b => [some (.ro, b.y.L, .ints .i64 b.y.p.xs), some (.ro, b.u.L, .ints .i64 b.u.p.xs), some (.ro, b.v.L, .ints .i64 b.v.p.xs)]
  pre := fun b => b.small
  res := fun b x => .tup [imV (backI b) (lx b.Ok x 0) (lx b.Ok x 1) (lx b.Ok x 2) 3, .int .i64 (if b.Ok then 0 else if b.planes then 2 else 70)]
  out := fun _ _ => []
  new := fun b x => imN (backI b) (lx b.Ok x)
def inv34 : List SV → Look → Option (Bk × List Nat)
  | [a, b, c], look => match getP look a, getP look b, getP look c with
    | some (a, g), some (b, g'), some (c, g'') => some (⟨a, b, c⟩, g ++ (g' ++ g''))
    | _, _, _ => none
  | _, _ => none
attribute [push_cast] inv34
theorem Bk.Ok.val {w h w1 h1 w2 h2 : Int} {xs ys ws : List Int} {L1 L2 L3 : Xf.Loc} (H : (⟨⟨⟨w, h, xs⟩, L1⟩, ⟨⟨w1, h1, ys⟩, L2⟩, ⟨⟨w2, h2, ws⟩, L3⟩⟩ : Bk).Ok) :
    SidesOk w h ∧ (xs.length : Int) = w * h ∧ ys.length = xs.length ∧ ws.length = xs.length ∧ w1 = w ∧ h1 = h ∧ w2 = w ∧ h2 = h ∧
      ∀ k : Nat, k < xs.length → (-16777216 ≤ rd xs k ∧ rd xs k ≤ 16777216) ∧ (-16777216 ≤ rd ys k ∧ rd ys k ≤ 16777216) ∧ (-16777216 ≤ rd ws k ∧ rd ws k ≤ 16777216) := by
  obtain ⟨⟨⟨a1, a2, a3⟩, ⟨b1, b2, b3⟩, ⟨c1, c2, c3⟩⟩, d1, d2, d3, d4⟩ := H
  simp only at a1 a2 a3 b1 b2 b3 c1 c2 c3 d1 d2 d3 d4
  subst d1 d2 d3 d4
  have e1 : ys.length = xs.length := by omega
  have e2 : ws.length = xs.length := by omega
  exact ⟨a1, a2, e1, e2, rfl, rfl, rfl, rfl, fun k hk => ⟨allIn_rd.1 a3 k hk, allIn_rd.1 b3 k (by omega), allIn_rd.1 c3 k (by omega)⟩⟩
theorem ok34 : FSOk Try.prog 34 fs34 := by
  refine ⟨⟨_, Try.func34, by kernel_rfl, by kernel_rfl⟩, fun a => ⟨by simp [fs34, push_cast, noMine, argOwn, Chunk.frArg], by simp [fs34, push_cast, outOk, Chunk.ext], fun x => .inl (by simp [fs34, push_cast, frNew, frOut, Chunk.fr])⟩, fun a hp => ?_⟩
  obtain ⟨⟨⟨w, h, xs⟩, L1⟩, ⟨⟨w1, h1, ys⟩, L2⟩, ⟨⟨w2, h2, ws⟩, L3⟩⟩ := a
  obtain ⟨hp1, hp2, hp3⟩ : xs.length ≤ 140737488355328 ∧ ys.length ≤ 140737488355328 ∧ ws.length ≤ 140737488355328 := hp
  change Tri Try.prog 34 [plV ⟨w, h, xs⟩ L1 0, plV ⟨w1, h1, ys⟩ L2 1, plV ⟨w2, h2, ws⟩ L3 2] [some (.ro, L1, .ints .i64 xs), some (.ro, L2, .ints .i64 ys), some (.ro, L3, .ints .i64 ws)] (postF fs34 ⟨⟨⟨w, h, xs⟩, L1⟩, ⟨⟨w1, h1, ys⟩, L2⟩, ⟨⟨w2, h2, ws⟩, L3⟩⟩)
  refine tri_evS (hyp (l := [(60, ent60), (61, ent61), (62, ent62)]) (lp := [(63, clampF)]) ⟨e60, e61, e62, trivial⟩ ⟨p63, trivial⟩) Try.func34 comp34 (rs := [.cell 6 (some 5), .tmp 7]) (by rfl) Try.ntmps34 35 ?_
  simp -implicitDefEqProofs only [push_cast, false_implies, reduceCtorEq, Classical.not_not, Nat.reduceAdd, Nat.reduceSub, Nat.reduceMul, Nat.reduceLeDiff, Nat.reduceLT, Nat.reduceEqDiff, Nat.reduceBEq, Nat.reduceBNe, Int.reduceNeg, Int.reduceToNat, Bool.or_false, Bool.false_or, Bool.or_true, Bool.true_or, BEq.rfl, Bool.not_eq_true, Bool.not_eq_false, decide_eq_true_eq, not_true_eq_false, not_false_eq_true, ite_true, ite_false, List.append_nil, and_assoc, Nat.mul_zero, Nat.zero_mul, ir34, fs60, fs61, hp1, hp2, hp3]
  intro X
  have he : (⟨⟨⟨w, h, xs⟩, L1⟩, ⟨⟨w1, h1, ys⟩, L2⟩, ⟨⟨w2, h2, ws⟩, L3⟩⟩ : Bk).planes ↔ ((⟨w, h, xs⟩ : Pl).Ok ∧ (⟨w1, h1, ys⟩ : Pl).Ok ∧ (⟨w2, h2, ws⟩ : Pl).Ok) := Iff.rfl
  have hd : (⟨⟨⟨w, h, xs⟩, L1⟩, ⟨⟨w1, h1, ys⟩, L2⟩, ⟨⟨w2, h2, ws⟩, L3⟩⟩ : Bk).sides ↔ (w1 = w ∧ h1 = h ∧ w2 = w ∧ h2 = h) := Iff.rfl
  have hO : (⟨⟨⟨w, h, xs⟩, L1⟩, ⟨⟨w1, h1, ys⟩, L2⟩, ⟨⟨w2, h2, ws⟩, L3⟩⟩ : Bk).Ok ↔ (⟨⟨⟨w, h, xs⟩, L1⟩, ⟨⟨w1, h1, ys⟩, L2⟩, ⟨⟨w2, h2, ws⟩, L3⟩⟩ : Bk).planes ∧ (⟨⟨⟨w, h, xs⟩, L1⟩, ⟨⟨w1, h1, ys⟩, L2⟩, ⟨⟨w2, h2, ws⟩, L3⟩⟩ : Bk).sides := Iff.rfl
  generalize hb : (⟨⟨⟨w, h, xs⟩, L1⟩, ⟨⟨w1, h1, ys⟩, L2⟩, ⟨⟨w2, h2, ws⟩, L3⟩⟩ : Bk) = b at he hd hO ⊢
  refine ⟨fun hn => ?_, fun hy => ⟨fun hn => ?_, fun hs X1 => ?_⟩⟩
  · have e1 : ¬ b.planes := by rw [he]; simp only [← and_assoc]; intro H; simp [H] at hn
    have e2 : ¬ b.Ok := fun H => e1 (hO.1 H).1
    refine postF.mk' (fun _ => default) [some 0, some 1, some 2, none, none, none] ?_
    subst hb
    simp -implicitDefEqProofs only [push_cast, false_implies, reduceCtorEq, Classical.not_not, Nat.reduceAdd, Nat.reduceSub, Nat.reduceMul, Nat.reduceLeDiff, Nat.reduceLT, Nat.reduceEqDiff, Nat.reduceBEq, Nat.reduceBNe, Int.reduceNeg, Int.reduceToNat, Bool.or_false, Bool.false_or, Bool.or_true, Bool.true_or, BEq.rfl, Bool.not_eq_true, Bool.not_eq_false, decide_eq_true_eq, not_true_eq_false, not_false_eq_true, ite_true, ite_false, List.append_nil, and_assoc, Nat.mul_zero, Nat.zero_mul, fs34, backI, e1, e2, if_false, lx, im0]
  · have e1 : b.planes := by rw [he]; simp only [not_or, Classical.not_not] at hy; exact ⟨hy.1.1, hy.1.2, hy.2⟩
    have e2 : ¬ b.Ok := fun H => by have := hd.1 (hO.1 H).2; omega
    refine postF.mk' (fun _ => default) [some 0, some 1, some 2, none, none, none] ?_
    subst hb
    simp -implicitDefEqProofs only [push_cast, false_implies, reduceCtorEq, Classical.not_not, Nat.reduceAdd, Nat.reduceSub, Nat.reduceMul, Nat.reduceLeDiff, Nat.reduceLT, Nat.reduceEqDiff, Nat.reduceBEq, Nat.reduceBNe, Int.reduceNeg, Int.reduceToNat, Bool.or_false, Bool.false_or, Bool.or_true, Bool.true_or, BEq.rfl, Bool.not_eq_true, Bool.not_eq_false, decide_eq_true_eq, not_true_eq_false, not_false_eq_true, ite_true, ite_false, List.append_nil, and_assoc, Nat.mul_zero, Nat.zero_mul, fs34, backI, e1, e2, if_false, if_true, lx, im0]
  have e1 : b.planes := by rw [he]; simp only [not_or, Classical.not_not] at hy; exact ⟨hy.1.1, hy.1.2, hy.2⟩
  have e2 : b.Ok := hO.2 ⟨e1, hd.2 (by omega)⟩
  subst hb
  obtain ⟨hsd, hl, ly, lz, rfl, rfl, rfl, rfl, hv⟩ := e2.val
  have hm := hsd.bd
  refine ⟨hsd, ?_⟩
  have ez : (w2 * h2).toNat = xs.length := by omega
  refine evS_loopU (A := Nat) kp34_1 kl34_1 (fun i => [(60, .int .i64 i)]) (fun k => [(26, .mine, X1 4 26, .ints .i64 (prt xs.length k (bkR xs ys ws))), (27, .mine, X1 4 27, .ints .i64 (prt xs.length k (bkG xs ys ws))), (28, .mine, X1 4 28, .ints .i64 (prt xs.length k (bkB xs ys ws)))])
    (fun i => i ≤ xs.length) (fun i => xs.length - i) 0 (by omega) (Sub.pt ?_) ?_
  · simp -implicitDefEqProofs only [push_cast, false_implies, reduceCtorEq, Classical.not_not, Nat.reduceAdd, Nat.reduceSub, Nat.reduceMul, Nat.reduceLeDiff, Nat.reduceLT, Nat.reduceEqDiff, Nat.reduceBEq, Nat.reduceBNe, Int.reduceNeg, Int.reduceToNat, Bool.or_false, Bool.false_or, Bool.or_true, Bool.true_or, BEq.rfl, Bool.not_eq_true, Bool.not_eq_false, decide_eq_true_eq, not_true_eq_false, not_false_eq_true, ite_true, ite_false, List.append_nil, and_assoc, Nat.mul_zero, Nat.zero_mul, zs, prt_zero, ez]
  intro k (hk : k ≤ xs.length) K hK
  simp -implicitDefEqProofs only [push_cast, false_implies, reduceCtorEq, Classical.not_not, Nat.reduceAdd, Nat.reduceSub, Nat.reduceMul, Nat.reduceLeDiff, Nat.reduceLT, Nat.reduceEqDiff, Nat.reduceBEq, Nat.reduceBNe, Int.reduceNeg, Int.reduceToNat, Bool.or_false, Bool.false_or, Bool.or_true, Bool.true_or, BEq.rfl, Bool.not_eq_true, Bool.not_eq_false, decide_eq_true_eq, not_true_eq_false, not_false_eq_true, ite_true, ite_false, List.append_nil, and_assoc, Nat.mul_zero, Nat.zero_mul, b34_1, r34_2, fs62]
  refine ⟨fun hk1 => ?_, fun hk1 => ?_⟩
  · have hk' : k < xs.length := by omega
    obtain ⟨v1, v2, v3⟩ := hv k hk'
    have lR := prt_length hk (bkR xs ys ws)
    have lG := prt_length hk (bkG xs ys ws)
    have lB := prt_length hk (bkB xs ys ws)
    repeat (refine And.intro (by first | omega | trivial | (intros; omega)) ?_)
    refine hK (k + 1) hk' (show xs.length - (k + 1) < xs.length - k by omega) _ _ (Sub.pt ?_)
    have e4 : (2 : Int) ^ 2 = 4 := rfl
    have qR : (prt xs.length k (bkR xs ys ws)).set k (clampI (rd ws k + (rd xs k - (rd ys k + rd ws k) / 4))) = prt xs.length (k + 1) (bkR xs ys ws) := prt_set hk' _
    have qG : (prt xs.length k (bkG xs ys ws)).set k (clampI (rd xs k - (rd ys k + rd ws k) / 4)) = prt xs.length (k + 1) (bkG xs ys ws) := prt_set hk' _
    have qB : (prt xs.length k (bkB xs ys ws)).set k (clampI (rd ys k + (rd xs k - (rd ys k + rd ws k) / 4))) = prt xs.length (k + 1) (bkB xs ys ws) := prt_set hk' _
    simp -implicitDefEqProofs only [push_cast, false_implies, reduceCtorEq, Classical.not_not, Nat.reduceAdd, Nat.reduceSub, Nat.reduceMul, Nat.reduceLeDiff, Nat.reduceLT, Nat.reduceEqDiff, Nat.reduceBEq, Nat.reduceBNe, Int.reduceNeg, Int.reduceToNat, Bool.or_false, Bool.false_or, Bool.or_true, Bool.true_or, BEq.rfl, Bool.not_eq_true, Bool.not_eq_false, decide_eq_true_eq, not_true_eq_false, not_false_eq_true, ite_true, ite_false, List.append_nil, and_assoc, Nat.mul_zero, Nat.zero_mul, e4, Int.toNat_natCast, qR, qG, qB]
  · obtain rfl : k = xs.length := by omega
    refine postF.mk' (locs [X1 4 26, X1 4 27, X1 4 28]) [some 0, some 1, some 2, some 26, some 27, some 28] ?_
    simp -implicitDefEqProofs only [push_cast, false_implies, reduceCtorEq, Classical.not_not, Nat.reduceAdd, Nat.reduceSub, Nat.reduceMul, Nat.reduceLeDiff, Nat.reduceLT, Nat.reduceEqDiff, Nat.reduceBEq, Nat.reduceBNe, Int.reduceNeg, Int.reduceToNat, Bool.or_false, Bool.false_or, Bool.or_true, Bool.true_or, BEq.rfl, Bool.not_eq_true, Bool.not_eq_false, decide_eq_true_eq, not_true_eq_false, not_false_eq_true, ite_true, ite_false, List.append_nil, and_assoc, Nat.mul_zero, Nat.zero_mul, fs34, backI, e2, if_true, lx, prt_all, tabl_length, hl]
def ent34 : Entry := spOf fs34 inv34
theorem e34 : EntryOk Try.prog 34 ent34 := entry_of ok34 inv34
@[push_cast] theorem ent34_app (us : List SV) (look : Look) (x : Nat → Xf.Loc) (k : Nat) : ent34 us look x k = spOf fs34 inv34 us look x k := rfl
def ir52 : IR :=
  .seq (.reg false [⟨some 2, none, ⟨[], []⟩, .mov (.k nilSV)⟩] [2] []) (.seq (.seq (.reg false [⟨some 3, none, ⟨[], []⟩, .mov (.t 0)⟩,
    ⟨some 4, none, ⟨[], []⟩, .binS .eql (.t 3) (.k nilSV)⟩] [3] []) (.cond (.t 4) (.seq (.reg false [⟨some 2, none, ⟨[], []⟩, .mov (.k nilSV)⟩] [0, 4] []) (.ret)) (.skip))) (.seq (.reg false [⟨some 5, none, ⟨[], []⟩, .bslice 10 []⟩,
    ⟨some 6, none, ⟨[], []⟩, .mov (.t 0)⟩,
    ⟨some 7, none, ⟨[], []⟩, .app 11 1 8 (.t 5) (.t 6)⟩,
    ⟨some 2, none, ⟨[], []⟩, .mov (.t 7)⟩] [0, 4, 5, 6, 7] []) (.ret)))
set_option maxRecDepth 4000 in
theorem comp52 : (Try.f52.body.bind fun c => compC tab isP chkAll ir52 c) = some ir52 := by kernel_rfl
theorem Dens.mem : ∀ {cs : List SV} {vs : List Value} {c : SV}, Dens cs vs → c ∈ cs → ∃ v, Den c v
  | [], _, _, _, h => by cases h
  | d :: cs, vs, c, hd, h => by
    simp only [Dens] at hd
    obtain ⟨v, vs', _, h1, h2⟩ := hd
    rcases List.mem_cons.1 h with rfl | h
    · exact ⟨v, h1⟩
    · exact Dens.mem h2 h
/-- Of a nil slice that is handed over the length is 0. -/
theorem Tri.ofNil {P : Program} {f : FuncId} {args : List SV} {m : Mem} {post : SV → Mem → Prop} {c : Nat} {L : Xf.Loc} {s : Nat} {n : Int} (hm : SV.sl c L s 0 n ∈ args) (h : (L.nil = true → n = 0) → Tri P f args m post) : Tri P f args m post := by
  intro w vs hd hw
  refine h ?_ w vs hd hw
  intro hn
  obtain ⟨v, hv⟩ := Dens.mem hd hm
  simp only [Den] at hv
  obtain ⟨h1, h2, h3, h4, _⟩ := hv
  have := h4 hn
  omega
def fs52 : FS where
  A := RowA
  args := fun a => [.sl 0 a.L 1 0 a.xs.length]
  mem := rowM
  pre := fun a => a.xs.length ≤ 1000000000000
  res := fun a x => .sl 1 (x 0) 1 0 a.xs.length
  out := fun _ _ => []
  new := fun a x => [(x 0, .ints .i64 a.xs)]
def inv52 : List SV → Look → Option (RowA × List Nat)
  | [.sl c _ 1 0 _], look => match rowI (lkZ look (.ints .i64 []) c) with
    | some (L, .i64, xs) => some (⟨L, xs⟩, [c])
    | _ => none
  | _, _ => none
attribute [push_cast] inv52
theorem ok52 : FSOk Try.prog 52 fs52 := by
  refine ⟨⟨_, Try.func52, by kernel_rfl, by kernel_rfl⟩, fun a => ⟨by simp [fs52, rowM, push_cast, noMine, argOwn, Chunk.frArg], by simp [fs52, rowM, push_cast, outOk, Chunk.ext], fun x => .inl (by simp [fs52, rowM, push_cast, frNew, frOut, Chunk.fr])⟩, fun a hp => ?_⟩
  obtain ⟨L, xs⟩ := a
  change xs.length ≤ 1000000000000 at hp
  change Tri Try.prog 52 [.sl 0 L 1 0 xs.length] [some (.ro, L, .ints .i64 xs)] (postF fs52 ⟨L, xs⟩)
  refine Tri.ofNil (List.mem_singleton.2 rfl) fun hn => ?_
  cases hL : L.nil
  · refine tri_evS (hyp (l := []) (lp := []) trivial trivial) Try.func52 comp52 (rs := [.tmp 2]) (by rfl) Try.ntmps52 12 ?_
    simp -implicitDefEqProofs only [push_cast, false_implies, reduceCtorEq, Classical.not_not, Nat.reduceAdd, Nat.reduceSub, Nat.reduceMul, Nat.reduceLeDiff, Nat.reduceLT, Nat.reduceEqDiff, Nat.reduceBEq, Nat.reduceBNe, Int.reduceNeg, Int.reduceToNat, Bool.or_false, Bool.false_or, Bool.or_true, Bool.true_or, BEq.rfl, Bool.not_eq_true, Bool.not_eq_false, decide_eq_true_eq, not_true_eq_false, not_false_eq_true, ite_true, ite_false, List.append_nil, and_assoc, Nat.mul_zero, Nat.zero_mul, ir52, hL]
    exact ⟨rfl, fun X => ⟨by omega, postF.mk' (fun _ => X 2 11) [some 0, some 11] (by simp -implicitDefEqProofs only [push_cast, false_implies, reduceCtorEq, Classical.not_not, Nat.reduceAdd, Nat.reduceSub, Nat.reduceMul, Nat.reduceLeDiff, Nat.reduceLT, Nat.reduceEqDiff, Nat.reduceBEq, Nat.reduceBNe, Int.reduceNeg, Int.reduceToNat, Bool.or_false, Bool.false_or, Bool.or_true, Bool.true_or, BEq.rfl, Bool.not_eq_true, Bool.not_eq_false, decide_eq_true_eq, not_true_eq_false, not_false_eq_true, ite_true, ite_false, List.append_nil, and_assoc, Nat.mul_zero, Nat.zero_mul, fs52])⟩⟩
  · obtain rfl : xs = [] := List.eq_nil_of_length_eq_zero (by have := hn hL; omega)
    refine tri_evS (hyp (l := []) (lp := []) trivial trivial) Try.func52 comp52 (rs := [.tmp 2]) (by rfl) Try.ntmps52 12 ?_
    simp -implicitDefEqProofs only [push_cast, false_implies, reduceCtorEq, Classical.not_not, Nat.reduceAdd, Nat.reduceSub, Nat.reduceMul, Nat.reduceLeDiff, Nat.reduceLT, Nat.reduceEqDiff, Nat.reduceBEq, Nat.reduceBNe, Int.reduceNeg, Int.reduceToNat, Bool.or_false, Bool.false_or, Bool.or_true, Bool.true_or, BEq.rfl, Bool.not_eq_true, Bool.not_eq_false, decide_eq_true_eq, not_true_eq_false, not_false_eq_true, ite_true, ite_false, List.append_nil, and_assoc, Nat.mul_zero, Nat.zero_mul, ir52, hL]
    exact ⟨rfl, postF.mk' (fun _ => nilLoc0) [some 0, none] (by simp -implicitDefEqProofs only [push_cast, false_implies, reduceCtorEq, Classical.not_not, Nat.reduceAdd, Nat.reduceSub, Nat.reduceMul, Nat.reduceLeDiff, Nat.reduceLT, Nat.reduceEqDiff, Nat.reduceBEq, Nat.reduceBNe, Int.reduceNeg, Int.reduceToNat, Bool.or_false, Bool.false_or, Bool.or_true, Bool.true_or, BEq.rfl, Bool.not_eq_true, Bool.not_eq_false, decide_eq_true_eq, not_true_eq_false, not_false_eq_true, ite_true, ite_false, List.append_nil, and_assoc, Nat.mul_zero, Nat.zero_mul, fs52, List.length_nil])⟩
def ent52 : Entry := spOf fs52 inv52
theorem e52 : EntryOk Try.prog 52 ent52 := entry_of ok52 inv52
@[push_cast] theorem ent52_app (us : List SV) (look : Look) (x : Nat → Xf.Loc) (k : Nat) : ent52 us look x k = spOf fs52 inv52 us look x k := rfl
structure Row2 where
  L : Xf.Loc
  xs : List Int
  M : Xf.Loc
  ys : List Int
theorem rd_bd {lo hi : Int} {xs : List Int} (h : AllIn lo hi xs) (h0 : lo ≤ 0) (h1 : 0 ≤ hi) (k : Int) : lo ≤ rd xs k ∧ rd xs k ≤ hi := by
  by_cases hk : k.toNat < xs.length
  · have e : rd xs k = xs[k.toNat] := by simp [rd, hk]
    rw [e]; exact h _ (List.getElem_mem hk)
  · have e : rd xs k = 0 := by simp [rd, List.getElem?_eq_none (Nat.not_lt.1 hk)]
    rw [e]; exact ⟨h0, h1⟩
structure PlD where
  a : PlA
  w : Int
  h : Int
def PlD.fit (d : PlD) : Prop := SidesOk d.w d.h ∧ d.a.p.w = (d.w + 1) / 2 ∧ d.a.p.h = (d.h + 1) / 2
instance (d : PlD) : Decidable d.fit := by unfold PlD.fit; infer_instance
def PlD.Ok (d : PlD) : Prop := d.a.p.Ok ∧ d.fit
instance (d : PlD) : Decidable d.Ok := by unfold PlD.Ok; infer_instance
structure Bm where
  w : Int
  h : Int
  xs : List Int
structure BmA where
  b : Bm
  L : Xf.Loc
def Bits (xs : List Int) : Prop := ∀ n, n ∈ xs → n ≤ 1
instance (xs : List Int) : Decidable (Bits xs) := by unfold Bits; infer_instance
def Bm.Ok (b : Bm) : Prop := SidesOk b.w b.h ∧ b.xs.length = b.w * b.h ∧ Bits b.xs
instance (b : Bm) : Decidable b.Ok := by unfold Bm.Ok; infer_instance
structure AtA where
  a : BmA
  x : Int
  y : Int
theorem tabl_set {n i : Nat} (hi : i < n) (f : Nat → Int) (c : Int) : (tabl n f).set i c = tabl n (fun j => if j = i then c else f j) := by
  apply List.ext_getElem (by simp [tabl])
  intro j h1 h2
  simp only [tabl, List.getElem_set, List.getElem_map, List.getElem_range]
  by_cases e : j = i
  · subst e; simp
  · simp [e, Ne.symm e]
def nearP (n : Int) : Prop := -100000 ≤ n ∧ n ≤ 100000
instance (n : Int) : Decidable (nearP n) := by unfold nearP; infer_instance
structure PaintA where
  a : ImA
  b : BmA
  x : Int
  y : Int
  r : Int
  g : Int
  bl : Int
def PaintA.fit (P : PaintA) : Prop := P.b.b.Ok ∧ nearP P.x ∧ nearP P.y ∧ ValOk P.r ∧ ValOk P.g ∧ ValOk P.bl
instance (P : PaintA) : Decidable P.fit := by unfold PaintA.fit; infer_instance
def PaintA.Ok (P : PaintA) : Prop := P.a.i.Ok ∧ P.fit
instance (P : PaintA) : Decidable P.Ok := by unfold PaintA.Ok; infer_instance
def ir36 : IR :=
  .seq (.reg false [⟨some 2, none, ⟨[], []⟩, .mov (.k (.bool false))⟩] [2] []) (.seq (.reg false [⟨some 3, none, ⟨[], []⟩, .mov (.t 0)⟩,
    ⟨some 4, none, ⟨[], []⟩, .bin 0 .eql (.t 3) (.k (.int .i64 0))⟩,
    ⟨some 5, none, ⟨[], []⟩, .mov (.t 4)⟩,
    ⟨some 6, some (5, false), ⟨[], []⟩, .mov (.t 0)⟩,
    ⟨some 7, some (5, false), ⟨[], []⟩, .bin 0 .eql (.t 6) (.k (.int .i64 1))⟩,
    ⟨some 8, none, ⟨[], []⟩, .pick (.t 5) (.k (.bool true)) (.t 7)⟩,
    ⟨some 2, none, ⟨[], []⟩, .mov (.t 8)⟩] [0, 3, 4, 5, 6, 7, 8] []) (.ret))
set_option maxRecDepth 4000 in
theorem comp36 : (Try.f36.body.bind fun c => compC tab isP chkAll ir36 c) = some ir36 := by kernel_rfl
def b17_1 : IR :=
  .seq (.reg false [⟨some 14, none, ⟨[], []⟩, .bin 0 .lss (.t 13) (.t 12)⟩] [] []) (.seq (.cond (.t 14) (.skip) (.exit 0)) (.seq (.block 1 (.seq (.reg false [⟨some 15, none, ⟨[], []⟩, .mov (.t 13)⟩,
    ⟨some 5, none, ⟨[], []⟩, .mov (.t 15)⟩] [14, 15] []) (.seq (.reg true [⟨some 16, none, ⟨[], []⟩, .mov (.t 0)⟩,
    ⟨some 17, none, ⟨[], []⟩, .mov (.t 5)⟩,
    ⟨some 18, none, ⟨[], []⟩, .idxS (.t 16) (.t 17) 1⟩,
    ⟨some 19, none, ⟨[], []⟩, .ld true none 0 0 (.t 18)⟩,
    ⟨some 20, none, ⟨[], []⟩, .mov (.t 1)⟩,
    ⟨some 21, none, ⟨[], []⟩, .mov (.t 5)⟩,
    ⟨some 22, none, ⟨[], []⟩, .idxS (.t 20) (.t 21) 1⟩,
    ⟨some 23, none, ⟨[], []⟩, .ld true none 0 0 (.t 22)⟩,
    ⟨some 24, none, ⟨[], []⟩, .bin 0 .neq (.t 19) (.t 23)⟩] [5, 16, 17, 18, 19, 20, 21, 22, 23] []) (.cond (.t 24) (.seq (.reg false [⟨some 4, none, ⟨[], []⟩, .mov (.k (.bool false))⟩] [0, 1, 12, 13, 24] []) (.ret)) (.skip))))) (.reg false [⟨some 25, none, ⟨[], []⟩, .bin 0 .add (.t 13) (.k (.int .i64 1))⟩,
    ⟨some 13, none, ⟨[], []⟩, .mov (.t 25)⟩] [4, 24, 25] [])))
def r17_2 : IR :=
  .seq (.reg false [⟨some 4, none, ⟨[], []⟩, .mov (.k (.bool true))⟩] [0, 1, 12, 13] []) (.ret)
def ir17 : IR :=
  .seq (.reg false [⟨some 4, none, ⟨[], []⟩, .mov (.k (.bool false))⟩] [4] []) (.seq (.seq (.reg false [⟨some 6, none, ⟨[], []⟩, .mov (.t 0)⟩,
    ⟨some 7, none, ⟨[], []⟩, .len (.t 6)⟩,
    ⟨some 8, none, ⟨[], []⟩, .mov (.t 1)⟩,
    ⟨some 9, none, ⟨[], []⟩, .len (.t 8)⟩,
    ⟨some 10, none, ⟨[], []⟩, .bin 0 .neq (.t 7) (.t 9)⟩] [6, 7, 8, 9] []) (.cond (.t 10) (.seq (.reg false [⟨some 4, none, ⟨[], []⟩, .mov (.k (.bool false))⟩] [0, 1, 10] []) (.ret)) (.skip))) (.seq (.seq (.reg false [⟨some 11, none, ⟨[], []⟩, .mov (.t 0)⟩,
    ⟨some 12, none, ⟨[], []⟩, .len (.t 11)⟩,
    ⟨some 13, none, ⟨[], []⟩, .mov (.k (.int .i64 0))⟩] [4, 10, 11] []) (.block 0 (.loop b17_1))) (r17_2)))
def kp17_1 : List Nat := [0, 1, 12, 13]
def kl17_1 : List Nat := []
attribute [push_cast] kp17_1 kl17_1
set_option maxRecDepth 4000 in
theorem comp17 : (Try.f17.body.bind fun c => compC tab isP chkAll ir17 c) = some ir17 := by kernel_rfl
def ir65 : IR :=
  .seq (.reg false [⟨some 3, none, ⟨[], []⟩, .mov (.k (.bool false))⟩] [3] []) (.seq (.reg false [⟨some 4, none, ⟨[], []⟩, .mov (.t 0)⟩,
    ⟨some 5, none, ⟨[], []⟩, .ld false none 0 0 (.t 1)⟩,
    ⟨some 6, none, ⟨[], []⟩, .neg 0 (.t 5)⟩,
    ⟨some 7, none, ⟨[], []⟩, .bin 0 .lss (.t 4) (.t 6)⟩,
    ⟨some 8, none, ⟨[], []⟩, .mov (.t 7)⟩,
    ⟨some 9, some (8, false), ⟨[], []⟩, .mov (.t 0)⟩,
    ⟨some 10, some (8, false), ⟨[], []⟩, .ld false none 0 0 (.t 1)⟩,
    ⟨some 11, some (8, false), ⟨[], []⟩, .bin 0 .gtr (.t 9) (.t 10)⟩,
    ⟨some 12, none, ⟨[], []⟩, .pick (.t 8) (.k (.bool true)) (.t 11)⟩,
    ⟨some 3, none, ⟨[], []⟩, .mov (.t 12)⟩] [0, 1, 4, 5, 6, 7, 8, 9, 10, 11, 12] []) (.ret))
set_option maxRecDepth 4000 in
theorem comp65 : (Try.f65.body.bind fun c => compC tab isP chkAll ir65 c) = some ir65 := by kernel_rfl
def ir37 : IR :=
  .seq (.reg false [⟨some 3, none, ⟨[], []⟩, .box 10 (.t 1)⟩,
    ⟨some 4, none, ⟨[], []⟩, .mov (.k (.bool false))⟩] [1, 4] []) (.seq (.reg false [⟨some 5, none, ⟨[], []⟩, .mov (.t 0)⟩,
    ⟨some 6, none, ⟨[], []⟩, .mkf 65 [.t 3]⟩,
    ⟨some 7, none, ⟨[], []⟩, .call (some 4) 11 64 [.t 5, .t 6]⟩,
    ⟨some 8, none, ⟨[], []⟩, .not (.t 7)⟩,
    ⟨some 4, none, ⟨[], []⟩, .mov (.t 8)⟩] [0, 3, 5, 6, 7, 8] []) (.ret))
set_option maxRecDepth 4000 in
theorem comp37 : (Try.f37.body.bind fun c => compC tab isP chkAll ir37 c) = some ir37 := by kernel_rfl
def kindF : EntryP
  | [.int .i64 k] => some (True, .bool (decide (k = 0 ∨ k = 1)))
  | _ => none
attribute [push_cast] kindF
theorem p36 : EntryPOk Try.prog 36 kindF := by
  refine ⟨⟨_, Try.func36, by kernel_rfl, by kernel_rfl⟩, fun us p v h hp => ?_⟩
  unfold kindF at h
  split at h <;> cases h
  refine tri_evS (hyp (l := []) (lp := []) trivial trivial) Try.func36 comp36 (rs := [.tmp 2]) (by rfl) Try.ntmps36 10 ?_
  simp -implicitDefEqProofs only [push_cast, false_implies, reduceCtorEq, Classical.not_not, Nat.reduceAdd, Nat.reduceSub, Nat.reduceMul, Nat.reduceLeDiff, Nat.reduceLT, Nat.reduceEqDiff, Nat.reduceBEq, Nat.reduceBNe, Int.reduceNeg, Int.reduceToNat, Bool.or_false, Bool.false_or, Bool.or_true, Bool.true_or, BEq.rfl, Bool.not_eq_true, Bool.not_eq_false, decide_eq_true_eq, not_true_eq_false, not_false_eq_true, ite_true, ite_false, List.append_nil, and_assoc, Nat.mul_zero, Nat.zero_mul, ir36, kindF]
structure Row2w where
  L : Xf.Loc
  xs : List Int
  M : Xf.Loc
  ys : List Int
def fs17 : FS where
  A := Row2w
  args := fun a => [.sl 0 a.L 1 0 a.xs.length, .sl 1 a.M 1 0 a.ys.length]
  mem := fun a => [some (.ro, a.L, .ints .i64 a.xs), some (.ro, a.M, .ints .i64 a.ys)]
  pre := fun a => a.xs.length ≤ 140737488355328 ∧ a.ys.length ≤ 140737488355328
  res := fun a _ => .bool (decide (a.xs = a.ys))
  out := fun _ _ => []
  new := fun _ _ => []
def inv17 : List SV → Look → Option (Row2w × List Nat)
  | [.sl c _ 1 0 _, .sl d _ 1 0 _], look => match rowI (lkZ look (.ints .i64 []) c), rowI (lkZ look (.ints .i64 []) d) with
    | some (L, .i64, xs), some (M, .i64, ys) => some (⟨L, xs, M, ys⟩, [c, d])
    | _, _ => none
  | _, _ => none
attribute [push_cast] inv17
theorem ok17 : FSOk Try.prog 17 fs17 := by
  refine ⟨⟨_, Try.func17, by kernel_rfl, by kernel_rfl⟩, fun a => ⟨by simp [fs17, push_cast, noMine, argOwn, Chunk.frArg], by simp [fs17, push_cast, outOk, Chunk.ext], fun x => .inl (by simp [fs17, push_cast, frNew, frOut, Chunk.fr])⟩, fun a hp => ?_⟩
  obtain ⟨L, xs, M, ys⟩ := a
  obtain ⟨hp1, hp2⟩ : xs.length ≤ 140737488355328 ∧ ys.length ≤ 140737488355328 := hp
  change Tri Try.prog 17 [.sl 0 L 1 0 xs.length, .sl 1 M 1 0 ys.length] [some (.ro, L, .ints .i64 xs), some (.ro, M, .ints .i64 ys)] (postF fs17 ⟨L, xs, M, ys⟩)
  refine tri_evS (hyp (l := []) (lp := []) trivial trivial) Try.func17 comp17 (rs := [.tmp 4]) (by rfl) Try.ntmps17 10 ?_
  simp -implicitDefEqProofs only [push_cast, false_implies, reduceCtorEq, Classical.not_not, Nat.reduceAdd, Nat.reduceSub, Nat.reduceMul, Nat.reduceLeDiff, Nat.reduceLT, Nat.reduceEqDiff, Nat.reduceBEq, Nat.reduceBNe, Int.reduceNeg, Int.reduceToNat, Bool.or_false, Bool.false_or, Bool.or_true, Bool.true_or, BEq.rfl, Bool.not_eq_true, Bool.not_eq_false, decide_eq_true_eq, not_true_eq_false, not_false_eq_true, ite_true, ite_false, List.append_nil, and_assoc, Nat.mul_zero, Nat.zero_mul, ir17]
  refine ⟨fun hn => ?_, fun hy => ?_⟩
  · have e : ¬ xs = ys := fun H => by subst H; exact hn rfl
    refine postF.mk' (fun _ => default) [some 0, some 1] ?_
    simp -implicitDefEqProofs only [push_cast, false_implies, reduceCtorEq, Classical.not_not, Nat.reduceAdd, Nat.reduceSub, Nat.reduceMul, Nat.reduceLeDiff, Nat.reduceLT, Nat.reduceEqDiff, Nat.reduceBEq, Nat.reduceBNe, Int.reduceNeg, Int.reduceToNat, Bool.or_false, Bool.false_or, Bool.or_true, Bool.true_or, BEq.rfl, Bool.not_eq_true, Bool.not_eq_false, decide_eq_true_eq, not_true_eq_false, not_false_eq_true, ite_true, ite_false, List.append_nil, and_assoc, Nat.mul_zero, Nat.zero_mul, fs17, e, decide_false]
  have hl : xs.length = ys.length := by omega
  refine evS_loopU (A := Nat) kp17_1 kl17_1 (fun i => [(13, .int .i64 i)]) (fun _ => [])
    (fun i => i ≤ xs.length ∧ ∀ j, j < i → rd xs (j : Nat) = rd ys (j : Nat)) (fun i => xs.length - i) 0 ⟨by omega, by omega⟩ (Sub.pt ?_) ?_
  · simp -implicitDefEqProofs only [push_cast, false_implies, reduceCtorEq, Classical.not_not, Nat.reduceAdd, Nat.reduceSub, Nat.reduceMul, Nat.reduceLeDiff, Nat.reduceLT, Nat.reduceEqDiff, Nat.reduceBEq, Nat.reduceBNe, Int.reduceNeg, Int.reduceToNat, Bool.or_false, Bool.false_or, Bool.or_true, Bool.true_or, BEq.rfl, Bool.not_eq_true, Bool.not_eq_false, decide_eq_true_eq, not_true_eq_false, not_false_eq_true, ite_true, ite_false, List.append_nil, and_assoc, Nat.mul_zero, Nat.zero_mul]
  intro i ⟨h1, h2⟩ K hK
  simp -implicitDefEqProofs only [push_cast, false_implies, reduceCtorEq, Classical.not_not, Nat.reduceAdd, Nat.reduceSub, Nat.reduceMul, Nat.reduceLeDiff, Nat.reduceLT, Nat.reduceEqDiff, Nat.reduceBEq, Nat.reduceBNe, Int.reduceNeg, Int.reduceToNat, Bool.or_false, Bool.false_or, Bool.or_true, Bool.true_or, BEq.rfl, Bool.not_eq_true, Bool.not_eq_false, decide_eq_true_eq, not_true_eq_false, not_false_eq_true, ite_true, ite_false, List.append_nil, and_assoc, Nat.mul_zero, Nat.zero_mul, b17_1, r17_2]
  refine ⟨fun h => ?_, fun h => ?_⟩
  · repeat (refine And.intro (by first | omega | trivial | (intros; omega)) ?_)
    refine ⟨fun hb => ?_, fun hg => ⟨by omega, by omega, ?_⟩⟩
    · have e : ¬ xs = ys := fun H => by subst H; exact hb rfl
      refine postF.mk' (fun _ => default) [some 0, some 1] ?_
      simp -implicitDefEqProofs only [push_cast, false_implies, reduceCtorEq, Classical.not_not, Nat.reduceAdd, Nat.reduceSub, Nat.reduceMul, Nat.reduceLeDiff, Nat.reduceLT, Nat.reduceEqDiff, Nat.reduceBEq, Nat.reduceBNe, Int.reduceNeg, Int.reduceToNat, Bool.or_false, Bool.false_or, Bool.or_true, Bool.true_or, BEq.rfl, Bool.not_eq_true, Bool.not_eq_false, decide_eq_true_eq, not_true_eq_false, not_false_eq_true, ite_true, ite_false, List.append_nil, and_assoc, Nat.mul_zero, Nat.zero_mul, fs17, e, decide_false]
    · refine hK (i + 1) ⟨by omega, fun j hj => ?_⟩ (show xs.length - (i + 1) < xs.length - i by omega) _ _ (Sub.pt ?_)
      · by_cases e : j = i
        · subst e; exact hg
        · exact h2 j (by omega)
      · simp -implicitDefEqProofs only [push_cast, false_implies, reduceCtorEq, Classical.not_not, Nat.reduceAdd, Nat.reduceSub, Nat.reduceMul, Nat.reduceLeDiff, Nat.reduceLT, Nat.reduceEqDiff, Nat.reduceBEq, Nat.reduceBNe, Int.reduceNeg, Int.reduceToNat, Bool.or_false, Bool.false_or, Bool.or_true, Bool.true_or, BEq.rfl, Bool.not_eq_true, Bool.not_eq_false, decide_eq_true_eq, not_true_eq_false, not_false_eq_true, ite_true, ite_false, List.append_nil, and_assoc, Nat.mul_zero, Nat.zero_mul]
  · have e : xs = ys := eq_of_rd hl fun j hj => h2 j (by omega)
    refine postF.mk' (fun _ => default) [some 0, some 1] ?_
    simp -implicitDefEqProofs only [push_cast, false_implies, reduceCtorEq, Classical.not_not, Nat.reduceAdd, Nat.reduceSub, Nat.reduceMul, Nat.reduceLeDiff, Nat.reduceLT, Nat.reduceEqDiff, Nat.reduceBEq, Nat.reduceBNe, Int.reduceNeg, Int.reduceToNat, Bool.or_false, Bool.false_or, Bool.or_true, Bool.true_or, BEq.rfl, Bool.not_eq_true, Bool.not_eq_false, decide_eq_true_eq, not_true_eq_false, not_false_eq_true, ite_true, ite_false, List.append_nil, and_assoc, Nat.mul_zero, Nat.zero_mul, fs17, e, decide_true]
def ent17 : Entry := spOf fs17 inv17
theorem e17 : EntryOk Try.prog 17 ent17 := entry_of ok17 inv17
@[push_cast] theorem ent17_app (us : List SV) (look : Look) (x : Nat → Xf.Loc) (k : Nat) : ent17 us look x k = spOf fs17 inv17 us look x k := rfl
structure OutU where
  L1 : Xf.Loc
  n : Int
  m : Int
def fs65 : FS where
  A := OutU
  args := fun a => [.int .i64 a.n, .ptr 0 a.L1 0 0 0]
  mem := fun a => [some (.ro, a.L1, .cells [.int .i64 a.m])]
  pre := fun a => 0 ≤ a.m ∧ a.m ≤ 1099511627776
  res := fun a _ => .bool (outB (-a.m) a.m a.n)
  out := fun _ _ => []
  new := fun _ _ => []
def inv65 : List SV → Look → Option (OutU × List Nat)
  | [.int .i64 n, .ptr c1 _ 0 0 0], look => match rowC (look c1) with
    | some (L1, [.int .i64 m]) => some (⟨L1, n, m⟩, [c1])
    | _ => none
  | _, _ => none
attribute [push_cast] inv65
theorem ok65 : FSOk Try.prog 65 fs65 := by
  refine ⟨⟨_, Try.func65, by kernel_rfl, by kernel_rfl⟩, fun a => ⟨by simp [fs65, push_cast, noMine, argOwn, Chunk.frArg], by simp [fs65, push_cast, outOk, Chunk.ext], fun x => .inl (by simp [fs65, push_cast, frNew, frOut, Chunk.fr])⟩, fun a hp => ?_⟩
  obtain ⟨L1, n, m⟩ := a
  obtain ⟨h1, h2⟩ : 0 ≤ m ∧ m ≤ 1099511627776 := hp
  change Tri Try.prog 65 [.int .i64 n, .ptr 0 L1 0 0 0] [some (.ro, L1, .cells [.int .i64 m])] (postF fs65 ⟨L1, n, m⟩)
  refine tri_evS (hyp (l := []) (lp := []) trivial trivial) Try.func65 comp65 (rs := [.tmp 3]) (by rfl) Try.ntmps65 10 ?_
  simp -implicitDefEqProofs only [push_cast, false_implies, reduceCtorEq, Classical.not_not, Nat.reduceAdd, Nat.reduceSub, Nat.reduceMul, Nat.reduceLeDiff, Nat.reduceLT, Nat.reduceEqDiff, Nat.reduceBEq, Nat.reduceBNe, Int.reduceNeg, Int.reduceToNat, Bool.or_false, Bool.false_or, Bool.or_true, Bool.true_or, BEq.rfl, Bool.not_eq_true, Bool.not_eq_false, decide_eq_true_eq, not_true_eq_false, not_false_eq_true, ite_true, ite_false, List.append_nil, and_assoc, Nat.mul_zero, Nat.zero_mul, ir65]
  repeat (refine And.intro (by first | omega | trivial | (intros; omega)) ?_)
  refine postF.mk' (fun _ => default) [some 0] ?_
  simp -implicitDefEqProofs only [push_cast, false_implies, reduceCtorEq, Classical.not_not, Nat.reduceAdd, Nat.reduceSub, Nat.reduceMul, Nat.reduceLeDiff, Nat.reduceLT, Nat.reduceEqDiff, Nat.reduceBEq, Nat.reduceBNe, Int.reduceNeg, Int.reduceToNat, Bool.or_false, Bool.false_or, Bool.or_true, Bool.true_or, BEq.rfl, Bool.not_eq_true, Bool.not_eq_false, decide_eq_true_eq, not_true_eq_false, not_false_eq_true, ite_true, ite_false, List.append_nil, and_assoc, Nat.mul_zero, Nat.zero_mul, fs65, outB]
def ent65 : Entry := spOf fs65 inv65
theorem e65 : EntryOk Try.prog 65 ent65 := entry_of ok65 inv65
@[push_cast] theorem ent65_app (us : List SV) (look : Look) (x : Nat → Xf.Loc) (k : Nat) : ent65 us look x k = spOf fs65 inv65 us look x k := rfl
structure OutV where
  L : Xf.Loc
  xs : List Int
  L1 : Xf.Loc
  m : Int
def fs74u : FS where
  A := OutV
  args := fun a => [.sl 0 a.L 1 0 a.xs.length, .fn 65 [.ptr 1 a.L1 0 0 0]]
  mem := fun a => [some (.ro, a.L, .ints .i64 a.xs), some (.ro, a.L1, .cells [.int .i64 a.m])]
  pre := fun a => a.xs.length ≤ 140737488355328 ∧ 0 ≤ a.m ∧ a.m ≤ 1099511627776
  res := fun a _ => .int .i64 (firstB (outB (-a.m) a.m) a.xs)
  out := fun _ _ => []
  new := fun _ _ => []
def inv74u : List SV → Look → Option (OutV × List Nat)
  | [.sl c _ 1 0 _, .fn 65 [.ptr c1 _ 0 0 0]], look => match rowI (lkZ look (.ints .i64 []) c), rowC (look c1) with
    | some (L, .i64, xs), some (L1, [.int .i64 m]) => some (⟨L, xs, L1, m⟩, [c, c1])
    | _, _ => none
  | _, _ => none
attribute [push_cast] inv74u
theorem ok74u : FSOk Try.prog 74 fs74u := by
  refine ⟨⟨_, Try.func74, by kernel_rfl, by kernel_rfl⟩, fun a => ⟨by simp [fs74u, push_cast, noMine, argOwn, Chunk.frArg], by simp [fs74u, push_cast, outOk, Chunk.ext], fun x => .inl (by simp [fs74u, push_cast, frNew, frOut, Chunk.fr])⟩, fun a hp => ?_⟩
  obtain ⟨L, xs, L1, m⟩ := a
  obtain ⟨hp, hm1, hm2⟩ : xs.length ≤ 140737488355328 ∧ 0 ≤ m ∧ m ≤ 1099511627776 := hp
  change Tri Try.prog 74 [.sl 0 L 1 0 xs.length, .fn 65 [.ptr 1 L1 0 0 0]] [some (.ro, L, .ints .i64 xs), some (.ro, L1, .cells [.int .i64 m])] (postF fs74u ⟨L, xs, L1, m⟩)
  refine tri_evS (hyp (l := [(65, ent65)]) (lp := []) ⟨e65, trivial⟩ trivial) Try.func74 comp74 (rs := [.tmp 4]) (by rfl) Try.ntmps74 14 ?_
  simp -implicitDefEqProofs only [push_cast, false_implies, reduceCtorEq, Classical.not_not, Nat.reduceAdd, Nat.reduceSub, Nat.reduceMul, Nat.reduceLeDiff, Nat.reduceLT, Nat.reduceEqDiff, Nat.reduceBEq, Nat.reduceBNe, Int.reduceNeg, Int.reduceToNat, Bool.or_false, Bool.false_or, Bool.or_true, Bool.true_or, BEq.rfl, Bool.not_eq_true, Bool.not_eq_false, decide_eq_true_eq, not_true_eq_false, not_false_eq_true, ite_true, ite_false, List.append_nil, and_assoc, Nat.mul_zero, Nat.zero_mul, ir74]
  refine evS_loopU (A := Nat) kp74_1 kl74_1 (fun i => [(8, .int .i64 i)]) (fun _ => [])
    (fun i => i ≤ xs.length ∧ ∀ j, j < i → outB (-m) m (rd xs (j : Nat)) = false) (fun i => xs.length - i) 0 ⟨by omega, by omega⟩ (Sub.pt ?_) ?_
  · simp -implicitDefEqProofs only [push_cast, false_implies, reduceCtorEq, Classical.not_not, Nat.reduceAdd, Nat.reduceSub, Nat.reduceMul, Nat.reduceLeDiff, Nat.reduceLT, Nat.reduceEqDiff, Nat.reduceBEq, Nat.reduceBNe, Int.reduceNeg, Int.reduceToNat, Bool.or_false, Bool.false_or, Bool.or_true, Bool.true_or, BEq.rfl, Bool.not_eq_true, Bool.not_eq_false, decide_eq_true_eq, not_true_eq_false, not_false_eq_true, ite_true, ite_false, List.append_nil, and_assoc, Nat.mul_zero, Nat.zero_mul]
  intro i ⟨h1, h2⟩ K hK
  simp -implicitDefEqProofs only [push_cast, false_implies, reduceCtorEq, Classical.not_not, Nat.reduceAdd, Nat.reduceSub, Nat.reduceMul, Nat.reduceLeDiff, Nat.reduceLT, Nat.reduceEqDiff, Nat.reduceBEq, Nat.reduceBNe, Int.reduceNeg, Int.reduceToNat, Bool.or_false, Bool.false_or, Bool.or_true, Bool.true_or, BEq.rfl, Bool.not_eq_true, Bool.not_eq_false, decide_eq_true_eq, not_true_eq_false, not_false_eq_true, ite_true, ite_false, List.append_nil, and_assoc, Nat.mul_zero, Nat.zero_mul, b74_1, r74_2, fs65]
  refine ⟨fun h => ?_, fun h => ?_⟩
  · repeat (refine And.intro (by first | omega | trivial | (intros; omega)) ?_)
    refine ⟨fun hb => ?_, fun hb => ⟨by omega, by omega, ?_⟩⟩
    · have e := firstB_at (by omega) hb h2
      exact postF.mk' (fun _ => default) [some 0, some 1] (by simp -implicitDefEqProofs only [push_cast, false_implies, reduceCtorEq, Classical.not_not, Nat.reduceAdd, Nat.reduceSub, Nat.reduceMul, Nat.reduceLeDiff, Nat.reduceLT, Nat.reduceEqDiff, Nat.reduceBEq, Nat.reduceBNe, Int.reduceNeg, Int.reduceToNat, Bool.or_false, Bool.false_or, Bool.or_true, Bool.true_or, BEq.rfl, Bool.not_eq_true, Bool.not_eq_false, decide_eq_true_eq, not_true_eq_false, not_false_eq_true, ite_true, ite_false, List.append_nil, and_assoc, Nat.mul_zero, Nat.zero_mul, fs74u, e])
    · refine hK (i + 1) ⟨by omega, ?_⟩ (show xs.length - (i + 1) < xs.length - i by omega) _ _ (Sub.pt ?_)
      · intro j hj
        by_cases e : j = i
        · subst e; exact hb
        · exact h2 j (by omega)
      · simp -implicitDefEqProofs only [push_cast, false_implies, reduceCtorEq, Classical.not_not, Nat.reduceAdd, Nat.reduceSub, Nat.reduceMul, Nat.reduceLeDiff, Nat.reduceLT, Nat.reduceEqDiff, Nat.reduceBEq, Nat.reduceBNe, Int.reduceNeg, Int.reduceToNat, Bool.or_false, Bool.false_or, Bool.or_true, Bool.true_or, BEq.rfl, Bool.not_eq_true, Bool.not_eq_false, decide_eq_true_eq, not_true_eq_false, not_false_eq_true, ite_true, ite_false, List.append_nil, and_assoc, Nat.mul_zero, Nat.zero_mul]
  · have e := firstB_no (p := outB (-m) m) (xs := xs) (fun j hj => h2 j (by omega))
    exact postF.mk' (fun _ => default) [some 0, some 1] (by simp -implicitDefEqProofs only [push_cast, false_implies, reduceCtorEq, Classical.not_not, Nat.reduceAdd, Nat.reduceSub, Nat.reduceMul, Nat.reduceLeDiff, Nat.reduceLT, Nat.reduceEqDiff, Nat.reduceBEq, Nat.reduceBNe, Int.reduceNeg, Int.reduceToNat, Bool.or_false, Bool.false_or, Bool.or_true, Bool.true_or, BEq.rfl, Bool.not_eq_true, Bool.not_eq_false, decide_eq_true_eq, not_true_eq_false, not_false_eq_true, ite_true, ite_false, List.append_nil, and_assoc, Nat.mul_zero, Nat.zero_mul, fs74u, e])
def ent74u : Entry := spOf fs74u inv74u
theorem e74u : EntryOk Try.prog 74 ent74u := entry_of ok74u inv74u
@[push_cast] theorem ent74u_app (us : List SV) (look : Look) (x : Nat → Xf.Loc) (k : Nat) : ent74u us look x k = spOf fs74u inv74u us look x k := rfl
def fs64u : FS := { fs74u with res := fun a _ => .bool (decide (¬ AllIn (-a.m) a.m a.xs)) }
theorem ok64u : FSOk Try.prog 64 fs64u := by
  refine ⟨⟨_, Try.func64, by kernel_rfl, by kernel_rfl⟩, fun a => ⟨by simp [fs64u, fs74u, push_cast, noMine, argOwn, Chunk.frArg], by simp [fs64u, fs74u, push_cast, outOk, Chunk.ext], fun x => .inl (by simp [fs64u, fs74u, push_cast, frNew, frOut, Chunk.fr])⟩, fun a hp => ?_⟩
  obtain ⟨L, xs, L1, m⟩ := a
  change Tri Try.prog 64 [.sl 0 L 1 0 xs.length, .fn 65 [.ptr 1 L1 0 0 0]] [some (.ro, L, .ints .i64 xs), some (.ro, L1, .cells [.int .i64 m])] (postF fs64u ⟨L, xs, L1, m⟩)
  refine tri_evS (hyp (l := [(74, ent74u)]) (lp := []) ⟨e74u, trivial⟩ trivial) Try.func64 comp64 (rs := [.tmp 4]) (by rfl) Try.ntmps64 14 ?_
  obtain ⟨h1, h2, h3⟩ := hp
  simp -implicitDefEqProofs only [push_cast, false_implies, reduceCtorEq, Classical.not_not, Nat.reduceAdd, Nat.reduceSub, Nat.reduceMul, Nat.reduceLeDiff, Nat.reduceLT, Nat.reduceEqDiff, Nat.reduceBEq, Nat.reduceBNe, Int.reduceNeg, Int.reduceToNat, Bool.or_false, Bool.false_or, Bool.or_true, Bool.true_or, BEq.rfl, Bool.not_eq_true, Bool.not_eq_false, decide_eq_true_eq, not_true_eq_false, not_false_eq_true, ite_true, ite_false, List.append_nil, and_assoc, Nat.mul_zero, Nat.zero_mul, ir64, fs74u]
  exact ⟨h1, h2, h3, postF.mk' (fun _ => default) [some 0, some 1] (by simp -implicitDefEqProofs only [push_cast, false_implies, reduceCtorEq, Classical.not_not, Nat.reduceAdd, Nat.reduceSub, Nat.reduceMul, Nat.reduceLeDiff, Nat.reduceLT, Nat.reduceEqDiff, Nat.reduceBEq, Nat.reduceBNe, Int.reduceNeg, Int.reduceToNat, Bool.or_false, Bool.false_or, Bool.or_true, Bool.true_or, BEq.rfl, Bool.not_eq_true, Bool.not_eq_false, decide_eq_true_eq, not_true_eq_false, not_false_eq_true, ite_true, ite_false, List.append_nil, and_assoc, Nat.mul_zero, Nat.zero_mul, fs64u, fs74u, allIn_iff])⟩
def ent64u : Entry := spOf fs64u inv74u
theorem e64u : EntryOk Try.prog 64 ent64u := entry_of ok64u inv74u
@[push_cast] theorem ent64u_app (us : List SV) (look : Look) (x : Nat → Xf.Loc) (k : Nat) : ent64u us look x k = spOf fs64u inv74u us look x k := rfl
structure RowM where
  L : Xf.Loc
  xs : List Int
  m : Int
def fs37 : FS where
  A := RowM
  args := fun a => [.sl 0 a.L 1 0 a.xs.length, .int .i64 a.m]
  mem := fun a => [some (.ro, a.L, .ints .i64 a.xs)]
  pre := fun a => a.xs.length ≤ 140737488355328 ∧ 0 ≤ a.m ∧ a.m ≤ 1099511627776
  res := fun a _ => .bool (decide (AllIn (-a.m) a.m a.xs))
  out := fun _ _ => []
  new := fun _ _ => []
def inv37 : List SV → Look → Option (RowM × List Nat)
  | [.sl c _ 1 0 _, .int .i64 m], look => match rowI (lkZ look (.ints .i64 []) c) with
    | some (L, .i64, xs) => some (⟨L, xs, m⟩, [c])
    | _ => none
  | _, _ => none
attribute [push_cast] inv37
theorem ok37 : FSOk Try.prog 37 fs37 := by
  refine ⟨⟨_, Try.func37, by kernel_rfl, by kernel_rfl⟩, fun a => ⟨by simp [fs37, push_cast, noMine, argOwn, Chunk.frArg], by simp [fs37, push_cast, outOk, Chunk.ext], fun x => .inl (by simp [fs37, push_cast, frNew, frOut, Chunk.fr])⟩, fun a hp => ?_⟩
  obtain ⟨L, xs, m⟩ := a
  obtain ⟨h1, h2, h3⟩ : xs.length ≤ 140737488355328 ∧ 0 ≤ m ∧ m ≤ 1099511627776 := hp
  change Tri Try.prog 37 [.sl 0 L 1 0 xs.length, .int .i64 m] [some (.ro, L, .ints .i64 xs)] (postF fs37 ⟨L, xs, m⟩)
  refine tri_evS (hyp (l := [(64, ent64u)]) (lp := []) ⟨e64u, trivial⟩ trivial) Try.func37 comp37 (rs := [.tmp 4]) (by rfl) Try.ntmps37 14 ?_
  simp -implicitDefEqProofs only [push_cast, false_implies, reduceCtorEq, Classical.not_not, Nat.reduceAdd, Nat.reduceSub, Nat.reduceMul, Nat.reduceLeDiff, Nat.reduceLT, Nat.reduceEqDiff, Nat.reduceBEq, Nat.reduceBNe, Int.reduceNeg, Int.reduceToNat, Bool.or_false, Bool.false_or, Bool.or_true, Bool.true_or, BEq.rfl, Bool.not_eq_true, Bool.not_eq_false, decide_eq_true_eq, not_true_eq_false, not_false_eq_true, ite_true, ite_false, List.append_nil, and_assoc, Nat.mul_zero, Nat.zero_mul, ir37, fs64u, fs74u, h1, h2, h3]
  exact fun X => postF.mk' (fun _ => default) [some 0] (by simp -implicitDefEqProofs only [push_cast, false_implies, reduceCtorEq, Classical.not_not, Nat.reduceAdd, Nat.reduceSub, Nat.reduceMul, Nat.reduceLeDiff, Nat.reduceLT, Nat.reduceEqDiff, Nat.reduceBEq, Nat.reduceBNe, Int.reduceNeg, Int.reduceToNat, Bool.or_false, Bool.false_or, Bool.or_true, Bool.true_or, BEq.rfl, Bool.not_eq_true, Bool.not_eq_false, decide_eq_true_eq, not_true_eq_false, not_false_eq_true, ite_true, ite_false, List.append_nil, and_assoc, Nat.mul_zero, Nat.zero_mul, fs37])
def ent37 : Entry := spOf fs37 inv37
theorem e37 : EntryOk Try.prog 37 ent37 := entry_of ok37 inv37
@[push_cast] theorem ent37_app (us : List SV) (look : Look) (x : Nat → Xf.Loc) (k : Nat) : ent37 us look x k = spOf fs37 inv37 us look x k := rfl
def ir66 : IR :=
  .seq (.reg false [⟨some 6, none, ⟨[], []⟩, .mov (.k (.int .i64 0))⟩] [6] []) (.seq (.block 0 (.seq (.reg false [⟨some 8, none, ⟨[], []⟩, .mov (.t 1)⟩,
    ⟨some 9, none, ⟨[], []⟩, .len (.t 8)⟩,
    ⟨some 10, none, ⟨[], []⟩, .bin 0 .eql (.t 9) (.k (.int .i64 0))⟩,
    ⟨some 11, none, ⟨[], []⟩, .mov (.t 10)⟩,
    ⟨some 12, some (11, false), ⟨[], []⟩, .mov (.t 0)⟩,
    ⟨some 13, some (11, false), ⟨[], []⟩, .bin 0 .eql (.t 12) (.k (.int .i64 1))⟩,
    ⟨some 14, some (11, false), ⟨[], []⟩, .mov (.t 13)⟩,
    ⟨some 15, some (14, true), ⟨[], []⟩, .mov (.t 2)⟩,
    ⟨some 16, some (14, true), ⟨[], []⟩, .mov (.t 1)⟩,
    ⟨some 17, some (14, true), ⟨[], []⟩, .len (.t 16)⟩,
    ⟨some 18, some (14, true), ⟨[], []⟩, .bin 0 .geq (.t 15) (.t 17)⟩,
    ⟨some 19, some (11, false), ⟨[], []⟩, .pick (.t 14) (.t 18) (.k (.bool false))⟩,
    ⟨some 20, none, ⟨[], []⟩, .pick (.t 11) (.k (.bool true)) (.t 19)⟩,
    ⟨some 7, none, ⟨[], []⟩, .mov (.t 20)⟩] [8, 9, 10, 11, 12, 13, 14, 15, 16, 17, 18, 19, 20] []) (.cond (.t 7) (.seq (.reg false [⟨some 6, none, ⟨[], []⟩, .mov (.k (.int .i64 0))⟩] [0, 1, 2, 7] []) (.ret)) (.seq (.reg false [⟨some 22, none, ⟨[], []⟩, .mov (.t 0)⟩,
    ⟨some 23, none, ⟨[], []⟩, .bin 0 .eql (.t 22) (.k (.int .i64 1))⟩,
    ⟨some 21, none, ⟨[], []⟩, .mov (.t 23)⟩] [0, 7, 22, 23] []) (.cond (.t 21) (.seq (.reg false [⟨some 24, none, ⟨[], []⟩, .mov (.t 1)⟩,
    ⟨some 25, none, ⟨[], []⟩, .mov (.t 2)⟩,
    ⟨some 26, none, ⟨[], []⟩, .idxS (.t 24) (.t 25) 1⟩,
    ⟨some 27, none, ⟨[], []⟩, .ld true none 0 0 (.t 26)⟩,
    ⟨some 28, none, ⟨[], []⟩, .bin 0 .shr (.t 27) (.k (.int .u64 1))⟩,
    ⟨some 6, none, ⟨[], []⟩, .mov (.t 28)⟩] [1, 2, 21, 24, 25, 26, 27, 28] []) (.ret)) (.skip)))))) (.seq (.reg true [⟨some 29, none, ⟨[], []⟩, .mov (.t 1)⟩,
    ⟨some 30, none, ⟨[], []⟩, .mov (.t 2)⟩,
    ⟨some 31, none, ⟨[], []⟩, .bin 0 .sub (.t 30) (.k (.int .i64 1))⟩,
    ⟨some 32, none, ⟨[], []⟩, .mx (.t 31) (.k (.int .i64 0))⟩,
    ⟨some 33, none, ⟨[], []⟩, .idxS (.t 29) (.t 32) 1⟩,
    ⟨some 34, none, ⟨[], []⟩, .ld true none 0 0 (.t 33)⟩,
    ⟨some 35, none, ⟨[], []⟩, .mov (.t 1)⟩,
    ⟨some 36, none, ⟨[], []⟩, .mov (.t 2)⟩,
    ⟨some 37, none, ⟨[], []⟩, .mov (.t 1)⟩,
    ⟨some 38, none, ⟨[], []⟩, .len (.t 37)⟩,
    ⟨some 39, none, ⟨[], []⟩, .bin 0 .sub (.t 38) (.k (.int .i64 1))⟩,
    ⟨some 40, none, ⟨[], []⟩, .mn (.t 36) (.t 39)⟩,
    ⟨some 41, none, ⟨[], []⟩, .idxS (.t 35) (.t 40) 1⟩,
    ⟨some 42, none, ⟨[], []⟩, .ld true none 0 0 (.t 41)⟩,
    ⟨some 43, none, ⟨[], []⟩, .bin 0 .add (.t 34) (.t 42)⟩,
    ⟨some 44, none, ⟨[], []⟩, .bin 0 .add (.t 43) (.k (.int .i64 2))⟩,
    ⟨some 45, none, ⟨[], []⟩, .bin 0 .shr (.t 44) (.k (.int .u64 2))⟩,
    ⟨some 6, none, ⟨[], []⟩, .mov (.t 45)⟩] [1, 2, 21, 29, 30, 31, 32, 33, 34, 35, 36, 37, 38, 39, 40, 41, 42, 43, 44, 45] []) (.ret)))
set_option maxRecDepth 4000 in
theorem comp66 : (Try.f66.body.bind fun c => compC tab isP chkAll ir66 c) = some ir66 := by kernel_rfl
def b38_1 : IR :=
  .seq (.reg false [⟨some 22, none, ⟨[], []⟩, .bin 0 .lss (.t 21) (.t 20)⟩] [] []) (.seq (.cond (.t 22) (.skip) (.exit 0)) (.seq (.block 1 (.seq (.reg false [⟨some 23, none, ⟨[], []⟩, .mov (.t 21)⟩,
    ⟨some 8, none, ⟨[], []⟩, .mov (.t 23)⟩] [22, 23] []) (.seq (.reg true [⟨some 24, none, ⟨[], []⟩, .mov (.t 7)⟩,
    ⟨some 25, none, ⟨[], []⟩, .mov (.t 8)⟩,
    ⟨some 26, none, ⟨[], []⟩, .mov (.t 1)⟩,
    ⟨some 27, none, ⟨[], []⟩, .mov (.t 8)⟩,
    ⟨some 28, none, ⟨[], []⟩, .bin 0 .mul (.k (.int .i64 2)) (.t 27)⟩,
    ⟨some 29, none, ⟨[], []⟩, .bin 0 .add (.t 28) (.k (.int .i64 1))⟩,
    ⟨some 30, none, ⟨[], []⟩, .idxS (.t 26) (.t 29) 1⟩,
    ⟨some 31, none, ⟨[], []⟩, .ld true none 0 0 (.t 30)⟩,
    ⟨some 32, none, ⟨[], []⟩, .mov (.t 1)⟩,
    ⟨some 33, none, ⟨[], []⟩, .mov (.t 8)⟩,
    ⟨some 34, none, ⟨[], []⟩, .bin 0 .mul (.k (.int .i64 2)) (.t 33)⟩,
    ⟨some 35, none, ⟨[], []⟩, .idxS (.t 32) (.t 34) 1⟩,
    ⟨some 36, none, ⟨[], []⟩, .ld true none 0 0 (.t 35)⟩,
    ⟨some 37, none, ⟨[], []⟩, .bin 0 .sub (.t 31) (.t 36)⟩,
    ⟨some 38, none, ⟨[], []⟩, .idxS (.t 24) (.t 25) 1⟩,
    ⟨none, none, ⟨[], []⟩, .sto true 1 .i64 (.t 38) (.t 37)⟩] [24, 25, 26, 27, 28, 29, 30, 31, 32, 33, 34, 35, 36, 37, 38] []) (.seq (.reg false [⟨some 39, none, ⟨[], []⟩, .mov (.t 0)⟩,
    ⟨some 40, none, ⟨[], []⟩, .bin 0 .eql (.t 39) (.k (.int .i64 0))⟩] [39] []) (.cond (.t 40) (.seq (.reg false [⟨some 41, none, ⟨[], []⟩, .mov (.t 1)⟩,
    ⟨some 42, none, ⟨[], []⟩, .mov (.t 8)⟩,
    ⟨some 43, none, ⟨[], []⟩, .bin 0 .mul (.k (.int .i64 2)) (.t 42)⟩,
    ⟨some 44, none, ⟨[], []⟩, .idxS (.t 41) (.t 43) 1⟩,
    ⟨some 45, none, ⟨[], []⟩, .ld true none 0 0 (.t 44)⟩,
    ⟨some 9, none, ⟨[], []⟩, .mov (.t 45)⟩] [40, 41, 42, 43, 44, 45] []) (.seq (.seq (.reg false [⟨some 46, none, ⟨[], []⟩, .mov (.t 8)⟩,
    ⟨some 47, none, ⟨[], []⟩, .bin 0 .mul (.k (.int .i64 2)) (.t 46)⟩,
    ⟨some 48, none, ⟨[], []⟩, .bin 0 .add (.t 47) (.k (.int .i64 2))⟩,
    ⟨some 49, none, ⟨[], []⟩, .mov (.t 5)⟩,
    ⟨some 50, none, ⟨[], []⟩, .bin 0 .lss (.t 48) (.t 49)⟩] [46, 47, 48, 49] []) (.cond (.t 50) (.reg false [⟨some 51, none, ⟨[], []⟩, .mov (.t 1)⟩,
    ⟨some 52, none, ⟨[], []⟩, .mov (.t 8)⟩,
    ⟨some 53, none, ⟨[], []⟩, .bin 0 .mul (.k (.int .i64 2)) (.t 52)⟩,
    ⟨some 54, none, ⟨[], []⟩, .bin 0 .add (.t 53) (.k (.int .i64 2))⟩,
    ⟨some 55, none, ⟨[], []⟩, .idxS (.t 51) (.t 54) 1⟩,
    ⟨some 56, none, ⟨[], []⟩, .ld true none 0 0 (.t 55)⟩,
    ⟨some 9, none, ⟨[], []⟩, .mov (.t 56)⟩] [50, 51, 52, 53, 54, 55, 56] []) (.skip))) (.reg true [⟨some 57, none, ⟨[], []⟩, .mov (.t 7)⟩,
    ⟨some 58, none, ⟨[], []⟩, .mov (.t 8)⟩,
    ⟨some 59, none, ⟨[], []⟩, .mov (.t 1)⟩,
    ⟨some 60, none, ⟨[], []⟩, .mov (.t 8)⟩,
    ⟨some 61, none, ⟨[], []⟩, .bin 0 .mul (.k (.int .i64 2)) (.t 60)⟩,
    ⟨some 62, none, ⟨[], []⟩, .bin 0 .add (.t 61) (.k (.int .i64 1))⟩,
    ⟨some 63, none, ⟨[], []⟩, .idxS (.t 59) (.t 62) 1⟩,
    ⟨some 64, none, ⟨[], []⟩, .ld true none 0 0 (.t 63)⟩,
    ⟨some 65, none, ⟨[], []⟩, .mov (.t 1)⟩,
    ⟨some 66, none, ⟨[], []⟩, .mov (.t 8)⟩,
    ⟨some 67, none, ⟨[], []⟩, .bin 0 .mul (.k (.int .i64 2)) (.t 66)⟩,
    ⟨some 68, none, ⟨[], []⟩, .idxS (.t 65) (.t 67) 1⟩,
    ⟨some 69, none, ⟨[], []⟩, .ld true none 0 0 (.t 68)⟩,
    ⟨some 70, none, ⟨[], []⟩, .mov (.t 9)⟩,
    ⟨some 71, none, ⟨[], []⟩, .bin 0 .add (.t 69) (.t 70)⟩,
    ⟨some 72, none, ⟨[], []⟩, .bin 0 .shr (.t 71) (.k (.int .u64 1))⟩,
    ⟨some 73, none, ⟨[], []⟩, .bin 0 .sub (.t 64) (.t 72)⟩,
    ⟨some 74, none, ⟨[], []⟩, .idxS (.t 57) (.t 58) 1⟩,
    ⟨none, none, ⟨[], []⟩, .sto true 1 .i64 (.t 74) (.t 73)⟩] [8, 9, 50, 57, 58, 59, 60, 61, 62, 63, 64, 65, 66, 67, 68, 69, 70, 71, 72, 73, 74] []))) (.skip)))))) (.reg false [⟨some 75, none, ⟨[], []⟩, .bin 0 .add (.t 21) (.k (.int .i64 1))⟩,
    ⟨some 21, none, ⟨[], []⟩, .mov (.t 75)⟩] [8, 40, 75] [])))
def b38_2 : IR :=
  .seq (.reg false [⟨some 82, none, ⟨[], []⟩, .bin 0 .lss (.t 81) (.t 80)⟩] [] []) (.seq (.cond (.t 82) (.skip) (.exit 2)) (.seq (.block 3 (.seq (.reg false [⟨some 83, none, ⟨[], []⟩, .mov (.t 81)⟩,
    ⟨some 11, none, ⟨[], []⟩, .mov (.t 83)⟩] [82, 83] []) (.reg true [⟨some 84, none, ⟨[], []⟩, .mov (.t 10)⟩,
    ⟨some 85, none, ⟨[], []⟩, .mov (.t 1)⟩,
    ⟨some 86, none, ⟨[], []⟩, .mov (.t 11)⟩,
    ⟨some 87, none, ⟨[], []⟩, .bin 0 .mul (.k (.int .i64 2)) (.t 86)⟩,
    ⟨some 88, none, ⟨[], []⟩, .idxS (.t 85) (.t 87) 1⟩,
    ⟨some 89, none, ⟨[12, 13, 14, 15], []⟩, .ld true none 0 0 (.t 88)⟩,
    ⟨some 90, none, ⟨[], []⟩, .mov (.t 0)⟩,
    ⟨some 91, none, ⟨[], []⟩, .mov (.t 7)⟩,
    ⟨some 92, none, ⟨[], []⟩, .mov (.t 11)⟩,
    ⟨some 93, none, ⟨[], []⟩, .call (some 4) 12 66 [.t 90, .t 91, .t 92]⟩,
    ⟨some 94, none, ⟨[], []⟩, .bin 0 .add (.t 89) (.t 93)⟩,
    ⟨some 95, none, ⟨[], []⟩, .bslice 16 [.t 94]⟩,
    ⟨some 96, none, ⟨[], []⟩, .app 17 1 8 (.t 84) (.t 95)⟩,
    ⟨some 10, none, ⟨[], []⟩, .mov (.t 96)⟩] [11, 84, 85, 86, 87, 88, 89, 90, 91, 92, 93, 94, 95, 96] []))) (.reg false [⟨some 97, none, ⟨[], []⟩, .bin 0 .add (.t 81) (.k (.int .i64 1))⟩,
    ⟨some 81, none, ⟨[], []⟩, .mov (.t 97)⟩] [97] [])))
def r38_3 : IR :=
  .seq (.reg false [⟨some 98, none, ⟨[], []⟩, .mov (.t 10)⟩,
    ⟨some 99, none, ⟨[], []⟩, .mov (.t 7)⟩,
    ⟨some 100, none, ⟨[], []⟩, .app 18 1 8 (.t 98) (.t 99)⟩,
    ⟨some 4, none, ⟨[], []⟩, .mov (.t 100)⟩] [0, 1, 7, 10, 80, 81, 98, 99, 100] []) (.ret)
def r38_4 : IR :=
  .seq (.reg false [⟨some 76, none, ⟨[], []⟩, .mov (.t 5)⟩,
    ⟨some 77, none, ⟨[], []⟩, .mks 11 (.int .i64 0) 8 (.k (.int .i64 0)) (.t 76)⟩,
    ⟨some 10, none, ⟨[], []⟩, .mov (.t 77)⟩] [20, 21, 76, 77] []) (.seq (.seq (.reg false [⟨some 78, none, ⟨[], []⟩, .mov (.t 5)⟩,
    ⟨some 79, none, ⟨[], []⟩, .mov (.t 6)⟩,
    ⟨some 80, none, ⟨[], []⟩, .bin 0 .sub (.t 78) (.t 79)⟩,
    ⟨some 81, none, ⟨[], []⟩, .mov (.k (.int .i64 0))⟩] [5, 6, 78, 79] []) (.block 2 (.loop b38_2))) (r38_3))
def ir38 : IR :=
  .seq (.reg false [⟨some 4, none, ⟨[], []⟩, .mov (.k nilSV)⟩] [4] []) (.seq (.reg false [⟨some 12, none, ⟨[], []⟩, .mov (.t 1)⟩,
    ⟨some 13, none, ⟨[], []⟩, .len (.t 12)⟩,
    ⟨some 14, none, ⟨[], []⟩, .mov (.t 1)⟩,
    ⟨some 15, none, ⟨[], []⟩, .len (.t 14)⟩,
    ⟨some 16, none, ⟨[], []⟩, .bin 0 .quo (.t 15) (.k (.int .i64 2))⟩,
    ⟨some 5, none, ⟨[], []⟩, .mov (.t 13)⟩,
    ⟨some 6, none, ⟨[], []⟩, .mov (.t 16)⟩] [12, 13, 14, 15, 16] []) (.seq (.reg false [⟨some 17, none, ⟨[], []⟩, .mov (.t 6)⟩,
    ⟨some 18, none, ⟨[], []⟩, .mks 10 (.int .i64 0) 8 (.t 17) (.t 17)⟩,
    ⟨some 7, none, ⟨[], []⟩, .mov (.t 18)⟩] [17, 18] []) (.seq (.seq (.reg false [⟨some 19, none, ⟨[], []⟩, .mov (.t 7)⟩,
    ⟨some 20, none, ⟨[], []⟩, .len (.t 19)⟩,
    ⟨some 21, none, ⟨[], []⟩, .mov (.k (.int .i64 0))⟩] [19] []) (.block 0 (.loop b38_1))) (r38_4))))
def kp38_1 : List Nat := [0, 1, 5, 6, 7, 20, 21]
def kl38_1 : List Nat := []
attribute [push_cast] kp38_1 kl38_1
def kp38_2 : List Nat := [0, 1, 7, 10, 80, 81]
def kl38_2 : List Nat := [12, 13, 14, 15, 16, 17]
attribute [push_cast] kp38_2 kl38_2
set_option maxRecDepth 4000 in
theorem comp38 : (Try.f38.body.bind fun c => compC tab isP chkAll ir38 c) = some ir38 := by kernel_rfl
def liftG (kind : Int) (g : Int → Int) (n i : Int) : Int :=
  if n = 0 ∨ kind = 1 ∧ n ≤ i then 0 else if kind = 1 then g i / 2 else (g (max (i - 1) 0) + g (min i (n - 1)) + 2) / 4
structure LiftA where
  kind : Int
  L : Xf.Loc
  xs : List Int
  lo : Int
  n : Int
  i : Int
def fs66 : FS where
  A := LiftA
  args := fun a => [.int .i64 a.kind, .sl 0 a.L 1 a.lo a.n, .int .i64 a.i]
  mem := fun a => [some (.ro, a.L, .ints .i64 a.xs)]
  pre := fun a => a.xs.length ≤ 140737488355328 ∧ 0 ≤ a.lo ∧ 0 ≤ a.n ∧ a.lo + a.n ≤ a.xs.length ∧ 0 ≤ a.i ∧ a.i ≤ a.n ∧ AllIn (-4503599627370496) 4503599627370496 a.xs
  res := fun a _ => .int .i64 (liftG a.kind (fun j => rd a.xs (a.lo + j)) a.n a.i)
  out := fun _ _ => []
  new := fun _ _ => []
def inv66 : List SV → Look → Option (LiftA × List Nat)
  | [.int .i64 k, .sl c _ 1 lo n, .int .i64 i], look => match rowI (lkZ look (.ints .i64 []) c) with
    | some (L, .i64, xs) => some (⟨k, L, xs, lo, n, i⟩, [c])
    | _ => none
  | _, _ => none
attribute [push_cast] inv66
theorem ok66 : FSOk Try.prog 66 fs66 := by
  refine ⟨⟨_, Try.func66, by kernel_rfl, by kernel_rfl⟩, fun a => ⟨by simp [fs66, push_cast, noMine, argOwn, Chunk.frArg], by simp [fs66, push_cast, outOk, Chunk.ext], fun x => .inl (by simp [fs66, push_cast, frNew, frOut, Chunk.fr])⟩, fun a hp => ?_⟩
  obtain ⟨kind, L, xs, lo, n, i⟩ := a
  obtain ⟨h1, h2, h3, h4, h5, h6, h7⟩ : xs.length ≤ 140737488355328 ∧ 0 ≤ lo ∧ 0 ≤ n ∧ lo + n ≤ xs.length ∧ 0 ≤ i ∧ i ≤ n ∧ AllIn (-4503599627370496) 4503599627370496 xs := hp
  change Tri Try.prog 66 [.int .i64 kind, .sl 0 L 1 lo n, .int .i64 i] [some (.ro, L, .ints .i64 xs)] (postF fs66 ⟨kind, L, xs, lo, n, i⟩)
  have b1 := rd_bd h7 (by omega) (by omega) (lo + i)
  have b2 := rd_bd h7 (by omega) (by omega) (lo + max (i - 1) 0)
  have b3 := rd_bd h7 (by omega) (by omega) (lo + min i (n - 1))
  refine tri_evS (hyp (l := []) (lp := []) trivial trivial) Try.func66 comp66 (rs := [.tmp 6]) (by rfl) Try.ntmps66 10 ?_
  simp -implicitDefEqProofs only [push_cast, false_implies, reduceCtorEq, Classical.not_not, Nat.reduceAdd, Nat.reduceSub, Nat.reduceMul, Nat.reduceLeDiff, Nat.reduceLT, Nat.reduceEqDiff, Nat.reduceBEq, Nat.reduceBNe, Int.reduceNeg, Int.reduceToNat, Bool.or_false, Bool.false_or, Bool.or_true, Bool.true_or, BEq.rfl, Bool.not_eq_true, Bool.not_eq_false, decide_eq_true_eq, not_true_eq_false, not_false_eq_true, ite_true, ite_false, List.append_nil, and_assoc, Nat.mul_zero, Nat.zero_mul, ir66]
  have e1 : (2 : Int) ^ 1 = 2 := rfl
  have e2 : (2 : Int) ^ 2 = 4 := rfl
  refine ⟨fun H => ⟨H.1, H.2, H⟩, fun H => ⟨H, fun q => ⟨H, q⟩⟩, fun h => ?_, fun h => ⟨fun hk => ?_, fun hk => ?_⟩⟩
  · refine postF.mk' (fun _ => default) [some 0] ?_
    simp -implicitDefEqProofs only [push_cast, false_implies, reduceCtorEq, Classical.not_not, Nat.reduceAdd, Nat.reduceSub, Nat.reduceMul, Nat.reduceLeDiff, Nat.reduceLT, Nat.reduceEqDiff, Nat.reduceBEq, Nat.reduceBNe, Int.reduceNeg, Int.reduceToNat, Bool.or_false, Bool.false_or, Bool.or_true, Bool.true_or, BEq.rfl, Bool.not_eq_true, Bool.not_eq_false, decide_eq_true_eq, not_true_eq_false, not_false_eq_true, ite_true, ite_false, List.append_nil, and_assoc, Nat.mul_zero, Nat.zero_mul, fs66, liftG, h, if_true]
  · repeat (refine And.intro (by first | omega | trivial | (intros; omega)) ?_)
    refine postF.mk' (fun _ => default) [some 0] ?_
    simp -implicitDefEqProofs only [push_cast, false_implies, reduceCtorEq, Classical.not_not, Nat.reduceAdd, Nat.reduceSub, Nat.reduceMul, Nat.reduceLeDiff, Nat.reduceLT, Nat.reduceEqDiff, Nat.reduceBEq, Nat.reduceBNe, Int.reduceNeg, Int.reduceToNat, Bool.or_false, Bool.false_or, Bool.or_true, Bool.true_or, BEq.rfl, Bool.not_eq_true, Bool.not_eq_false, decide_eq_true_eq, not_true_eq_false, not_false_eq_true, ite_true, ite_false, List.append_nil, and_assoc, Nat.mul_zero, Nat.zero_mul, fs66, liftG, h, if_false, hk, if_true, e1]
    rw [if_neg (by omega)]
  · repeat (refine And.intro (by first | omega | trivial | (intros; omega)) ?_)
    refine postF.mk' (fun _ => default) [some 0] ?_
    simp -implicitDefEqProofs only [push_cast, false_implies, reduceCtorEq, Classical.not_not, Nat.reduceAdd, Nat.reduceSub, Nat.reduceMul, Nat.reduceLeDiff, Nat.reduceLT, Nat.reduceEqDiff, Nat.reduceBEq, Nat.reduceBNe, Int.reduceNeg, Int.reduceToNat, Bool.or_false, Bool.false_or, Bool.or_true, Bool.true_or, BEq.rfl, Bool.not_eq_true, Bool.not_eq_false, decide_eq_true_eq, not_true_eq_false, not_false_eq_true, ite_true, ite_false, List.append_nil, and_assoc, Nat.mul_zero, Nat.zero_mul, fs66, e2]
    unfold liftG
    rw [if_neg h, if_neg hk]
def ent66 : Entry := spOf fs66 inv66
theorem e66 : EntryOk Try.prog 66 ent66 := entry_of ok66 inv66
@[push_cast] theorem ent66_app (us : List SV) (look : Look) (x : Nat → Xf.Loc) (k : Nat) : ent66 us look x k = spOf fs66 inv66 us look x k := rfl
structure NearA where
  L : Xf.Loc
  xs : List Int
  lo : Int
  n : Int
  i : Int
def nxt (n : Int) (f : Int → Int) (i : Int) : Int := if 2 * i + 2 < n then f (2 * i + 2) else f (2 * i)
def hiF (kind : Int) (n : Nat) (f : Int → Int) (i : Nat) : Int := if kind = 1 then f (2 * i + 1) - f (2 * i) else f (2 * i + 1) - (f (2 * i) + nxt n f i) / 2
def hiL (kind : Int) (n : Nat) (f : Int → Int) : List Int := tabl (n / 2) (hiF kind n f)
def loF (kind : Int) (n : Nat) (f : Int → Int) (i : Nat) : Int := f (2 * i) + liftG kind (fun j => rd (hiL kind n f) j) (n / 2 : Nat) i
def lineL (kind : Int) (n : Nat) (f : Int → Int) : List Int := tabl (n - n / 2) (loF kind n f) ++ hiL kind n f
theorem lineL_length (kind : Int) (n : Nat) (f : Int → Int) : (lineL kind n f).length = n := by simp [lineL, hiL, tabl_length]; omega
def BdF (B : Int) (f : Int → Int) : Prop := ∀ j, -B ≤ f j ∧ f j ≤ B
theorem hiF_bd {kind : Int} {n : Nat} {f : Int → Int} {B : Int} (h : BdF B f) (i : Nat) : -(2 * B) ≤ hiF kind n f i ∧ hiF kind n f i ≤ 2 * B := by
  have h1 := h (2 * i)
  have h2 := h (2 * i + 1)
  have h3 := h (2 * i + 2)
  unfold hiF nxt
  split
  · omega
  · split <;> omega
theorem hiL_bd {kind : Int} {n : Nat} {f : Int → Int} {B : Int} (h : BdF B f) : AllIn (-(2 * B)) (2 * B) (hiL kind n f) := by
  rw [allIn_rd]
  intro j hj
  unfold hiL at hj ⊢
  rw [tabl_length] at hj
  rw [rd_tabl hj]
  exact hiF_bd h j
theorem liftG_bd {kind : Int} {g : Int → Int} {B : Int} (h : BdF B g) (h0 : 0 ≤ B) (n i : Int) : -(B + 1) ≤ liftG kind g n i ∧ liftG kind g n i ≤ B + 1 := by
  have h1 := h i
  have h2 := h (max (i - 1) 0)
  have h3 := h (min i (n - 1))
  unfold liftG
  split
  · omega
  · split <;> omega
theorem BdF.rd {xs : List Int} {B : Int} (h : AllIn (-B) B xs) (h0 : 0 ≤ B) (lo : Int) : BdF B (fun j => rd xs (lo + j)) := fun j => rd_bd h (by omega) h0 _
theorem BdF.rd0 {xs : List Int} {B : Int} (h : AllIn (-B) B xs) (h0 : 0 ≤ B) : BdF B (fun j => Xf.rd xs j) := fun j => rd_bd h (by omega) h0 _
structure LineA where
  kind : Int
  L : Xf.Loc
  xs : List Int
  lo : Int
  n : Nat
def fs38 : FS where
  A := LineA
  args := fun a => [.int .i64 a.kind, .sl 0 a.L 1 a.lo a.n]
  mem := fun a => [some (.ro, a.L, .ints .i64 a.xs)]
  pre := fun a => (a.kind = 0 ∨ a.kind = 1) ∧ a.xs.length ≤ 140737488355328 ∧ 0 ≤ a.lo ∧ a.lo + a.n ≤ a.xs.length ∧ a.n ≤ 1000000 ∧ AllIn (-1073741824) 1073741824 a.xs
  res := fun a x => .sl 1 (x 0) 1 0 a.n
  out := fun _ _ => []
  new := fun a x => [(x 0, .ints .i64 (lineL a.kind a.n (fun j => rd a.xs (a.lo + j))))]
def inv38 : List SV → Look → Option (LineA × List Nat)
  | [.int .i64 k, .sl c _ 1 lo n], look => match rowI (lkZ look (.ints .i64 []) c) with
    | some (L, .i64, xs) => some (⟨k, L, xs, lo, n.toNat⟩, [c])
    | _ => none
  | _, _ => none
attribute [push_cast] inv38
theorem ok38 : FSOk Try.prog 38 fs38 := by
  refine ⟨⟨_, Try.func38, by kernel_rfl, by kernel_rfl⟩, fun a => ⟨by simp [fs38, push_cast, noMine, argOwn, Chunk.frArg], by simp [fs38, push_cast, outOk, Chunk.ext], fun x => .inl (by simp [fs38, push_cast, frNew, frOut, Chunk.fr])⟩, fun a hp => ?_⟩
  obtain ⟨kind, L, xs, lo, n⟩ := a
  obtain ⟨hk, h1, h2, h3, h4, h5⟩ : (kind = 0 ∨ kind = 1) ∧ xs.length ≤ 140737488355328 ∧ 0 ≤ lo ∧ lo + n ≤ xs.length ∧ n ≤ 1000000 ∧ AllIn (-1073741824) 1073741824 xs := hp
  change Tri Try.prog 38 [.int .i64 kind, .sl 0 L 1 lo n] [some (.ro, L, .ints .i64 xs)] (postF fs38 ⟨kind, L, xs, lo, n⟩)
  obtain ⟨f, hf⟩ : ∃ f : Int → Int, (fun j => rd xs (lo + j)) = f := ⟨_, rfl⟩
  have hfj : ∀ j, rd xs (lo + j) = f j := fun j => by rw [← hf]
  have hB : BdF 1073741824 f := by rw [← hf]; exact BdF.rd h5 (by omega) lo
  obtain ⟨m, hm⟩ : ∃ m, n / 2 = m := ⟨_, rfl⟩
  have en : ((n : Int) / 2) = (m : Int) := by omega
  refine tri_evS (hyp (l := [(66, ent66)]) (lp := []) ⟨e66, trivial⟩ trivial) Try.func38 comp38 (rs := [.tmp 4]) (by rfl) Try.ntmps38 19 ?_
  simp -implicitDefEqProofs only [push_cast, false_implies, reduceCtorEq, Classical.not_not, Nat.reduceAdd, Nat.reduceSub, Nat.reduceMul, Nat.reduceLeDiff, Nat.reduceLT, Nat.reduceEqDiff, Nat.reduceBEq, Nat.reduceBNe, Int.reduceNeg, Int.reduceToNat, Bool.or_false, Bool.false_or, Bool.or_true, Bool.true_or, BEq.rfl, Bool.not_eq_true, Bool.not_eq_false, decide_eq_true_eq, not_true_eq_false, not_false_eq_true, ite_true, ite_false, List.append_nil, and_assoc, Nat.mul_zero, Nat.zero_mul, ir38]
  rw [en]
  repeat (refine And.intro (by first | omega | trivial | (intros; omega)) ?_)
  intro X
  repeat (refine And.intro (by first | omega | trivial | (intros; omega)) ?_)
  have ez : (m : Int).toNat = m := Int.toNat_natCast _
  refine evS_loopU (A := Nat) kp38_1 kl38_1 (fun i => [(21, .int .i64 i)]) (fun i => [(10, .mine, X 1 10, .ints .i64 (prt m i (hiF kind n f)))]) (fun i => i ≤ m) (fun i => m - i) 0 (by omega) (Sub.pt ?_) ?_
  · simp -implicitDefEqProofs only [push_cast, false_implies, reduceCtorEq, Classical.not_not, Nat.reduceAdd, Nat.reduceSub, Nat.reduceMul, Nat.reduceLeDiff, Nat.reduceLT, Nat.reduceEqDiff, Nat.reduceBEq, Nat.reduceBNe, Int.reduceNeg, Int.reduceToNat, Bool.or_false, Bool.false_or, Bool.or_true, Bool.true_or, BEq.rfl, Bool.not_eq_true, Bool.not_eq_false, decide_eq_true_eq, not_true_eq_false, not_false_eq_true, ite_true, ite_false, List.append_nil, and_assoc, Nat.mul_zero, Nat.zero_mul, prt_zero, ez]
  intro i (hi : i ≤ m) K hK
  simp -implicitDefEqProofs only [push_cast, false_implies, reduceCtorEq, Classical.not_not, Nat.reduceAdd, Nat.reduceSub, Nat.reduceMul, Nat.reduceLeDiff, Nat.reduceLT, Nat.reduceEqDiff, Nat.reduceBEq, Nat.reduceBNe, Int.reduceNeg, Int.reduceToNat, Bool.or_false, Bool.false_or, Bool.or_true, Bool.true_or, BEq.rfl, Bool.not_eq_true, Bool.not_eq_false, decide_eq_true_eq, not_true_eq_false, not_false_eq_true, ite_true, ite_false, List.append_nil, and_assoc, Nat.mul_zero, Nat.zero_mul, b38_1, r38_4]
  refine ⟨fun hl => ?_, fun hl => ?_⟩
  · have hi' : i < m := by omega
    have lP := prt_length hi (hiF kind n f)
    have q : (prt m i (hiF kind n f)).set i (hiF kind n f i) = prt m (i + 1) (hiF kind n f) := prt_set hi' _
    have b0 := hB (2 * i)
    have b1 := hB (2 * i + 1)
    have b2 := hB (2 * i + 2)
    have e2 : (2 : Int) ^ 1 = 2 := rfl
    simp only [hfj, List.length_set, e2]
    repeat (refine And.intro (by first | omega | trivial | (intros; omega)) ?_)
    refine ⟨fun hk0 => ?_, fun hk0 => ?_⟩
    · repeat (refine And.intro (by first | omega | trivial | (intros; omega)) ?_)
      refine ⟨fun hr => ?_, fun hr => ?_⟩
      · repeat (refine And.intro (by first | omega | trivial | (intros; omega)) ?_)
        refine hK (i + 1) (by omega) (by omega) _ _ (Sub.pt ?_)
        have e : f (2 * i + 1) - (f (2 * i) + f (2 * i + 2)) / 2 = hiF kind n f i := by simp [hiF, nxt, hk0, hr]
        simp -implicitDefEqProofs only [push_cast, false_implies, reduceCtorEq, Classical.not_not, Nat.reduceAdd, Nat.reduceSub, Nat.reduceMul, Nat.reduceLeDiff, Nat.reduceLT, Nat.reduceEqDiff, Nat.reduceBEq, Nat.reduceBNe, Int.reduceNeg, Int.reduceToNat, Bool.or_false, Bool.false_or, Bool.or_true, Bool.true_or, BEq.rfl, Bool.not_eq_true, Bool.not_eq_false, decide_eq_true_eq, not_true_eq_false, not_false_eq_true, ite_true, ite_false, List.append_nil, and_assoc, Nat.mul_zero, Nat.zero_mul, Int.toNat_natCast, List.set_set, e, q]
      · repeat (refine And.intro (by first | omega | trivial | (intros; omega)) ?_)
        refine hK (i + 1) (by omega) (by omega) _ _ (Sub.pt ?_)
        have e : f (2 * i + 1) - (f (2 * i) + f (2 * i)) / 2 = hiF kind n f i := by simp [hiF, nxt, hk0, hr]
        simp -implicitDefEqProofs only [push_cast, false_implies, reduceCtorEq, Classical.not_not, Nat.reduceAdd, Nat.reduceSub, Nat.reduceMul, Nat.reduceLeDiff, Nat.reduceLT, Nat.reduceEqDiff, Nat.reduceBEq, Nat.reduceBNe, Int.reduceNeg, Int.reduceToNat, Bool.or_false, Bool.false_or, Bool.or_true, Bool.true_or, BEq.rfl, Bool.not_eq_true, Bool.not_eq_false, decide_eq_true_eq, not_true_eq_false, not_false_eq_true, ite_true, ite_false, List.append_nil, and_assoc, Nat.mul_zero, Nat.zero_mul, Int.toNat_natCast, List.set_set, e, q]
    · repeat (refine And.intro (by first | omega | trivial | (intros; omega)) ?_)
      refine hK (i + 1) (by omega) (by omega) _ _ (Sub.pt ?_)
      have e : f (2 * i + 1) - f (2 * i) = hiF kind n f i := by simp [hiF, hk.resolve_left hk0]
      simp -implicitDefEqProofs only [push_cast, false_implies, reduceCtorEq, Classical.not_not, Nat.reduceAdd, Nat.reduceSub, Nat.reduceMul, Nat.reduceLeDiff, Nat.reduceLT, Nat.reduceEqDiff, Nat.reduceBEq, Nat.reduceBNe, Int.reduceNeg, Int.reduceToNat, Bool.or_false, Bool.false_or, Bool.or_true, Bool.true_or, BEq.rfl, Bool.not_eq_true, Bool.not_eq_false, decide_eq_true_eq, not_true_eq_false, not_false_eq_true, ite_true, ite_false, List.append_nil, and_assoc, Nat.mul_zero, Nat.zero_mul, Int.toNat_natCast, e, q]
  · obtain rfl : i = m := by omega
    rw [prt_all]
    have hh : tabl i (hiF kind n f) = hiL kind n f := by unfold hiL; rw [hm]
    rw [hh]
    have hHB := hiL_bd (kind := kind) (n := n) hB
    have hHl : (hiL kind n f).length = i := by unfold hiL; rw [tabl_length, hm]
    have hAl : AllIn (-4503599627370496) 4503599627370496 (hiL kind n f) := fun q hq => by have := hHB q hq; omega
    have hLB := fun j => liftG_bd (kind := kind) (BdF.rd0 (B := 2147483648) (fun q hq => by have := hHB q hq; omega : AllIn (-2147483648) 2147483648 (hiL kind n f)) (by omega)) (by omega) i j
    intro X1
    repeat (refine And.intro (by first | omega | trivial | (intros; omega)) ?_)
    refine evS_loopU (A := Nat × Xf.Loc) kp38_2 (11 :: kl38_2) (fun y => [(10, .sl 17 y.2 1 0 y.1), (81, .int .i64 y.1)]) (fun y => [(17, .mine, y.2, .ints .i64 (tabl y.1 (loF kind n f)))]) (fun y => y.1 ≤ n - i) (fun y => n - i - y.1) (0, X1 1 11) (Nat.zero_le _) (Sub.of (mkG 20 [(0, 0), (10, 10), (17, 11)]) ?_) ?_
    · simp -implicitDefEqProofs only [push_cast, false_implies, reduceCtorEq, Classical.not_not, Nat.reduceAdd, Nat.reduceSub, Nat.reduceMul, Nat.reduceLeDiff, Nat.reduceLT, Nat.reduceEqDiff, Nat.reduceBEq, Nat.reduceBNe, Int.reduceNeg, Int.reduceToNat, Bool.or_false, Bool.false_or, Bool.or_true, Bool.true_or, BEq.rfl, Bool.not_eq_true, Bool.not_eq_false, decide_eq_true_eq, not_true_eq_false, not_false_eq_true, ite_true, ite_false, List.append_nil, and_assoc, Nat.mul_zero, Nat.zero_mul, tabl_zero]
    intro ⟨j, N⟩ (hj : j ≤ n - i) K hK
    simp -implicitDefEqProofs only [push_cast, false_implies, reduceCtorEq, Classical.not_not, Nat.reduceAdd, Nat.reduceSub, Nat.reduceMul, Nat.reduceLeDiff, Nat.reduceLT, Nat.reduceEqDiff, Nat.reduceBEq, Nat.reduceBNe, Int.reduceNeg, Int.reduceToNat, Bool.or_false, Bool.false_or, Bool.or_true, Bool.true_or, BEq.rfl, Bool.not_eq_true, Bool.not_eq_false, decide_eq_true_eq, not_true_eq_false, not_false_eq_true, ite_true, ite_false, List.append_nil, and_assoc, Nat.mul_zero, Nat.zero_mul, b38_2, r38_3, fs66]
    refine ⟨fun hl => ?_, fun hl => ?_⟩
    · have b0 := hB (2 * j)
      have b3 := hLB j
      simp only [hfj, tabl_length, hHl]
      intro X2
      repeat (refine And.intro (by first | omega | trivial | (intros; omega)) ?_)
      refine hK (j + 1, X2 12 17) (show j + 1 ≤ n - i by omega) (show n - i - (j + 1) < n - i - j by omega) _ _ (Sub.pt ?_)
      have q : tabl j (loF kind n f) ++ [f (2 * j) + liftG kind (fun j => rd (hiL kind n f) j) i j] = tabl (j + 1) (loF kind n f) := by
        rw [← tabl_snoc]; unfold loF; rw [hm]
      simp -implicitDefEqProofs only [push_cast, false_implies, reduceCtorEq, Classical.not_not, Nat.reduceAdd, Nat.reduceSub, Nat.reduceMul, Nat.reduceLeDiff, Nat.reduceLT, Nat.reduceEqDiff, Nat.reduceBEq, Nat.reduceBNe, Int.reduceNeg, Int.reduceToNat, Bool.or_false, Bool.false_or, Bool.or_true, Bool.true_or, BEq.rfl, Bool.not_eq_true, Bool.not_eq_false, decide_eq_true_eq, not_true_eq_false, not_false_eq_true, ite_true, ite_false, List.append_nil, and_assoc, Nat.mul_zero, Nat.zero_mul, q]
    · have hj2 : j = n - i := by omega
      have ee : ((n - i : Nat) : Int) = n - i := by omega
      simp only [tabl_length, hHl]
      intro X2
      repeat (refine And.intro (by first | omega | trivial | (intros; omega)) ?_)
      refine postF.mk' (fun _ => X2 2 18) [some 0, some 18] ?_
      have q : tabl j (loF kind n f) ++ hiL kind n f = lineL kind n (fun j => rd xs (lo + j)) := by
        rw [hf, hj2]; unfold lineL; rw [hm]
      simp -implicitDefEqProofs only [push_cast, false_implies, reduceCtorEq, Classical.not_not, Nat.reduceAdd, Nat.reduceSub, Nat.reduceMul, Nat.reduceLeDiff, Nat.reduceLT, Nat.reduceEqDiff, Nat.reduceBEq, Nat.reduceBNe, Int.reduceNeg, Int.reduceToNat, Bool.or_false, Bool.false_or, Bool.or_true, Bool.true_or, BEq.rfl, Bool.not_eq_true, Bool.not_eq_false, decide_eq_true_eq, not_true_eq_false, not_false_eq_true, ite_true, ite_false, List.append_nil, and_assoc, Nat.mul_zero, Nat.zero_mul, fs38, q]
      omega
def ent38 : Entry := spOf fs38 inv38
theorem e38 : EntryOk Try.prog 38 ent38 := entry_of ok38 inv38
@[push_cast] theorem ent38_app (us : List SV) (look : Look) (x : Nat → Xf.Loc) (k : Nat) : ent38 us look x k = spOf fs38 inv38 us look x k := rfl
def b39_1 : IR :=
  .seq (.reg false [⟨some 33, none, ⟨[], []⟩, .bin 0 .lss (.t 32) (.t 31)⟩] [] []) (.seq (.cond (.t 33) (.skip) (.exit 0)) (.seq (.block 1 (.seq (.reg false [⟨some 34, none, ⟨[], []⟩, .mov (.t 32)⟩,
    ⟨some 10, none, ⟨[], []⟩, .mov (.t 34)⟩] [33, 34] []) (.reg true [⟨some 35, none, ⟨[], []⟩, .mov (.t 9)⟩,
    ⟨some 36, none, ⟨[], []⟩, .mov (.t 10)⟩,
    ⟨some 37, none, ⟨[], []⟩, .bin 0 .mul (.k (.int .i64 2)) (.t 36)⟩,
    ⟨some 38, none, ⟨[], []⟩, .mov (.t 7)⟩,
    ⟨some 39, none, ⟨[], []⟩, .mov (.t 10)⟩,
    ⟨some 40, none, ⟨[], []⟩, .idxS (.t 38) (.t 39) 1⟩,
    ⟨some 41, none, ⟨[11, 12, 13, 14], []⟩, .ld true none 0 0 (.t 40)⟩,
    ⟨some 42, none, ⟨[], []⟩, .mov (.t 0)⟩,
    ⟨some 43, none, ⟨[], []⟩, .mov (.t 8)⟩,
    ⟨some 44, none, ⟨[], []⟩, .mov (.t 10)⟩,
    ⟨some 45, none, ⟨[], []⟩, .call (some 4) 11 66 [.t 42, .t 43, .t 44]⟩,
    ⟨some 46, none, ⟨[], []⟩, .bin 0 .sub (.t 41) (.t 45)⟩,
    ⟨some 47, none, ⟨[], []⟩, .idxS (.t 35) (.t 37) 1⟩,
    ⟨none, none, ⟨[], []⟩, .sto true 1 .i64 (.t 47) (.t 46)⟩] [10, 35, 36, 37, 38, 39, 40, 41, 42, 43, 44, 45, 46, 47] []))) (.reg false [⟨some 48, none, ⟨[], []⟩, .bin 0 .add (.t 32) (.k (.int .i64 1))⟩,
    ⟨some 32, none, ⟨[], []⟩, .mov (.t 48)⟩] [48] [])))
def b39_2 : IR :=
  .seq (.reg false [⟨some 52, none, ⟨[], []⟩, .bin 0 .lss (.t 51) (.t 50)⟩] [] []) (.seq (.cond (.t 52) (.skip) (.exit 2)) (.seq (.block 3 (.seq (.reg false [⟨some 53, none, ⟨[], []⟩, .mov (.t 51)⟩,
    ⟨some 11, none, ⟨[], []⟩, .mov (.t 53)⟩] [52, 53] []) (.seq (.reg true [⟨some 54, none, ⟨[], []⟩, .mov (.t 9)⟩,
    ⟨some 55, none, ⟨[], []⟩, .mov (.t 11)⟩,
    ⟨some 56, none, ⟨[], []⟩, .bin 0 .mul (.k (.int .i64 2)) (.t 55)⟩,
    ⟨some 57, none, ⟨[], []⟩, .bin 0 .add (.t 56) (.k (.int .i64 1))⟩,
    ⟨some 58, none, ⟨[], []⟩, .mov (.t 8)⟩,
    ⟨some 59, none, ⟨[], []⟩, .mov (.t 11)⟩,
    ⟨some 60, none, ⟨[], []⟩, .idxS (.t 58) (.t 59) 1⟩,
    ⟨some 61, none, ⟨[], []⟩, .ld true none 0 0 (.t 60)⟩,
    ⟨some 62, none, ⟨[], []⟩, .mov (.t 9)⟩,
    ⟨some 63, none, ⟨[], []⟩, .mov (.t 11)⟩,
    ⟨some 64, none, ⟨[], []⟩, .bin 0 .mul (.k (.int .i64 2)) (.t 63)⟩,
    ⟨some 65, none, ⟨[], []⟩, .idxS (.t 62) (.t 64) 1⟩,
    ⟨some 66, none, ⟨[], []⟩, .ld true none 0 0 (.t 65)⟩,
    ⟨some 67, none, ⟨[], []⟩, .bin 0 .add (.t 61) (.t 66)⟩,
    ⟨some 68, none, ⟨[], []⟩, .idxS (.t 54) (.t 57) 1⟩,
    ⟨none, none, ⟨[], []⟩, .sto true 1 .i64 (.t 68) (.t 67)⟩] [54, 55, 56, 57, 58, 59, 60, 61, 62, 63, 64, 65, 66, 67, 68] []) (.seq (.reg false [⟨some 69, none, ⟨[], []⟩, .mov (.t 0)⟩,
    ⟨some 70, none, ⟨[], []⟩, .bin 0 .eql (.t 69) (.k (.int .i64 0))⟩] [69] []) (.cond (.t 70) (.seq (.reg false [⟨some 71, none, ⟨[], []⟩, .mov (.t 9)⟩,
    ⟨some 72, none, ⟨[], []⟩, .mov (.t 11)⟩,
    ⟨some 73, none, ⟨[], []⟩, .bin 0 .mul (.k (.int .i64 2)) (.t 72)⟩,
    ⟨some 74, none, ⟨[], []⟩, .idxS (.t 71) (.t 73) 1⟩,
    ⟨some 75, none, ⟨[], []⟩, .ld true none 0 0 (.t 74)⟩,
    ⟨some 12, none, ⟨[], []⟩, .mov (.t 75)⟩] [70, 71, 72, 73, 74, 75] []) (.seq (.seq (.reg false [⟨some 76, none, ⟨[], []⟩, .mov (.t 11)⟩,
    ⟨some 77, none, ⟨[], []⟩, .bin 0 .mul (.k (.int .i64 2)) (.t 76)⟩,
    ⟨some 78, none, ⟨[], []⟩, .bin 0 .add (.t 77) (.k (.int .i64 2))⟩,
    ⟨some 79, none, ⟨[], []⟩, .mov (.t 5)⟩,
    ⟨some 80, none, ⟨[], []⟩, .bin 0 .lss (.t 78) (.t 79)⟩] [76, 77, 78, 79] []) (.cond (.t 80) (.reg false [⟨some 81, none, ⟨[], []⟩, .mov (.t 9)⟩,
    ⟨some 82, none, ⟨[], []⟩, .mov (.t 11)⟩,
    ⟨some 83, none, ⟨[], []⟩, .bin 0 .mul (.k (.int .i64 2)) (.t 82)⟩,
    ⟨some 84, none, ⟨[], []⟩, .bin 0 .add (.t 83) (.k (.int .i64 2))⟩,
    ⟨some 85, none, ⟨[], []⟩, .idxS (.t 81) (.t 84) 1⟩,
    ⟨some 86, none, ⟨[], []⟩, .ld true none 0 0 (.t 85)⟩,
    ⟨some 12, none, ⟨[], []⟩, .mov (.t 86)⟩] [80, 81, 82, 83, 84, 85, 86] []) (.skip))) (.reg true [⟨some 87, none, ⟨[], []⟩, .mov (.t 9)⟩,
    ⟨some 88, none, ⟨[], []⟩, .mov (.t 11)⟩,
    ⟨some 89, none, ⟨[], []⟩, .bin 0 .mul (.k (.int .i64 2)) (.t 88)⟩,
    ⟨some 90, none, ⟨[], []⟩, .bin 0 .add (.t 89) (.k (.int .i64 1))⟩,
    ⟨some 91, none, ⟨[], []⟩, .mov (.t 8)⟩,
    ⟨some 92, none, ⟨[], []⟩, .mov (.t 11)⟩,
    ⟨some 93, none, ⟨[], []⟩, .idxS (.t 91) (.t 92) 1⟩,
    ⟨some 94, none, ⟨[], []⟩, .ld true none 0 0 (.t 93)⟩,
    ⟨some 95, none, ⟨[], []⟩, .mov (.t 9)⟩,
    ⟨some 96, none, ⟨[], []⟩, .mov (.t 11)⟩,
    ⟨some 97, none, ⟨[], []⟩, .bin 0 .mul (.k (.int .i64 2)) (.t 96)⟩,
    ⟨some 98, none, ⟨[], []⟩, .idxS (.t 95) (.t 97) 1⟩,
    ⟨some 99, none, ⟨[], []⟩, .ld true none 0 0 (.t 98)⟩,
    ⟨some 100, none, ⟨[], []⟩, .mov (.t 12)⟩,
    ⟨some 101, none, ⟨[], []⟩, .bin 0 .add (.t 99) (.t 100)⟩,
    ⟨some 102, none, ⟨[], []⟩, .bin 0 .shr (.t 101) (.k (.int .u64 1))⟩,
    ⟨some 103, none, ⟨[], []⟩, .bin 0 .add (.t 94) (.t 102)⟩,
    ⟨some 104, none, ⟨[], []⟩, .idxS (.t 87) (.t 90) 1⟩,
    ⟨none, none, ⟨[], []⟩, .sto true 1 .i64 (.t 104) (.t 103)⟩] [11, 12, 80, 87, 88, 89, 90, 91, 92, 93, 94, 95, 96, 97, 98, 99, 100, 101, 102, 103, 104] []))) (.skip)))))) (.reg false [⟨some 105, none, ⟨[], []⟩, .bin 0 .add (.t 51) (.k (.int .i64 1))⟩,
    ⟨some 51, none, ⟨[], []⟩, .mov (.t 105)⟩] [11, 70, 105] [])))
def r39_3 : IR :=
  .seq (.reg false [⟨some 106, none, ⟨[], []⟩, .mov (.t 9)⟩,
    ⟨some 4, none, ⟨[], []⟩, .mov (.t 106)⟩] [0, 5, 8, 9, 50, 51, 106] []) (.ret)
def r39_4 : IR :=
  .seq (.seq (.reg false [⟨some 49, none, ⟨[], []⟩, .mov (.t 8)⟩,
    ⟨some 50, none, ⟨[], []⟩, .len (.t 49)⟩,
    ⟨some 51, none, ⟨[], []⟩, .mov (.k (.int .i64 0))⟩] [7, 31, 32, 49] []) (.block 2 (.loop b39_2))) (r39_3)
def ir39 : IR :=
  .seq (.reg false [⟨some 4, none, ⟨[], []⟩, .mov (.k nilSV)⟩] [4] []) (.seq (.reg false [⟨some 13, none, ⟨[], []⟩, .mov (.t 1)⟩,
    ⟨some 14, none, ⟨[], []⟩, .len (.t 13)⟩,
    ⟨some 15, none, ⟨[], []⟩, .mov (.t 1)⟩,
    ⟨some 16, none, ⟨[], []⟩, .len (.t 15)⟩,
    ⟨some 17, none, ⟨[], []⟩, .bin 0 .quo (.t 16) (.k (.int .i64 2))⟩,
    ⟨some 5, none, ⟨[], []⟩, .mov (.t 14)⟩,
    ⟨some 6, none, ⟨[], []⟩, .mov (.t 17)⟩] [13, 14, 15, 16, 17] []) (.seq (.reg true [⟨some 18, none, ⟨[], []⟩, .mov (.t 1)⟩,
    ⟨some 19, none, ⟨[], []⟩, .mov (.t 5)⟩,
    ⟨some 20, none, ⟨[], []⟩, .mov (.t 6)⟩,
    ⟨some 21, none, ⟨[], []⟩, .bin 0 .sub (.t 19) (.t 20)⟩,
    ⟨some 22, none, ⟨[], []⟩, .slc (.t 18) 1 none (some (.t 21))⟩,
    ⟨some 23, none, ⟨[], []⟩, .mov (.t 1)⟩,
    ⟨some 24, none, ⟨[], []⟩, .mov (.t 5)⟩,
    ⟨some 25, none, ⟨[], []⟩, .mov (.t 6)⟩,
    ⟨some 26, none, ⟨[], []⟩, .bin 0 .sub (.t 24) (.t 25)⟩,
    ⟨some 27, none, ⟨[], []⟩, .slc (.t 23) 1 (some (.t 26)) none⟩,
    ⟨some 7, none, ⟨[], []⟩, .mov (.t 22)⟩,
    ⟨some 8, none, ⟨[], []⟩, .mov (.t 27)⟩] [1, 6, 18, 19, 20, 21, 22, 23, 24, 25, 26, 27] []) (.seq (.reg false [⟨some 28, none, ⟨[], []⟩, .mov (.t 5)⟩,
    ⟨some 29, none, ⟨[], []⟩, .mks 10 (.int .i64 0) 8 (.t 28) (.t 28)⟩,
    ⟨some 9, none, ⟨[], []⟩, .mov (.t 29)⟩] [28, 29] []) (.seq (.seq (.reg false [⟨some 30, none, ⟨[], []⟩, .mov (.t 7)⟩,
    ⟨some 31, none, ⟨[], []⟩, .len (.t 30)⟩,
    ⟨some 32, none, ⟨[], []⟩, .mov (.k (.int .i64 0))⟩] [30] []) (.block 0 (.loop b39_1))) (r39_4)))))
def kp39_1 : List Nat := [0, 5, 7, 8, 9, 31, 32]
def kl39_1 : List Nat := [11, 12, 13, 14]
attribute [push_cast] kp39_1 kl39_1
def kp39_2 : List Nat := [0, 5, 8, 9, 50, 51]
def kl39_2 : List Nat := []
attribute [push_cast] kp39_2 kl39_2
set_option maxRecDepth 4000 in
theorem comp39 : (Try.f39.body.bind fun c => compC tab isP chkAll ir39 c) = some ir39 := by kernel_rfl
def evF (kind : Int) (n : Nat) (f : Int → Int) (i : Nat) : Int := f i - liftG kind (fun j => f ((n : Int) - (n / 2 : Nat) + j)) (n / 2 : Nat) i
def odF (kind : Int) (n : Nat) (f : Int → Int) (i : Nat) : Int :=
  if kind = 1 then f ((n : Int) - (n / 2 : Nat) + i) + evF kind n f i else f ((n : Int) - (n / 2 : Nat) + i) + (evF kind n f i + (if 2 * i + 2 < n then evF kind n f (i + 1) else evF kind n f i)) / 2
def unF1 (kind : Int) (n : Nat) (f : Int → Int) (i k : Nat) : Int := if k % 2 = 0 ∧ k / 2 < i then evF kind n f (k / 2) else 0
def unF2 (kind : Int) (n : Nat) (f : Int → Int) (i k : Nat) : Int := if k % 2 = 0 then evF kind n f (k / 2) else if k / 2 < i then odF kind n f (k / 2) else 0
def unL (kind : Int) (n : Nat) (f : Int → Int) : List Int := tabl n (unF2 kind n f (n / 2))
theorem unL_length (kind : Int) (n : Nat) (f : Int → Int) : (unL kind n f).length = n := tabl_length _ _
theorem unF1_zero (kind : Int) (n : Nat) (f : Int → Int) : tabl n (unF1 kind n f 0) = List.replicate n 0 := by
  refine eq_of_rd (by rw [tabl_length, List.length_replicate]) fun j hj => ?_
  rw [tabl_length] at hj
  rw [rd_tabl hj, rd_lt _ _ (by rw [List.length_replicate]; exact hj)]
  simp [unF1]
theorem unF1_set {kind : Int} {n : Nat} {f : Int → Int} {i : Nat} (h : 2 * i < n) : (tabl n (unF1 kind n f i)).set (2 * i) (evF kind n f i) = tabl n (unF1 kind n f (i + 1)) := by
  rw [tabl_set h]
  refine tabl_congr fun j hj => ?_
  unfold unF1
  by_cases e : j = 2 * i
  · subst e; rw [if_pos rfl, if_pos (by omega), show 2 * i / 2 = i by omega]
  · rw [if_neg e]
    by_cases h2 : j % 2 = 0 ∧ j / 2 < i
    · rw [if_pos h2, if_pos (by omega)]
    · rw [if_neg h2, if_neg (by omega)]
theorem unF1_all (kind : Int) (n : Nat) (f : Int → Int) : tabl n (unF1 kind n f (n - n / 2)) = tabl n (unF2 kind n f 0) := by
  refine tabl_congr fun j hj => ?_
  unfold unF1 unF2
  by_cases h2 : j % 2 = 0
  · rw [if_pos (by omega), if_pos h2]
  · rw [if_neg (by omega), if_neg h2, if_neg (by omega)]
theorem unF2_set {kind : Int} {n : Nat} {f : Int → Int} {i : Nat} (h : 2 * i + 1 < n) : (tabl n (unF2 kind n f i)).set (2 * i + 1) (odF kind n f i) = tabl n (unF2 kind n f (i + 1)) := by
  rw [tabl_set h]
  refine tabl_congr fun j hj => ?_
  unfold unF2
  by_cases e : j = 2 * i + 1
  · subst e; rw [if_pos rfl, if_neg (by omega), if_pos (by omega), show (2 * i + 1) / 2 = i by omega]
  · rw [if_neg e]
    by_cases h2 : j % 2 = 0
    · rw [if_pos h2, if_pos h2]
    · rw [if_neg h2, if_neg h2]
      by_cases h3 : j / 2 < i
      · rw [if_pos h3, if_pos (by omega)]
      · rw [if_neg h3, if_neg (by omega)]
theorem unF2_rd {kind : Int} {n : Nat} {f : Int → Int} {i k : Nat} (h : 2 * k < n) : rd (tabl n (unF2 kind n f i)) (2 * (k : Int)) = evF kind n f k := by
  have := rd_tabl (f := unF2 kind n f i) h
  rw [show ((2 * k : Nat) : Int) = 2 * (k : Int) by omega] at this
  rw [this]; unfold unF2; rw [if_pos (by omega), show 2 * k / 2 = k by omega]
theorem rd_set_ne {xs : List Int} {i : Nat} {j : Int} (v : Int) (h : j.toNat ≠ i) : rd (xs.set i v) j = rd xs j := by
  unfold rd
  simp [List.getElem?_set, Ne.symm h]
theorem evF_bd {kind : Int} {n : Nat} {f : Int → Int} {B : Int} (h : BdF B f) (h0 : 0 ≤ B) (i : Nat) : -(2 * B + 1) ≤ evF kind n f i ∧ evF kind n f i ≤ 2 * B + 1 := by
  have h1 := h i
  have h2 := liftG_bd (kind := kind) (g := fun j => f ((n : Int) - (n / 2 : Nat) + j)) (fun j => h _) h0 (n / 2 : Nat) i
  unfold evF
  omega
def fs39 : FS where
  A := LineA
  args := fun a => [.int .i64 a.kind, .sl 0 a.L 1 a.lo a.n]
  mem := fun a => [some (.ro, a.L, .ints .i64 a.xs)]
  pre := fun a => (a.kind = 0 ∨ a.kind = 1) ∧ a.xs.length ≤ 140737488355328 ∧ 0 ≤ a.lo ∧ a.lo + a.n ≤ a.xs.length ∧ a.n ≤ 1000000 ∧ AllIn (-1125899906842624) 1125899906842624 a.xs
  res := fun a x => .sl 1 (x 0) 1 0 a.n
  out := fun _ _ => []
  new := fun a x => [(x 0, .ints .i64 (unL a.kind a.n (fun j => rd a.xs (a.lo + j))))]
theorem ok39 : FSOk Try.prog 39 fs39 := by
  refine ⟨⟨_, Try.func39, by kernel_rfl, by kernel_rfl⟩, fun a => ⟨by simp [fs39, push_cast, noMine, argOwn, Chunk.frArg], by simp [fs39, push_cast, outOk, Chunk.ext], fun x => .inl (by simp [fs39, push_cast, frNew, frOut, Chunk.fr])⟩, fun a hp => ?_⟩
  obtain ⟨kind, L, xs, lo, n⟩ := a
  obtain ⟨hk, h1, h2, h3, h4, h5⟩ : (kind = 0 ∨ kind = 1) ∧ xs.length ≤ 140737488355328 ∧ 0 ≤ lo ∧ lo + n ≤ xs.length ∧ n ≤ 1000000 ∧ AllIn (-1125899906842624) 1125899906842624 xs := hp
  change Tri Try.prog 39 [.int .i64 kind, .sl 0 L 1 lo n] [some (.ro, L, .ints .i64 xs)] (postF fs39 ⟨kind, L, xs, lo, n⟩)
  have h52 : AllIn (-4503599627370496) 4503599627370496 xs := fun n hn => by have := h5 n hn; omega
  obtain ⟨f, hf⟩ : ∃ f : Int → Int, (fun j => rd xs (lo + j)) = f := ⟨_, rfl⟩
  have hfj : ∀ j, rd xs (lo + j) = f j := fun j => by rw [← hf]
  have hB : BdF 1125899906842624 f := by rw [← hf]; exact BdF.rd h5 (by omega) lo
  obtain ⟨m, hm⟩ : ∃ m, n / 2 = m := ⟨_, rfl⟩
  have en : ((n : Int) / 2) = (m : Int) := by omega
  refine tri_evS (hyp (l := [(66, ent66)]) (lp := []) ⟨e66, trivial⟩ trivial) Try.func39 comp39 (rs := [.tmp 4]) (by rfl) Try.ntmps39 15 ?_
  simp -implicitDefEqProofs only [push_cast, false_implies, reduceCtorEq, Classical.not_not, Nat.reduceAdd, Nat.reduceSub, Nat.reduceMul, Nat.reduceLeDiff, Nat.reduceLT, Nat.reduceEqDiff, Nat.reduceBEq, Nat.reduceBNe, Int.reduceNeg, Int.reduceToNat, Bool.or_false, Bool.false_or, Bool.or_true, Bool.true_or, BEq.rfl, Bool.not_eq_true, Bool.not_eq_false, decide_eq_true_eq, not_true_eq_false, not_false_eq_true, ite_true, ite_false, List.append_nil, and_assoc, Nat.mul_zero, Nat.zero_mul, ir39]
  rw [en]
  repeat (refine And.intro (by first | omega | trivial | (intros; omega)) ?_)
  have ed : (n : Int) - (n - m) = m := by omega
  have hgj : ∀ j, rd xs (lo + ((n : Int) - m) + j) = f ((n : Int) - m + j) := fun j => by rw [← hf]; simp only [Int.add_assoc]
  simp only [ed, Int.sub_zero]
  intro X
  repeat (refine And.intro (by first | omega | trivial | (intros; omega)) ?_)
  have hev : ∀ i : Nat, f i - liftG kind (fun j => f ((n : Int) - m + j)) m i = evF kind n f i := fun i => by unfold evF; rw [hm]
  have hbe := fun i => evF_bd (kind := kind) (n := n) hB (by omega) i
  have hLB := fun i => liftG_bd (kind := kind) (g := fun j => f ((n : Int) - m + j)) (fun j => hB _) (by omega) (m : Int) i
  refine evS_loopU (A := Nat) kp39_1 kl39_1 (fun i => [(32, .int .i64 i)]) (fun i => [(10, .mine, X 1 10, .ints .i64 (tabl n (unF1 kind n f i)))]) (fun i => i ≤ n - m) (fun i => n - m - i) 0 (by omega) (Sub.pt ?_) ?_
  · simp -implicitDefEqProofs only [push_cast, false_implies, reduceCtorEq, Classical.not_not, Nat.reduceAdd, Nat.reduceSub, Nat.reduceMul, Nat.reduceLeDiff, Nat.reduceLT, Nat.reduceEqDiff, Nat.reduceBEq, Nat.reduceBNe, Int.reduceNeg, Int.reduceToNat, Bool.or_false, Bool.false_or, Bool.or_true, Bool.true_or, BEq.rfl, Bool.not_eq_true, Bool.not_eq_false, decide_eq_true_eq, not_true_eq_false, not_false_eq_true, ite_true, ite_false, List.append_nil, and_assoc, Nat.mul_zero, Nat.zero_mul, unF1_zero, Int.toNat_natCast]
  intro i (hi : i ≤ n - m) K hK
  simp -implicitDefEqProofs only [push_cast, false_implies, reduceCtorEq, Classical.not_not, Nat.reduceAdd, Nat.reduceSub, Nat.reduceMul, Nat.reduceLeDiff, Nat.reduceLT, Nat.reduceEqDiff, Nat.reduceBEq, Nat.reduceBNe, Int.reduceNeg, Int.reduceToNat, Bool.or_false, Bool.false_or, Bool.or_true, Bool.true_or, BEq.rfl, Bool.not_eq_true, Bool.not_eq_false, decide_eq_true_eq, not_true_eq_false, not_false_eq_true, ite_true, ite_false, List.append_nil, and_assoc, Nat.mul_zero, Nat.zero_mul, b39_1, r39_4, fs66]
  refine ⟨fun hl => ?_, fun hl => ?_⟩
  · have hi' : 2 * i < n := by omega
    have b0 := hB i
    have b1 := hbe i
    have b2 := hLB i
    have et : (2 * (i : Int)).toNat = 2 * i := by omega
    have q := unF1_set (kind := kind) (f := f) hi'
    simp only [hfj, hgj, tabl_length]
    repeat (refine And.intro (by first | omega | trivial | (intros; omega)) ?_)
    refine hK (i + 1) (by omega) (by omega) _ _ (Sub.pt ?_)
    simp -implicitDefEqProofs only [push_cast, false_implies, reduceCtorEq, Classical.not_not, Nat.reduceAdd, Nat.reduceSub, Nat.reduceMul, Nat.reduceLeDiff, Nat.reduceLT, Nat.reduceEqDiff, Nat.reduceBEq, Nat.reduceBNe, Int.reduceNeg, Int.reduceToNat, Bool.or_false, Bool.false_or, Bool.or_true, Bool.true_or, BEq.rfl, Bool.not_eq_true, Bool.not_eq_false, decide_eq_true_eq, not_true_eq_false, not_false_eq_true, ite_true, ite_false, List.append_nil, and_assoc, Nat.mul_zero, Nat.zero_mul, et, hev, q]
  · obtain rfl : i = n - m := by omega
    clear hK
    have q := unF1_all kind n f
    rw [hm] at q
    rw [q]
    repeat (refine And.intro (by first | omega | trivial | (intros; omega)) ?_)
    refine evS_loopU (A := Nat) kp39_2 kl39_2 (fun i => [(51, .int .i64 i)]) (fun i => [(10, .mine, X 1 10, .ints .i64 (tabl n (unF2 kind n f i)))]) (fun i => i ≤ m) (fun i => m - i) 0 (by omega) (Sub.pt ?_) ?_
    · simp -implicitDefEqProofs only [push_cast, false_implies, reduceCtorEq, Classical.not_not, Nat.reduceAdd, Nat.reduceSub, Nat.reduceMul, Nat.reduceLeDiff, Nat.reduceLT, Nat.reduceEqDiff, Nat.reduceBEq, Nat.reduceBNe, Int.reduceNeg, Int.reduceToNat, Bool.or_false, Bool.false_or, Bool.or_true, Bool.true_or, BEq.rfl, Bool.not_eq_true, Bool.not_eq_false, decide_eq_true_eq, not_true_eq_false, not_false_eq_true, ite_true, ite_false, List.append_nil, and_assoc, Nat.mul_zero, Nat.zero_mul]
    intro i (hi : i ≤ m) K hK
    simp -implicitDefEqProofs only [push_cast, false_implies, reduceCtorEq, Classical.not_not, Nat.reduceAdd, Nat.reduceSub, Nat.reduceMul, Nat.reduceLeDiff, Nat.reduceLT, Nat.reduceEqDiff, Nat.reduceBEq, Nat.reduceBNe, Int.reduceNeg, Int.reduceToNat, Bool.or_false, Bool.false_or, Bool.or_true, Bool.true_or, BEq.rfl, Bool.not_eq_true, Bool.not_eq_false, decide_eq_true_eq, not_true_eq_false, not_false_eq_true, ite_true, ite_false, List.append_nil, and_assoc, Nat.mul_zero, Nat.zero_mul, b39_2, r39_3]
    refine ⟨fun hl => ?_, fun hl => ?_⟩
    · have hi' : 2 * i + 1 < n := by omega
      have b0 := hB ((n : Int) - m + i)
      have b1 := hbe i
      have b2 := hbe (i + 1)
      have et : (2 * (i : Int) + 1).toNat = 2 * i + 1 := by omega
      have q := unF2_set (kind := kind) (f := f) hi'
      have r0 := unF2_rd (kind := kind) (f := f) (i := i) (k := i) (n := n) (by omega)
      have r1 : 2 * (i : Int) + 2 < n → rd (tabl n (unF2 kind n f i)) (2 * (i : Int) + 2) = evF kind n f (i + 1) := fun hh => by
        have := unF2_rd (kind := kind) (f := f) (i := i) (k := i + 1) (n := n) (by omega)
        rwa [show 2 * ((i + 1 : Nat) : Int) = 2 * (i : Int) + 2 by omega] at this
      have w0 : ∀ v, rd ((tabl n (unF2 kind n f i)).set (2 * i + 1) v) (2 * (i : Int)) = evF kind n f i := fun v => by rw [rd_set_ne v (by omega), r0]
      have w1 : 2 * (i : Int) + 2 < n → ∀ v, rd ((tabl n (unF2 kind n f i)).set (2 * i + 1) v) (2 * (i : Int) + 2) = evF kind n f (i + 1) := fun hh v => by rw [rd_set_ne v (by omega), r1 hh]
      have e2 : (2 : Int) ^ 1 = 2 := rfl
      simp only [hgj, tabl_length, et, r0, w0, e2, List.length_set, List.set_set]
      repeat (refine And.intro (by first | omega | trivial | (intros; omega)) ?_)
      refine ⟨fun hk0 => ?_, fun hk0 => ?_⟩
      · repeat (refine And.intro (by first | omega | trivial | (intros; omega)) ?_)
        refine ⟨fun hr => ?_, fun hr => ?_⟩
        · simp only [w1 hr]
          repeat (refine And.intro (by first | omega | trivial | (intros; omega)) ?_)
          refine hK (i + 1) (by omega) (by omega) _ _ (Sub.pt ?_)
          have e : odF kind n f i = f ((n : Int) - m + i) + (evF kind n f i + evF kind n f (i + 1)) / 2 := by
            unfold odF; rw [hm, if_neg (by omega), if_pos (by omega)]
          rw [e] at q
          simp -implicitDefEqProofs only [push_cast, false_implies, reduceCtorEq, Classical.not_not, Nat.reduceAdd, Nat.reduceSub, Nat.reduceMul, Nat.reduceLeDiff, Nat.reduceLT, Nat.reduceEqDiff, Nat.reduceBEq, Nat.reduceBNe, Int.reduceNeg, Int.reduceToNat, Bool.or_false, Bool.false_or, Bool.or_true, Bool.true_or, BEq.rfl, Bool.not_eq_true, Bool.not_eq_false, decide_eq_true_eq, not_true_eq_false, not_false_eq_true, ite_true, ite_false, List.append_nil, and_assoc, Nat.mul_zero, Nat.zero_mul, q]
        · repeat (refine And.intro (by first | omega | trivial | (intros; omega)) ?_)
          refine hK (i + 1) (by omega) (by omega) _ _ (Sub.pt ?_)
          have e : odF kind n f i = f ((n : Int) - m + i) + (evF kind n f i + evF kind n f i) / 2 := by
            unfold odF; rw [hm, if_neg (by omega), if_neg (by omega)]
          rw [e] at q
          simp -implicitDefEqProofs only [push_cast, false_implies, reduceCtorEq, Classical.not_not, Nat.reduceAdd, Nat.reduceSub, Nat.reduceMul, Nat.reduceLeDiff, Nat.reduceLT, Nat.reduceEqDiff, Nat.reduceBEq, Nat.reduceBNe, Int.reduceNeg, Int.reduceToNat, Bool.or_false, Bool.false_or, Bool.or_true, Bool.true_or, BEq.rfl, Bool.not_eq_true, Bool.not_eq_false, decide_eq_true_eq, not_true_eq_false, not_false_eq_true, ite_true, ite_false, List.append_nil, and_assoc, Nat.mul_zero, Nat.zero_mul, q]
      · repeat (refine And.intro (by first | omega | trivial | (intros; omega)) ?_)
        refine hK (i + 1) (by omega) (by omega) _ _ (Sub.pt ?_)
        have e : odF kind n f i = f ((n : Int) - m + i) + evF kind n f i := by
          unfold odF; rw [hm, if_pos (by omega)]
        rw [e] at q
        simp -implicitDefEqProofs only [push_cast, false_implies, reduceCtorEq, Classical.not_not, Nat.reduceAdd, Nat.reduceSub, Nat.reduceMul, Nat.reduceLeDiff, Nat.reduceLT, Nat.reduceEqDiff, Nat.reduceBEq, Nat.reduceBNe, Int.reduceNeg, Int.reduceToNat, Bool.or_false, Bool.false_or, Bool.or_true, Bool.true_or, BEq.rfl, Bool.not_eq_true, Bool.not_eq_false, decide_eq_true_eq, not_true_eq_false, not_false_eq_true, ite_true, ite_false, List.append_nil, and_assoc, Nat.mul_zero, Nat.zero_mul, q]
    · obtain rfl : i = m := by omega
      refine postF.mk' (fun _ => X 1 10) [some 0, some 10] ?_
      have q2 : tabl n (unF2 kind n f i) = unL kind n (fun j => rd xs (lo + j)) := by rw [hf]; unfold unL; rw [hm]
      simp -implicitDefEqProofs only [push_cast, false_implies, reduceCtorEq, Classical.not_not, Nat.reduceAdd, Nat.reduceSub, Nat.reduceMul, Nat.reduceLeDiff, Nat.reduceLT, Nat.reduceEqDiff, Nat.reduceBEq, Nat.reduceBNe, Int.reduceNeg, Int.reduceToNat, Bool.or_false, Bool.false_or, Bool.or_true, Bool.true_or, BEq.rfl, Bool.not_eq_true, Bool.not_eq_false, decide_eq_true_eq, not_true_eq_false, not_false_eq_true, ite_true, ite_false, List.append_nil, and_assoc, Nat.mul_zero, Nat.zero_mul, fs39, q2]
def ent39 : Entry := spOf fs39 inv38
theorem e39 : EntryOk Try.prog 39 ent39 := entry_of ok39 inv38
@[push_cast] theorem ent39_app (us : List SV) (look : Look) (x : Nat → Xf.Loc) (k : Nat) : ent39 us look x k = spOf fs39 inv38 us look x k := rfl
def ir14 : IR :=
  .seq (.reg false [⟨some 4, none, ⟨[], []⟩, .mov (.k nilSV)⟩,
    ⟨some 5, none, ⟨[], []⟩, .mov (.k (.int .i64 0))⟩] [4, 5] []) (.seq (.seq (.reg false [⟨some 6, none, ⟨[], []⟩, .mov (.t 0)⟩,
    ⟨some 7, none, ⟨[], []⟩, .callp 36 [.t 6]⟩,
    ⟨some 8, none, ⟨[], []⟩, .not (.t 7)⟩,
    ⟨some 9, none, ⟨[], []⟩, .mov (.t 8)⟩,
    ⟨some 10, some (9, false), ⟨[], []⟩, .mov (.t 1)⟩,
    ⟨some 11, some (9, false), ⟨[], []⟩, .len (.t 10)⟩,
    ⟨some 12, some (9, false), ⟨[], []⟩, .bin 0 .gtr (.t 11) (.k (.int .i64 8192))⟩,
    ⟨some 13, none, ⟨[], []⟩, .pick (.t 9) (.k (.bool true)) (.t 12)⟩,
    ⟨some 14, none, ⟨[], []⟩, .mov (.t 13)⟩,
    ⟨some 15, some (14, false), ⟨[], []⟩, .mov (.t 1)⟩,
    ⟨some 16, some (14, false), ⟨[], []⟩, .call (some 4) 10 37 [.t 15, .k (.int .i64 16777216)]⟩,
    ⟨some 17, some (14, false), ⟨[], []⟩, .not (.t 16)⟩,
    ⟨some 18, none, ⟨[], []⟩, .pick (.t 14) (.k (.bool true)) (.t 17)⟩] [6, 7, 8, 9, 10, 11, 12, 13, 14, 15, 16, 17] []) (.cond (.t 18) (.seq (.reg false [⟨some 4, none, ⟨[], []⟩, .mov (.k nilSV)⟩,
    ⟨some 5, none, ⟨[], []⟩, .mov (.k (.int .i64 2))⟩] [0, 1, 18] []) (.ret)) (.skip))) (.seq (.reg false [⟨some 19, none, ⟨[], []⟩, .mov (.t 0)⟩,
    ⟨some 20, none, ⟨[], []⟩, .mov (.t 1)⟩,
    ⟨some 21, none, ⟨[], []⟩, .call (some 4) 14 38 [.t 19, .t 20]⟩,
    ⟨some 4, none, ⟨[], []⟩, .mov (.t 21)⟩,
    ⟨some 5, none, ⟨[], []⟩, .mov (.k (.int .i64 0))⟩] [0, 1, 18, 19, 20, 21] []) (.ret)))
set_option maxRecDepth 4000 in
theorem comp14 : (Try.f14.body.bind fun c => compC tab isP chkAll ir14 c) = some ir14 := by kernel_rfl
structure LnA where
  kind : Int
  L : Xf.Loc
  xs : List Int
def lnOk (kind : Int) (xs : List Int) : Prop := (kind = 0 ∨ kind = 1) ∧ xs.length ≤ 8192 ∧ AllIn (-16777216) 16777216 xs
instance (kind : Int) (xs : List Int) : Decidable (lnOk kind xs) := by unfold lnOk; infer_instance
def inv16 : List SV → Look → Option (LnA × List Nat)
  | [.int .i64 k, .sl c _ 1 0 _], look => match rowI (lkZ look (.ints .i64 []) c) with
    | some (L, .i64, xs) => some (⟨k, L, xs⟩, [c])
    | _ => none
  | _, _ => none
attribute [push_cast] inv16
def lnR (kind : Int) (xs : List Int) : List Int := if lnOk kind xs then lineL kind xs.length (fun j => rd xs j) else []
def fs14 : FS where
  A := LnA
  args := fun a => [.int .i64 a.kind, .sl 0 a.L 1 0 a.xs.length]
  mem := fun a => [some (.ro, a.L, .ints .i64 a.xs)]
  pre := fun a => a.xs.length ≤ 140737488355328
  res := fun a x => .tup [.sl 1 (lx (lnOk a.kind a.xs) x 0) 1 0 (lnR a.kind a.xs).length, .int .i64 (if lnOk a.kind a.xs then 0 else 2)]
  out := fun _ _ => []
  new := fun a x => [(lx (lnOk a.kind a.xs) x 0, .ints .i64 (lnR a.kind a.xs))]
theorem ok14 : FSOk Try.prog 14 fs14 := by
  refine ⟨⟨_, Try.func14, by kernel_rfl, by kernel_rfl⟩, fun a => ⟨by simp [fs14, push_cast, noMine, argOwn, Chunk.frArg], by simp [fs14, push_cast, outOk, Chunk.ext], fun x => .inl (by simp [fs14, push_cast, frNew, frOut, Chunk.fr])⟩, fun a hp => ?_⟩
  obtain ⟨kind, L, xs⟩ := a
  change xs.length ≤ 140737488355328 at hp
  change Tri Try.prog 14 [.int .i64 kind, .sl 0 L 1 0 xs.length] [some (.ro, L, .ints .i64 xs)] (postF fs14 ⟨kind, L, xs⟩)
  refine tri_evS (hyp (l := [(37, ent37), (38, ent38)]) (lp := [(36, kindF)]) ⟨e37, e38, trivial⟩ ⟨p36, trivial⟩) Try.func14 comp14 (rs := [.tmp 4, .tmp 5]) (by rfl) Try.ntmps14 18 ?_
  simp -implicitDefEqProofs only [push_cast, false_implies, reduceCtorEq, Classical.not_not, Nat.reduceAdd, Nat.reduceSub, Nat.reduceMul, Nat.reduceLeDiff, Nat.reduceLT, Nat.reduceEqDiff, Nat.reduceBEq, Nat.reduceBNe, Int.reduceNeg, Int.reduceToNat, Bool.or_false, Bool.false_or, Bool.or_true, Bool.true_or, BEq.rfl, Bool.not_eq_true, Bool.not_eq_false, decide_eq_true_eq, not_true_eq_false, not_false_eq_true, ite_true, ite_false, List.append_nil, and_assoc, Nat.mul_zero, Nat.zero_mul, ir14, fs37, fs38, hp]
  refine ⟨fun q => ⟨q, by omega, by omega⟩, fun hn => ?_, fun hy X => ?_⟩
  · have e : ¬ lnOk kind xs := fun H => by
      obtain ⟨q1, q2, q3⟩ := H
      simp only [q1, q3, not_true_eq_false, false_or, or_false] at hn
      omega
    refine postF.mk' (fun _ => default) [some 0, none] ?_
    simp -implicitDefEqProofs only [push_cast, false_implies, reduceCtorEq, Classical.not_not, Nat.reduceAdd, Nat.reduceSub, Nat.reduceMul, Nat.reduceLeDiff, Nat.reduceLT, Nat.reduceEqDiff, Nat.reduceBEq, Nat.reduceBNe, Int.reduceNeg, Int.reduceToNat, Bool.or_false, Bool.false_or, Bool.or_true, Bool.true_or, BEq.rfl, Bool.not_eq_true, Bool.not_eq_false, decide_eq_true_eq, not_true_eq_false, not_false_eq_true, ite_true, ite_false, List.append_nil, and_assoc, Nat.mul_zero, Nat.zero_mul, fs14, lnR, e, if_false, lx, List.length_nil]
  · have q3 : AllIn (-16777216) 16777216 xs := Classical.byContradiction fun q => hy (.inr q)
    have q1 : kind = 0 ∨ kind = 1 := Classical.byContradiction fun q => hy (.inl (.inl q))
    have q2 : xs.length ≤ 8192 := by
      have : ¬ 8192 < (xs.length : Int) := fun q => hy (.inl (.inr q))
      omega
    have e : lnOk kind xs := ⟨q1, q2, q3⟩
    have hA : AllIn (-1073741824) 1073741824 xs := fun n hn => by have := q3 n hn; omega
    simp only [Int.toNat_natCast]
    repeat (refine And.intro (by first | omega | trivial | (intros; omega)) ?_)
    refine postF.mk' (fun _ => X 2 14) [some 0, some 14] ?_
    simp -implicitDefEqProofs only [push_cast, false_implies, reduceCtorEq, Classical.not_not, Nat.reduceAdd, Nat.reduceSub, Nat.reduceMul, Nat.reduceLeDiff, Nat.reduceLT, Nat.reduceEqDiff, Nat.reduceBEq, Nat.reduceBNe, Int.reduceNeg, Int.reduceToNat, Bool.or_false, Bool.false_or, Bool.or_true, Bool.true_or, BEq.rfl, Bool.not_eq_true, Bool.not_eq_false, decide_eq_true_eq, not_true_eq_false, not_false_eq_true, ite_true, ite_false, List.append_nil, and_assoc, Nat.mul_zero, Nat.zero_mul, fs14, lnR, e, if_true, lx, lineL_length]
def ent14 : Entry := spOf fs14 inv16
theorem e14 : EntryOk Try.prog 14 ent14 := entry_of ok14 inv16
@[push_cast] theorem ent14_app (us : List SV) (look : Look) (x : Nat → Xf.Loc) (k : Nat) : ent14 us look x k = spOf fs14 inv16 us look x k := rfl
def ir13 : IR :=
  .seq (.reg false [⟨some 0, none, ⟨[], []⟩, .mov (.k (.bool false))⟩] [0] []) (.seq (.reg false [⟨some 6, none, ⟨[], []⟩, .bslice 10 [.k (.int .i64 3), .k (.int .i64 8), .k (.int .i64 5)]⟩,
    ⟨some 7, none, ⟨[], []⟩, .call (some 4) 11 14 [.k (.int .i64 0), .t 6]⟩,
    ⟨some 5, none, ⟨[], []⟩, .mov (.t 7)⟩,
    ⟨some 8, none, ⟨[], []⟩, .ext (.t 5) 0⟩,
    ⟨some 9, none, ⟨[], []⟩, .ext (.t 5) 1⟩,
    ⟨some 1, none, ⟨[], []⟩, .mov (.t 8)⟩,
    ⟨some 2, none, ⟨[], []⟩, .mov (.t 9)⟩] [5, 6, 7, 8, 9] []) (.seq (.reg false [⟨some 11, none, ⟨[], []⟩, .bslice 15 [.k (.int .i64 3), .k (.int .i64 8), .k (.int .i64 5)]⟩,
    ⟨some 12, none, ⟨[], []⟩, .call (some 4) 16 14 [.k (.int .i64 1), .t 11]⟩,
    ⟨some 10, none, ⟨[], []⟩, .mov (.t 12)⟩,
    ⟨some 13, none, ⟨[], []⟩, .ext (.t 10) 0⟩,
    ⟨some 14, none, ⟨[], []⟩, .ext (.t 10) 1⟩,
    ⟨some 3, none, ⟨[], []⟩, .mov (.t 13)⟩,
    ⟨some 4, none, ⟨[], []⟩, .mov (.t 14)⟩] [10, 11, 12, 13, 14] []) (.seq (.reg false [⟨some 15, none, ⟨[], []⟩, .mov (.t 2)⟩,
    ⟨some 16, none, ⟨[], []⟩, .bin 0 .eql (.t 15) (.k (.int .i64 0))⟩,
    ⟨some 17, none, ⟨[], []⟩, .mov (.t 16)⟩,
    ⟨some 18, some (17, true), ⟨[], []⟩, .mov (.t 4)⟩,
    ⟨some 19, some (17, true), ⟨[], []⟩, .bin 0 .eql (.t 18) (.k (.int .i64 0))⟩,
    ⟨some 20, none, ⟨[], []⟩, .pick (.t 17) (.t 19) (.k (.bool false))⟩,
    ⟨some 21, none, ⟨[], []⟩, .mov (.t 20)⟩,
    ⟨some 22, some (21, true), ⟨[], []⟩, .mov (.t 1)⟩,
    ⟨some 23, some (21, true), ⟨[], []⟩, .bslice 20 [.k (.int .i64 5), .k (.int .i64 7), .k (.int .i64 4)]⟩,
    ⟨some 24, some (21, true), ⟨[], []⟩, .call (some 4) 21 17 [.t 22, .t 23]⟩,
    ⟨some 25, none, ⟨[], []⟩, .pick (.t 21) (.t 24) (.k (.bool false))⟩,
    ⟨some 26, none, ⟨[], []⟩, .mov (.t 25)⟩,
    ⟨some 27, some (26, true), ⟨[], []⟩, .mov (.t 3)⟩,
    ⟨some 28, some (26, true), ⟨[], []⟩, .bslice 25 [.k (.int .i64 5), .k (.int .i64 5), .k (.int .i64 5)]⟩,
    ⟨some 29, some (26, true), ⟨[], []⟩, .call (some 4) 26 17 [.t 27, .t 28]⟩,
    ⟨some 30, none, ⟨[], []⟩, .pick (.t 26) (.t 29) (.k (.bool false))⟩,
    ⟨some 0, none, ⟨[], []⟩, .mov (.t 30)⟩] [1, 2, 3, 4, 15, 16, 17, 18, 19, 20, 21, 22, 23, 24, 25, 26, 27, 28, 29, 30] []) (.ret))))
set_option maxRecDepth 4000 in
theorem comp13 : (Try.f13.body.bind fun c => compC tab isP chkAll ir13 c) = some ir13 := by kernel_rfl
theorem rd_app1 {xs ys : List Int} {i : Nat} (h : i < xs.length) : rd (xs ++ ys) (i : Int) = rd xs (i : Int) := by
  rw [rd_lt _ _ (by rw [List.length_append]; omega), rd_lt _ _ h, List.getElem_append_left h]
theorem rd_app2 {xs ys : List Int} {i : Nat} (h : i < ys.length) : rd (xs ++ ys) ((xs.length + i : Nat) : Int) = rd ys (i : Int) := by
  rw [rd_lt _ _ (by rw [List.length_append]; omega), rd_lt _ _ h, List.getElem_append_right (by omega)]
  congr 1; omega
theorem rd_line_lo {kind : Int} {n : Nat} {f : Int → Int} {i : Nat} (h : i < n - n / 2) : rd (lineL kind n f) (i : Int) = loF kind n f i := by
  unfold lineL; rw [rd_app1 (by rw [tabl_length]; exact h), rd_tabl h]
end Go.Proofs.Ytefggfjblhniaaa
