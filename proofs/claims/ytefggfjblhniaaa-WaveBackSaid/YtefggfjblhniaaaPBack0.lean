import Derived.Test.YtefggfjblhniaaaKc
import Derived.Test.YtefggfjblhniaaaProg
import Derived.Test.YtefggfjblhniaaaChecked
set_option linter.unusedVariables false
set_option linter.unusedSimpArgs false
set_option maxRecDepth 1000
namespace Go.Proofs.Ytefggfjblhniaaa
open Xf
def tab : Tab := fun t => match t with
  | 2 => some ⟨1, 8, [.int .i64 0], .int .i64, none⟩
  | 3 => some ⟨1, 8, [.int .i64 0], .int .i64, none⟩
  | 4 => some ⟨1, 1, [.bool false], .bool, none⟩
  | 5 => some ⟨1, 1, [.int .u8 0], .int .u8, none⟩
  | 6 => some ⟨1, 1, [.int .u8 0], .int .u8, none⟩
  | 7 => some ⟨4, 24, [.int .i64 0, .int .i64 0, .bool false, .int .u8 0], .struct [(0, 2), (1, 3), (2, 4), (3, 6)], (some [true, true, false, true])⟩
  | 8 => some ⟨4, 24, [.int .i64 0, .int .i64 0, .bool false, .int .u8 0], .struct [(0, 2), (1, 3), (2, 4), (3, 6)], (some [true, true, false, true])⟩
  | 12 => some ⟨1, 8, [.int .u64 0], .int .u64, none⟩
  | 15 => some ⟨1, 8, [.val (.pointer none)], .pointer, none⟩
  | 16 => some ⟨1, 8, [.val (.pointer none)], .pointer, none⟩
  | 17 => some ⟨1, 8, [.val (.pointer none)], .pointer, none⟩
  | 18 => some ⟨1, 8, [.val (.pointer none)], .struct [(0, 17)], none⟩
  | 19 => some ⟨1, 8, [.val (.pointer none)], .struct [(0, 17)], none⟩
  | 21 => some ⟨1, 4, [.int .i32 0], .int .i32, none⟩
  | 22 => some ⟨1, 24, [nilSV], .slice 3, none⟩
  | 24 => some ⟨1, 8, [.int .i64 0], .int .i64, none⟩
  | 30 => some ⟨3, 40, [.int .i64 0, .int .i64 0, nilSV], .struct [(0, 3), (1, 3), (2, 22)], none⟩
  | 31 => some ⟨3, 40, [.int .i64 0, .int .i64 0, nilSV], .struct [(0, 3), (1, 3), (2, 22)], none⟩
  | 37 => some ⟨1, 24, [nilSV], .slice 42, none⟩
  | 40 => some ⟨1, 24, [nilSV], .slice 4, none⟩
  | 41 => some ⟨6, 48, [.int .i64 0, .int .i64 0, .int .i64 0, .int .i64 0, .int .i64 0, .int .i64 0], .struct [(0, 3), (1, 3), (2, 3), (3, 3), (4, 3), (5, 3)], (some [true, true, true, true, true, true])⟩
  | 42 => some ⟨6, 48, [.int .i64 0, .int .i64 0, .int .i64 0, .int .i64 0, .int .i64 0, .int .i64 0], .struct [(0, 3), (1, 3), (2, 3), (3, 3), (4, 3), (5, 3)], (some [true, true, true, true, true, true])⟩
  | 48 => some ⟨5, 88, [.int .i64 0, .int .i64 0, nilSV, nilSV, nilSV], .struct [(0, 3), (1, 3), (2, 22), (3, 22), (4, 22)], none⟩
  | 49 => some ⟨5, 88, [.int .i64 0, .int .i64 0, nilSV, nilSV, nilSV], .struct [(0, 3), (1, 3), (2, 22), (3, 22), (4, 22)], none⟩
  | 52 => some ⟨9, 120, [.int .i64 0, .int .i64 0, nilSV, .int .i64 0, .int .i64 0, nilSV, .int .i64 0, .int .i64 0, nilSV], .array 3 31, none⟩
  | 53 => some ⟨1, 24, [nilSV], .slice 31, none⟩
  | 65 => some ⟨1, 24, [nilSV], .slice 67, none⟩
  | 67 => some ⟨2, 16, [.int .i64 0, .int .i64 0], .array 2 3, (some [true, true])⟩
  | 73 => some ⟨1, 8, [.val (.pointer none)], .pointer, none⟩
  | 75 => some ⟨3, 40, [.int .i64 0, nilSV, .int .i64 0], .struct [(0, 3), (1, 22), (2, 3)], none⟩
  | 76 => some ⟨3, 40, [.int .i64 0, nilSV, .int .i64 0], .struct [(0, 3), (1, 22), (2, 3)], none⟩
  | 85 => some ⟨1, 8, [.int .u64 0], .int .u64, none⟩
  | 87 => some ⟨1, 8, [.val (.pointer none)], .pointer, none⟩
  | 98 => some ⟨0, 0, [], .array 0 16, none⟩
  | 99 => some ⟨0, 0, [], .struct [(0, 98)], none⟩
  | 100 => some ⟨0, 0, [], .struct [(0, 98)], none⟩
  | 102 => some ⟨1, 4, [.int .u32 0], .int .u32, none⟩
  | 103 => some ⟨1, 1, [.int .u8 0], .int .u8, none⟩
  | 104 => some ⟨1, 1, [.int .u8 0], .int .u8, none⟩
  | 106 => some ⟨1, 8, [.val (.pointer none)], .pointer, none⟩
  | 107 => some ⟨1, 4, [.int .i32 0], .int .i32, none⟩
  | 108 => some ⟨1, 4, [.int .i32 0], .int .i32, none⟩
  | 109 => some ⟨11, 48, [.int .u64 0, .int .u64 0, .int .u32 0, .int .u8 0, .int .u8 0, .int .u8 0, .int .u8 0, .val .nilFunc, .val (.pointer none), .int .i32 0, .int .i32 0], .struct [(0, 12), (1, 12), (2, 102), (3, 103), (4, 5), (5, 5), (6, 104), (7, 105), (8, 106), (9, 107), (10, 108)], none⟩
  | 110 => some ⟨11, 48, [.int .u64 0, .int .u64 0, .int .u32 0, .int .u8 0, .int .u8 0, .int .u8 0, .int .u8 0, .val .nilFunc, .val (.pointer none), .int .i32 0, .int .i32 0], .struct [(0, 12), (1, 12), (2, 102), (3, 103), (4, 5), (5, 5), (6, 104), (7, 105), (8, 106), (9, 107), (10, 108)], none⟩
  | _ => none
theorem tt2 : TtOk Try.prog 2 ⟨1, 8, [.int .i64 0], .int .i64, none⟩ := TtOk.of (z := .int .i64 0) (by kernel_rfl) (by kernel_rfl) (by simp [Dens, Den, nilSV, nilLoc0, Value.cells]) (by simp [TT.agg, Value.cells]) Try.underlying2 (by first | exact ⟨_, rfl, rfl⟩ | rfl | exact ⟨_, rfl⟩) (by first | rfl | kernel_rfl) rfl
theorem tt3 : TtOk Try.prog 3 ⟨1, 8, [.int .i64 0], .int .i64, none⟩ := TtOk.of (z := .int .i64 0) (by kernel_rfl) (by kernel_rfl) (by simp [Dens, Den, nilSV, nilLoc0, Value.cells]) (by simp [TT.agg, Value.cells]) Try.underlying3 (by first | exact ⟨_, rfl, rfl⟩ | rfl | exact ⟨_, rfl⟩) (by first | rfl | kernel_rfl) rfl
theorem tt4 : TtOk Try.prog 4 ⟨1, 1, [.bool false], .bool, none⟩ := TtOk.of (z := .bool false) (by kernel_rfl) (by kernel_rfl) (by simp [Dens, Den, nilSV, nilLoc0, Value.cells]) (by simp [TT.agg, Value.cells]) Try.underlying4 (by first | exact ⟨_, rfl, rfl⟩ | rfl | exact ⟨_, rfl⟩) (by first | rfl | kernel_rfl) rfl
theorem tt5 : TtOk Try.prog 5 ⟨1, 1, [.int .u8 0], .int .u8, none⟩ := TtOk.of (z := .int .u8 0) (by kernel_rfl) (by kernel_rfl) (by simp [Dens, Den, nilSV, nilLoc0, Value.cells]) (by simp [TT.agg, Value.cells]) Try.underlying5 (by first | exact ⟨_, rfl, rfl⟩ | rfl | exact ⟨_, rfl⟩) (by first | rfl | kernel_rfl) rfl
theorem tt6 : TtOk Try.prog 6 ⟨1, 1, [.int .u8 0], .int .u8, none⟩ := TtOk.of (z := .int .u8 0) (by kernel_rfl) (by kernel_rfl) (by simp [Dens, Den, nilSV, nilLoc0, Value.cells]) (by simp [TT.agg, Value.cells]) Try.underlying6 (by first | exact ⟨_, rfl, rfl⟩ | rfl | exact ⟨_, rfl⟩) (by first | rfl | kernel_rfl) rfl
theorem tt7 : TtOk Try.prog 7 ⟨4, 24, [.int .i64 0, .int .i64 0, .bool false, .int .u8 0], .struct [(0, 2), (1, 3), (2, 4), (3, 6)], (some [true, true, false, true])⟩ := TtOk.of (z := .agg #[.int .i64 0, .int .i64 0, .bool false, .int .u8 0]) (by kernel_rfl) (by kernel_rfl) (by simp [Dens, Den, nilSV, nilLoc0, Value.cells]) (by simp [TT.agg, Value.cells]) Try.underlying7 (by first | exact ⟨_, rfl, rfl⟩ | rfl | exact ⟨_, rfl⟩) (by first | rfl | kernel_rfl) rfl
theorem tt8 : TtOk Try.prog 8 ⟨4, 24, [.int .i64 0, .int .i64 0, .bool false, .int .u8 0], .struct [(0, 2), (1, 3), (2, 4), (3, 6)], (some [true, true, false, true])⟩ := TtOk.of (z := .agg #[.int .i64 0, .int .i64 0, .bool false, .int .u8 0]) (by kernel_rfl) (by kernel_rfl) (by simp [Dens, Den, nilSV, nilLoc0, Value.cells]) (by simp [TT.agg, Value.cells]) Try.underlying8 (by first | exact ⟨_, rfl, rfl⟩ | rfl | exact ⟨_, rfl⟩) (by first | rfl | kernel_rfl) rfl
theorem tt12 : TtOk Try.prog 12 ⟨1, 8, [.int .u64 0], .int .u64, none⟩ := TtOk.of (z := .int .u64 0) (by kernel_rfl) (by kernel_rfl) (by simp [Dens, Den, nilSV, nilLoc0, Value.cells]) (by simp [TT.agg, Value.cells]) Try.underlying12 (by first | exact ⟨_, rfl, rfl⟩ | rfl | exact ⟨_, rfl⟩) (by first | rfl | kernel_rfl) rfl
theorem tt15 : TtOk Try.prog 15 ⟨1, 8, [.val (.pointer none)], .pointer, none⟩ := TtOk.of (z := .pointer none) (by kernel_rfl) (by kernel_rfl) (by simp [Dens, Den, nilSV, nilLoc0, Value.cells]) (by simp [TT.agg, Value.cells]) Try.underlying15 (by first | exact ⟨_, rfl, rfl⟩ | rfl | exact ⟨_, rfl⟩) (by first | rfl | kernel_rfl) rfl
theorem tt16 : TtOk Try.prog 16 ⟨1, 8, [.val (.pointer none)], .pointer, none⟩ := TtOk.of (z := .pointer none) (by kernel_rfl) (by kernel_rfl) (by simp [Dens, Den, nilSV, nilLoc0, Value.cells]) (by simp [TT.agg, Value.cells]) Try.underlying16 (by first | exact ⟨_, rfl, rfl⟩ | rfl | exact ⟨_, rfl⟩) (by first | rfl | kernel_rfl) rfl
theorem tt17 : TtOk Try.prog 17 ⟨1, 8, [.val (.pointer none)], .pointer, none⟩ := TtOk.of (z := .pointer none) (by kernel_rfl) (by kernel_rfl) (by simp [Dens, Den, nilSV, nilLoc0, Value.cells]) (by simp [TT.agg, Value.cells]) Try.underlying17 (by first | exact ⟨_, rfl, rfl⟩ | rfl | exact ⟨_, rfl⟩) (by first | rfl | kernel_rfl) rfl
theorem tt18 : TtOk Try.prog 18 ⟨1, 8, [.val (.pointer none)], .struct [(0, 17)], none⟩ := TtOk.of (z := .agg #[.pointer none]) (by kernel_rfl) (by kernel_rfl) (by simp [Dens, Den, nilSV, nilLoc0, Value.cells]) (by simp [TT.agg, Value.cells]) Try.underlying18 (by first | exact ⟨_, rfl, rfl⟩ | rfl | exact ⟨_, rfl⟩) (by first | rfl | kernel_rfl) rfl
theorem tt19 : TtOk Try.prog 19 ⟨1, 8, [.val (.pointer none)], .struct [(0, 17)], none⟩ := TtOk.of (z := .agg #[.pointer none]) (by kernel_rfl) (by kernel_rfl) (by simp [Dens, Den, nilSV, nilLoc0, Value.cells]) (by simp [TT.agg, Value.cells]) Try.underlying19 (by first | exact ⟨_, rfl, rfl⟩ | rfl | exact ⟨_, rfl⟩) (by first | rfl | kernel_rfl) rfl
theorem tt21 : TtOk Try.prog 21 ⟨1, 4, [.int .i32 0], .int .i32, none⟩ := TtOk.of (z := .int .i32 0) (by kernel_rfl) (by kernel_rfl) (by simp [Dens, Den, nilSV, nilLoc0, Value.cells]) (by simp [TT.agg, Value.cells]) Try.underlying21 (by first | exact ⟨_, rfl, rfl⟩ | rfl | exact ⟨_, rfl⟩) (by first | rfl | kernel_rfl) rfl
theorem tt22 : TtOk Try.prog 22 ⟨1, 24, [nilSV], .slice 3, none⟩ := TtOk.of (z := .slice none 0 0) (by kernel_rfl) (by kernel_rfl) (by simp [Dens, Den, nilSV, nilLoc0, Value.cells]) (by simp [TT.agg, Value.cells]) Try.underlying22 (by first | exact ⟨_, rfl, rfl⟩ | rfl | exact ⟨_, rfl⟩) (by first | rfl | kernel_rfl) rfl
theorem tt24 : TtOk Try.prog 24 ⟨1, 8, [.int .i64 0], .int .i64, none⟩ := TtOk.of (z := .int .i64 0) (by kernel_rfl) (by kernel_rfl) (by simp [Dens, Den, nilSV, nilLoc0, Value.cells]) (by simp [TT.agg, Value.cells]) Try.underlying24 (by first | exact ⟨_, rfl, rfl⟩ | rfl | exact ⟨_, rfl⟩) (by first | rfl | kernel_rfl) rfl
theorem tt30 : TtOk Try.prog 30 ⟨3, 40, [.int .i64 0, .int .i64 0, nilSV], .struct [(0, 3), (1, 3), (2, 22)], none⟩ := TtOk.of (z := .agg #[.int .i64 0, .int .i64 0, .slice none 0 0]) (by kernel_rfl) (by kernel_rfl) (by simp [Dens, Den, nilSV, nilLoc0, Value.cells]) (by simp [TT.agg, Value.cells]) Try.underlying30 (by first | exact ⟨_, rfl, rfl⟩ | rfl | exact ⟨_, rfl⟩) (by first | rfl | kernel_rfl) rfl
theorem tt31 : TtOk Try.prog 31 ⟨3, 40, [.int .i64 0, .int .i64 0, nilSV], .struct [(0, 3), (1, 3), (2, 22)], none⟩ := TtOk.of (z := .agg #[.int .i64 0, .int .i64 0, .slice none 0 0]) (by kernel_rfl) (by kernel_rfl) (by simp [Dens, Den, nilSV, nilLoc0, Value.cells]) (by simp [TT.agg, Value.cells]) Try.underlying31 (by first | exact ⟨_, rfl, rfl⟩ | rfl | exact ⟨_, rfl⟩) (by first | rfl | kernel_rfl) rfl
theorem tt37 : TtOk Try.prog 37 ⟨1, 24, [nilSV], .slice 42, none⟩ := TtOk.of (z := .slice none 0 0) (by kernel_rfl) (by kernel_rfl) (by simp [Dens, Den, nilSV, nilLoc0, Value.cells]) (by simp [TT.agg, Value.cells]) Try.underlying37 (by first | exact ⟨_, rfl, rfl⟩ | rfl | exact ⟨_, rfl⟩) (by first | rfl | kernel_rfl) rfl
theorem tt40 : TtOk Try.prog 40 ⟨1, 24, [nilSV], .slice 4, none⟩ := TtOk.of (z := .slice none 0 0) (by kernel_rfl) (by kernel_rfl) (by simp [Dens, Den, nilSV, nilLoc0, Value.cells]) (by simp [TT.agg, Value.cells]) Try.underlying40 (by first | exact ⟨_, rfl, rfl⟩ | rfl | exact ⟨_, rfl⟩) (by first | rfl | kernel_rfl) rfl
theorem tt41 : TtOk Try.prog 41 ⟨6, 48, [.int .i64 0, .int .i64 0, .int .i64 0, .int .i64 0, .int .i64 0, .int .i64 0], .struct [(0, 3), (1, 3), (2, 3), (3, 3), (4, 3), (5, 3)], (some [true, true, true, true, true, true])⟩ := TtOk.of (z := .agg #[.int .i64 0, .int .i64 0, .int .i64 0, .int .i64 0, .int .i64 0, .int .i64 0]) (by kernel_rfl) (by kernel_rfl) (by simp [Dens, Den, nilSV, nilLoc0, Value.cells]) (by simp [TT.agg, Value.cells]) Try.underlying41 (by first | exact ⟨_, rfl, rfl⟩ | rfl | exact ⟨_, rfl⟩) (by first | rfl | kernel_rfl) rfl
theorem tt42 : TtOk Try.prog 42 ⟨6, 48, [.int .i64 0, .int .i64 0, .int .i64 0, .int .i64 0, .int .i64 0, .int .i64 0], .struct [(0, 3), (1, 3), (2, 3), (3, 3), (4, 3), (5, 3)], (some [true, true, true, true, true, true])⟩ := TtOk.of (z := .agg #[.int .i64 0, .int .i64 0, .int .i64 0, .int .i64 0, .int .i64 0, .int .i64 0]) (by kernel_rfl) (by kernel_rfl) (by simp [Dens, Den, nilSV, nilLoc0, Value.cells]) (by simp [TT.agg, Value.cells]) Try.underlying42 (by first | exact ⟨_, rfl, rfl⟩ | rfl | exact ⟨_, rfl⟩) (by first | rfl | kernel_rfl) rfl
theorem tt48 : TtOk Try.prog 48 ⟨5, 88, [.int .i64 0, .int .i64 0, nilSV, nilSV, nilSV], .struct [(0, 3), (1, 3), (2, 22), (3, 22), (4, 22)], none⟩ := TtOk.of (z := .agg #[.int .i64 0, .int .i64 0, .slice none 0 0, .slice none 0 0, .slice none 0 0]) (by kernel_rfl) (by kernel_rfl) (by simp [Dens, Den, nilSV, nilLoc0, Value.cells]) (by simp [TT.agg, Value.cells]) Try.underlying48 (by first | exact ⟨_, rfl, rfl⟩ | rfl | exact ⟨_, rfl⟩) (by first | rfl | kernel_rfl) rfl
theorem tt49 : TtOk Try.prog 49 ⟨5, 88, [.int .i64 0, .int .i64 0, nilSV, nilSV, nilSV], .struct [(0, 3), (1, 3), (2, 22), (3, 22), (4, 22)], none⟩ := TtOk.of (z := .agg #[.int .i64 0, .int .i64 0, .slice none 0 0, .slice none 0 0, .slice none 0 0]) (by kernel_rfl) (by kernel_rfl) (by simp [Dens, Den, nilSV, nilLoc0, Value.cells]) (by simp [TT.agg, Value.cells]) Try.underlying49 (by first | exact ⟨_, rfl, rfl⟩ | rfl | exact ⟨_, rfl⟩) (by first | rfl | kernel_rfl) rfl
theorem tt52 : TtOk Try.prog 52 ⟨9, 120, [.int .i64 0, .int .i64 0, nilSV, .int .i64 0, .int .i64 0, nilSV, .int .i64 0, .int .i64 0, nilSV], .array 3 31, none⟩ := TtOk.of (z := .agg #[.int .i64 0, .int .i64 0, .slice none 0 0, .int .i64 0, .int .i64 0, .slice none 0 0, .int .i64 0, .int .i64 0, .slice none 0 0]) (by kernel_rfl) (by kernel_rfl) (by simp [Dens, Den, nilSV, nilLoc0, Value.cells]) (by simp [TT.agg, Value.cells]) Try.underlying52 (by first | exact ⟨_, rfl, rfl⟩ | rfl | exact ⟨_, rfl⟩) (by first | rfl | kernel_rfl) rfl
theorem tt53 : TtOk Try.prog 53 ⟨1, 24, [nilSV], .slice 31, none⟩ := TtOk.of (z := .slice none 0 0) (by kernel_rfl) (by kernel_rfl) (by simp [Dens, Den, nilSV, nilLoc0, Value.cells]) (by simp [TT.agg, Value.cells]) Try.underlying53 (by first | exact ⟨_, rfl, rfl⟩ | rfl | exact ⟨_, rfl⟩) (by first | rfl | kernel_rfl) rfl
theorem tt65 : TtOk Try.prog 65 ⟨1, 24, [nilSV], .slice 67, none⟩ := TtOk.of (z := .slice none 0 0) (by kernel_rfl) (by kernel_rfl) (by simp [Dens, Den, nilSV, nilLoc0, Value.cells]) (by simp [TT.agg, Value.cells]) Try.underlying65 (by first | exact ⟨_, rfl, rfl⟩ | rfl | exact ⟨_, rfl⟩) (by first | rfl | kernel_rfl) rfl
theorem tt67 : TtOk Try.prog 67 ⟨2, 16, [.int .i64 0, .int .i64 0], .array 2 3, (some [true, true])⟩ := TtOk.of (z := .agg #[.int .i64 0, .int .i64 0]) (by kernel_rfl) (by kernel_rfl) (by simp [Dens, Den, nilSV, nilLoc0, Value.cells]) (by simp [TT.agg, Value.cells]) Try.underlying67 (by first | exact ⟨_, rfl, rfl⟩ | rfl | exact ⟨_, rfl⟩) (by first | rfl | kernel_rfl) rfl
theorem tt73 : TtOk Try.prog 73 ⟨1, 8, [.val (.pointer none)], .pointer, none⟩ := TtOk.of (z := .pointer none) (by kernel_rfl) (by kernel_rfl) (by simp [Dens, Den, nilSV, nilLoc0, Value.cells]) (by simp [TT.agg, Value.cells]) Try.underlying73 (by first | exact ⟨_, rfl, rfl⟩ | rfl | exact ⟨_, rfl⟩) (by first | rfl | kernel_rfl) rfl
theorem tt75 : TtOk Try.prog 75 ⟨3, 40, [.int .i64 0, nilSV, .int .i64 0], .struct [(0, 3), (1, 22), (2, 3)], none⟩ := TtOk.of (z := .agg #[.int .i64 0, .slice none 0 0, .int .i64 0]) (by kernel_rfl) (by kernel_rfl) (by simp [Dens, Den, nilSV, nilLoc0, Value.cells]) (by simp [TT.agg, Value.cells]) Try.underlying75 (by first | exact ⟨_, rfl, rfl⟩ | rfl | exact ⟨_, rfl⟩) (by first | rfl | kernel_rfl) rfl
theorem tt76 : TtOk Try.prog 76 ⟨3, 40, [.int .i64 0, nilSV, .int .i64 0], .struct [(0, 3), (1, 22), (2, 3)], none⟩ := TtOk.of (z := .agg #[.int .i64 0, .slice none 0 0, .int .i64 0]) (by kernel_rfl) (by kernel_rfl) (by simp [Dens, Den, nilSV, nilLoc0, Value.cells]) (by simp [TT.agg, Value.cells]) Try.underlying76 (by first | exact ⟨_, rfl, rfl⟩ | rfl | exact ⟨_, rfl⟩) (by first | rfl | kernel_rfl) rfl
theorem tt85 : TtOk Try.prog 85 ⟨1, 8, [.int .u64 0], .int .u64, none⟩ := TtOk.of (z := .int .u64 0) (by kernel_rfl) (by kernel_rfl) (by simp [Dens, Den, nilSV, nilLoc0, Value.cells]) (by simp [TT.agg, Value.cells]) Try.underlying85 (by first | exact ⟨_, rfl, rfl⟩ | rfl | exact ⟨_, rfl⟩) (by first | rfl | kernel_rfl) rfl
theorem tt87 : TtOk Try.prog 87 ⟨1, 8, [.val (.pointer none)], .pointer, none⟩ := TtOk.of (z := .pointer none) (by kernel_rfl) (by kernel_rfl) (by simp [Dens, Den, nilSV, nilLoc0, Value.cells]) (by simp [TT.agg, Value.cells]) Try.underlying87 (by first | exact ⟨_, rfl, rfl⟩ | rfl | exact ⟨_, rfl⟩) (by first | rfl | kernel_rfl) rfl
theorem tt98 : TtOk Try.prog 98 ⟨0, 0, [], .array 0 16, none⟩ := TtOk.of (z := .agg #[]) (by kernel_rfl) (by kernel_rfl) (by simp [Dens, Den, nilSV, nilLoc0, Value.cells]) (by simp [TT.agg, Value.cells]) Try.underlying98 (by first | exact ⟨_, rfl, rfl⟩ | rfl | exact ⟨_, rfl⟩) (by first | rfl | kernel_rfl) rfl
theorem tt99 : TtOk Try.prog 99 ⟨0, 0, [], .struct [(0, 98)], none⟩ := TtOk.of (z := .agg #[]) (by kernel_rfl) (by kernel_rfl) (by simp [Dens, Den, nilSV, nilLoc0, Value.cells]) (by simp [TT.agg, Value.cells]) Try.underlying99 (by first | exact ⟨_, rfl, rfl⟩ | rfl | exact ⟨_, rfl⟩) (by first | rfl | kernel_rfl) rfl
theorem tt100 : TtOk Try.prog 100 ⟨0, 0, [], .struct [(0, 98)], none⟩ := TtOk.of (z := .agg #[]) (by kernel_rfl) (by kernel_rfl) (by simp [Dens, Den, nilSV, nilLoc0, Value.cells]) (by simp [TT.agg, Value.cells]) Try.underlying100 (by first | exact ⟨_, rfl, rfl⟩ | rfl | exact ⟨_, rfl⟩) (by first | rfl | kernel_rfl) rfl
theorem tt102 : TtOk Try.prog 102 ⟨1, 4, [.int .u32 0], .int .u32, none⟩ := TtOk.of (z := .int .u32 0) (by kernel_rfl) (by kernel_rfl) (by simp [Dens, Den, nilSV, nilLoc0, Value.cells]) (by simp [TT.agg, Value.cells]) Try.underlying102 (by first | exact ⟨_, rfl, rfl⟩ | rfl | exact ⟨_, rfl⟩) (by first | rfl | kernel_rfl) rfl
theorem tt103 : TtOk Try.prog 103 ⟨1, 1, [.int .u8 0], .int .u8, none⟩ := TtOk.of (z := .int .u8 0) (by kernel_rfl) (by kernel_rfl) (by simp [Dens, Den, nilSV, nilLoc0, Value.cells]) (by simp [TT.agg, Value.cells]) Try.underlying103 (by first | exact ⟨_, rfl, rfl⟩ | rfl | exact ⟨_, rfl⟩) (by first | rfl | kernel_rfl) rfl
theorem tt104 : TtOk Try.prog 104 ⟨1, 1, [.int .u8 0], .int .u8, none⟩ := TtOk.of (z := .int .u8 0) (by kernel_rfl) (by kernel_rfl) (by simp [Dens, Den, nilSV, nilLoc0, Value.cells]) (by simp [TT.agg, Value.cells]) Try.underlying104 (by first | exact ⟨_, rfl, rfl⟩ | rfl | exact ⟨_, rfl⟩) (by first | rfl | kernel_rfl) rfl
theorem tt106 : TtOk Try.prog 106 ⟨1, 8, [.val (.pointer none)], .pointer, none⟩ := TtOk.of (z := .pointer none) (by kernel_rfl) (by kernel_rfl) (by simp [Dens, Den, nilSV, nilLoc0, Value.cells]) (by simp [TT.agg, Value.cells]) Try.underlying106 (by first | exact ⟨_, rfl, rfl⟩ | rfl | exact ⟨_, rfl⟩) (by first | rfl | kernel_rfl) rfl
theorem tt107 : TtOk Try.prog 107 ⟨1, 4, [.int .i32 0], .int .i32, none⟩ := TtOk.of (z := .int .i32 0) (by kernel_rfl) (by kernel_rfl) (by simp [Dens, Den, nilSV, nilLoc0, Value.cells]) (by simp [TT.agg, Value.cells]) Try.underlying107 (by first | exact ⟨_, rfl, rfl⟩ | rfl | exact ⟨_, rfl⟩) (by first | rfl | kernel_rfl) rfl
theorem tt108 : TtOk Try.prog 108 ⟨1, 4, [.int .i32 0], .int .i32, none⟩ := TtOk.of (z := .int .i32 0) (by kernel_rfl) (by kernel_rfl) (by simp [Dens, Den, nilSV, nilLoc0, Value.cells]) (by simp [TT.agg, Value.cells]) Try.underlying108 (by first | exact ⟨_, rfl, rfl⟩ | rfl | exact ⟨_, rfl⟩) (by first | rfl | kernel_rfl) rfl
theorem tt109 : TtOk Try.prog 109 ⟨11, 48, [.int .u64 0, .int .u64 0, .int .u32 0, .int .u8 0, .int .u8 0, .int .u8 0, .int .u8 0, .val .nilFunc, .val (.pointer none), .int .i32 0, .int .i32 0], .struct [(0, 12), (1, 12), (2, 102), (3, 103), (4, 5), (5, 5), (6, 104), (7, 105), (8, 106), (9, 107), (10, 108)], none⟩ := TtOk.of (z := .agg #[.int .u64 0, .int .u64 0, .int .u32 0, .int .u8 0, .int .u8 0, .int .u8 0, .int .u8 0, .nilFunc, .pointer none, .int .i32 0, .int .i32 0]) (by kernel_rfl) (by kernel_rfl) (by simp [Dens, Den, nilSV, nilLoc0, Value.cells]) (by simp [TT.agg, Value.cells]) Try.underlying109 (by first | exact ⟨_, rfl, rfl⟩ | rfl | exact ⟨_, rfl⟩) (by first | rfl | kernel_rfl) rfl
theorem tt110 : TtOk Try.prog 110 ⟨11, 48, [.int .u64 0, .int .u64 0, .int .u32 0, .int .u8 0, .int .u8 0, .int .u8 0, .int .u8 0, .val .nilFunc, .val (.pointer none), .int .i32 0, .int .i32 0], .struct [(0, 12), (1, 12), (2, 102), (3, 103), (4, 5), (5, 5), (6, 104), (7, 105), (8, 106), (9, 107), (10, 108)], none⟩ := TtOk.of (z := .agg #[.int .u64 0, .int .u64 0, .int .u32 0, .int .u8 0, .int .u8 0, .int .u8 0, .int .u8 0, .nilFunc, .pointer none, .int .i32 0, .int .i32 0]) (by kernel_rfl) (by kernel_rfl) (by simp [Dens, Den, nilSV, nilLoc0, Value.cells]) (by simp [TT.agg, Value.cells]) Try.underlying110 (by first | exact ⟨_, rfl, rfl⟩ | rfl | exact ⟨_, rfl⟩) (by first | rfl | kernel_rfl) rfl
theorem hT : ∀ t tt, tab t = some tt → TtOk Try.prog t tt := by
  intro t tt h
  unfold tab at h
  split at h
  · cases h; exact tt2
  · cases h; exact tt3
  · cases h; exact tt4
  · cases h; exact tt5
  · cases h; exact tt6
  · cases h; exact tt7
  · cases h; exact tt8
  · cases h; exact tt12
  · cases h; exact tt15
  · cases h; exact tt16
  · cases h; exact tt17
  · cases h; exact tt18
  · cases h; exact tt19
  · cases h; exact tt21
  · cases h; exact tt22
  · cases h; exact tt24
  · cases h; exact tt30
  · cases h; exact tt31
  · cases h; exact tt37
  · cases h; exact tt40
  · cases h; exact tt41
  · cases h; exact tt42
  · cases h; exact tt48
  · cases h; exact tt49
  · cases h; exact tt52
  · cases h; exact tt53
  · cases h; exact tt65
  · cases h; exact tt67
  · cases h; exact tt73
  · cases h; exact tt75
  · cases h; exact tt76
  · cases h; exact tt85
  · cases h; exact tt87
  · cases h; exact tt98
  · cases h; exact tt99
  · cases h; exact tt100
  · cases h; exact tt102
  · cases h; exact tt103
  · cases h; exact tt104
  · cases h; exact tt106
  · cases h; exact tt107
  · cases h; exact tt108
  · cases h; exact tt109
  · cases h; exact tt110
  · cases h
def isP : FuncId → Bool := fun f => f == 40 || f == 36 || f == 30 || f == 71 || f == 46 || f == 77 || f == 76 || f == 63
theorem mixed : Try.prog.follows .mixedOrders = true := by kernel_rfl
theorem hyp {l : List (FuncId × Entry)} {lp : List (FuncId × EntryP)} (h : allOk Try.prog l) (hp : allPOk Try.prog lp) : Hyp Try.prog tab isP (spList l) (spPList lp) chkAll :=
  ⟨hT, spPList_ok hp, spList_ok h, draw_ok mixed hT (spPList_ok hp) (spList_ok h)⟩
theorem hypI {l : List (FuncId × Entry)} {li : List (FuncId × ITS)} {lp : List (FuncId × EntryP)} (h : allOk Try.prog l) (hi : allIt Try.prog li) (hp : allPOk Try.prog lp) : Hyp Try.prog tab isP (spListI l li) (spPList lp) chkAll :=
  ⟨hT, spPList_ok hp, spListI_ok h hi, draw_ok mixed hT (spPList_ok hp) (spListI_ok h hi)⟩
def SidesOk (w h : Int) : Prop := 0 ≤ w ∧ 0 ≤ h ∧ w ≤ 200 ∧ h ≤ 200 ∧ w * h ≤ 8192
instance (w h : Int) : Decidable (SidesOk w h) := by unfold SidesOk; infer_instance
def ValOk (n : Int) : Prop := 0 ≤ n ∧ n ≤ 255
instance (n : Int) : Decidable (ValOk n) := by unfold ValOk; infer_instance
theorem SidesOk.bd {w h : Int} (H : SidesOk w h) : 0 ≤ w * h ∧ w * h ≤ 8192 := ⟨Int.mul_nonneg H.1 H.2.1, H.2.2.2.2⟩
def b74_1 : IR :=
  .seq (.reg false [⟨some 9, none, ⟨[], []⟩, .bin 0 .lss (.t 8) (.t 7)⟩] [] []) (.seq (.cond (.t 9) (.skip) (.exit 0)) (.seq (.block 1 (.seq (.reg false [⟨some 10, none, ⟨[], []⟩, .mov (.t 8)⟩,
    ⟨some 5, none, ⟨[], []⟩, .mov (.t 10)⟩] [9, 10] []) (.seq (.reg false [⟨some 11, none, ⟨[], []⟩, .mov (.t 1)⟩,
    ⟨some 12, none, ⟨[], []⟩, .mov (.t 0)⟩,
    ⟨some 13, none, ⟨[], []⟩, .mov (.t 5)⟩,
    ⟨some 14, none, ⟨[], []⟩, .idxS (.t 12) (.t 13) 1⟩,
    ⟨some 15, none, ⟨[], []⟩, .ld true none 0 0 (.t 14)⟩,
    ⟨some 16, none, ⟨[], []⟩, .callv (some 4) 10 (.t 11) [.t 15]⟩] [11, 12, 13, 14, 15] []) (.cond (.t 16) (.seq (.reg false [⟨some 17, none, ⟨[], []⟩, .mov (.t 5)⟩,
    ⟨some 4, none, ⟨[], []⟩, .mov (.t 17)⟩] [0, 1, 5, 7, 8, 16, 17] []) (.ret)) (.skip))))) (.reg false [⟨some 18, none, ⟨[], []⟩, .bin 0 .add (.t 8) (.k (.int .i64 1))⟩,
    ⟨some 8, none, ⟨[], []⟩, .mov (.t 18)⟩] [4, 5, 16, 18] [])))
def r74_2 : IR :=
  .seq (.reg false [⟨some 4, none, ⟨[], []⟩, .mov (.k (.int .i64 (-1)))⟩] [0, 1, 7, 8] []) (.ret)
def ir74 : IR :=
  .seq (.reg false [⟨some 4, none, ⟨[], []⟩, .mov (.k (.int .i64 0))⟩] [4] []) (.seq (.seq (.reg false [⟨some 6, none, ⟨[], []⟩, .mov (.t 0)⟩,
    ⟨some 7, none, ⟨[], []⟩, .len (.t 6)⟩,
    ⟨some 8, none, ⟨[], []⟩, .mov (.k (.int .i64 0))⟩] [6] []) (.block 0 (.loop b74_1))) (r74_2))
def kp74_1 : List Nat := [0, 1, 7, 8]
def kl74_1 : List Nat := [10, 11, 12, 13]
attribute [push_cast] kp74_1 kl74_1
set_option maxRecDepth 4000 in
theorem comp74 : (Try.f74.body.bind fun c => compC tab isP chkAll ir74 c) = some ir74 := by kernel_rfl
def ir64 : IR :=
  .seq (.reg false [⟨some 4, none, ⟨[], []⟩, .mov (.k (.bool false))⟩] [4] []) (.seq (.reg false [⟨some 5, none, ⟨[], []⟩, .mov (.t 0)⟩,
    ⟨some 6, none, ⟨[], []⟩, .mov (.t 1)⟩,
    ⟨some 7, none, ⟨[], []⟩, .call (some 4) 10 74 [.t 5, .t 6]⟩,
    ⟨some 8, none, ⟨[], []⟩, .bin 0 .geq (.t 7) (.k (.int .i64 0))⟩,
    ⟨some 4, none, ⟨[], []⟩, .mov (.t 8)⟩] [0, 1, 5, 6, 7, 8] []) (.ret))
set_option maxRecDepth 4000 in
theorem comp64 : (Try.f64.body.bind fun c => compC tab isP chkAll ir64 c) = some ir64 := by kernel_rfl
/-- A row that is only read. -/
structure RowA where
  L : Xf.Loc
  xs : List Int
def rowM (a : RowA) : Mem := [some (.ro, a.L, .ints .i64 a.xs)]
attribute [push_cast] rowM
def AllVal (xs : List Int) : Prop := ∀ n ∈ xs, ValOk n
instance (xs : List Int) : Decidable (AllVal xs) := by unfold AllVal; infer_instance
structure RowN where
  L : Xf.Loc
  xs : List Int
  n : Int
structure Im where
  w : Int
  h : Int
  R : List Int
  G : List Int
  B : List Int
structure ImA where
  i : Im
  L1 : Xf.Loc
  L2 : Xf.Loc
  L3 : Xf.Loc
def Im.Ok (i : Im) : Prop := SidesOk i.w i.h ∧ (i.R.length = i.w * i.h ∧ AllVal i.R) ∧ (i.G.length = i.w * i.h ∧ AllVal i.G) ∧ (i.B.length = i.w * i.h ∧ AllVal i.B)
instance (i : Im) : Decidable i.Ok := by unfold Im.Ok; infer_instance
structure WH where
  w : Int
  h : Int
structure SetA where
  i : Im
  L : Xf.Loc
  L1 : Xf.Loc
  L2 : Xf.Loc
  L3 : Xf.Loc
  k : Int
  r : Int
  g : Int
  b : Int
  n1 : Int
  n2 : Int
  n3 : Int
structure NewA where
  w : Int
  h : Int
  r : Int
  g : Int
  b : Int
def NewA.Ok (a : NewA) : Prop := SidesOk a.w a.h ∧ ValOk a.r ∧ ValOk a.g ∧ ValOk a.b
instance (a : NewA) : Decidable a.Ok := by unfold NewA.Ok; infer_instance
/-- Where a result lies: nowhere, if there is none. -/
def lx (p : Prop) [Decidable p] (x : Nat → Xf.Loc) (k : Nat) : Xf.Loc := if p then x k else nilLoc
theorem allVal_rd {xs : List Int} : AllVal xs ↔ ∀ j : Nat, j < xs.length → ValOk (rd xs j) := by
  unfold AllVal
  constructor
  · intro h j hj; rw [rd_lt xs j hj]; exact h _ (List.getElem_mem hj)
  · intro h x hx
    obtain ⟨j, hj, rfl⟩ := List.getElem_of_mem hx
    have := h j hj
    rwa [rd_lt xs j hj] at this
def Im.Eq (a b : Im) : Prop := a.w = b.w ∧ a.h = b.h ∧ a.R = b.R ∧ a.G = b.G ∧ a.B = b.B
instance (a b : Im) : Decidable (a.Eq b) := by unfold Im.Eq; infer_instance
theorem Im.Eq.refl (a : Im) : a.Eq a := ⟨rfl, rfl, rfl, rfl, rfl⟩
structure Im2 where
  a : ImA
  b : ImA
structure Pl where
  w : Int
  h : Int
  xs : List Int
def plV (p : Pl) (L : Xf.Loc) (c : Nat) : SV := .agg [.int .i64 p.w, .int .i64 p.h, .sl c L 1 0 p.xs.length]
attribute [push_cast] plV
def pl0 : Pl := ⟨0, 0, []⟩
theorem Im.Ok.val {i : Im} (h : i.Ok) : i.G.length = i.R.length ∧ i.B.length = i.R.length ∧ ∀ k : Nat, k < i.R.length → (0 ≤ rd i.R (k : Nat) ∧ rd i.R (k : Nat) ≤ 255) ∧ (0 ≤ rd i.G (k : Nat) ∧ rd i.G (k : Nat) ≤ 255) ∧ (0 ≤ rd i.B (k : Nat) ∧ rd i.B (k : Nat) ≤ 255) := by
  obtain ⟨_, ⟨a, x⟩, ⟨b, y⟩, ⟨c, z⟩⟩ := h
  have e1 : i.G.length = i.R.length := by omega
  have e2 : i.B.length = i.R.length := by omega
  exact ⟨e1, e2, fun k hk => ⟨allVal_rd.1 x k hk, allVal_rd.1 y k (by omega), allVal_rd.1 z k (by omega)⟩⟩
structure CutA where
  a : ImA
  x : Int
  y : Int
  w : Int
  h : Int
def CutA.In (c : CutA) : Prop := 0 ≤ c.x ∧ 0 ≤ c.y ∧ 0 ≤ c.w ∧ 0 ≤ c.h ∧ c.x + c.w ≤ c.a.i.w ∧ c.y + c.h ≤ c.a.i.h
instance (c : CutA) : Decidable c.In := by unfold CutA.In; infer_instance
def CutA.Ok (c : CutA) : Prop := c.a.i.Ok ∧ c.In
instance (c : CutA) : Decidable c.Ok := by unfold CutA.Ok; infer_instance
def ir77 : IR :=
  .seq (.reg false [⟨some 4, none, ⟨[], []⟩, .mov (.k (.bool false))⟩] [4] []) (.seq (.reg false [⟨some 5, none, ⟨[], []⟩, .mov (.t 0)⟩,
    ⟨some 6, none, ⟨[], []⟩, .bin 0 .geq (.t 5) (.k (.int .i64 0))⟩,
    ⟨some 7, none, ⟨[], []⟩, .mov (.t 6)⟩,
    ⟨some 8, some (7, true), ⟨[], []⟩, .mov (.t 1)⟩,
    ⟨some 9, some (7, true), ⟨[], []⟩, .bin 0 .geq (.t 8) (.k (.int .i64 0))⟩,
    ⟨some 10, none, ⟨[], []⟩, .pick (.t 7) (.t 9) (.k (.bool false))⟩,
    ⟨some 11, none, ⟨[], []⟩, .mov (.t 10)⟩,
    ⟨some 12, some (11, true), ⟨[], []⟩, .mov (.t 0)⟩,
    ⟨some 13, some (11, true), ⟨[], []⟩, .bin 0 .leq (.t 12) (.k (.int .i64 200))⟩,
    ⟨some 14, none, ⟨[], []⟩, .pick (.t 11) (.t 13) (.k (.bool false))⟩,
    ⟨some 15, none, ⟨[], []⟩, .mov (.t 14)⟩,
    ⟨some 16, some (15, true), ⟨[], []⟩, .mov (.t 1)⟩,
    ⟨some 17, some (15, true), ⟨[], []⟩, .bin 0 .leq (.t 16) (.k (.int .i64 200))⟩,
    ⟨some 18, none, ⟨[], []⟩, .pick (.t 15) (.t 17) (.k (.bool false))⟩,
    ⟨some 4, none, ⟨[], []⟩, .mov (.t 18)⟩] [0, 1, 5, 6, 7, 8, 9, 10, 11, 12, 13, 14, 15, 16, 17, 18] []) (.ret))
set_option maxRecDepth 4000 in
theorem comp77 : (Try.f77.body.bind fun c => compC tab isP chkAll ir77 c) = some ir77 := by kernel_rfl
def ir78 : IR :=
  .seq (.reg false [⟨some 4, none, ⟨[], []⟩, .mov (.k (.bool false))⟩] [4] []) (.seq (.reg false [⟨some 5, none, ⟨[], []⟩, .mov (.t 0)⟩,
    ⟨some 6, none, ⟨[], []⟩, .ld false none 0 0 (.t 1)⟩,
    ⟨some 7, none, ⟨[], []⟩, .bin 0 .lss (.t 5) (.t 6)⟩,
    ⟨some 8, none, ⟨[], []⟩, .mov (.t 7)⟩,
    ⟨some 9, some (8, false), ⟨[], []⟩, .mov (.t 0)⟩,
    ⟨some 10, some (8, false), ⟨[], []⟩, .ld false none 0 0 (.t 2)⟩,
    ⟨some 11, some (8, false), ⟨[], []⟩, .bin 0 .gtr (.t 9) (.t 10)⟩,
    ⟨some 12, none, ⟨[], []⟩, .pick (.t 8) (.k (.bool true)) (.t 11)⟩,
    ⟨some 4, none, ⟨[], []⟩, .mov (.t 12)⟩] [0, 1, 2, 5, 6, 7, 8, 9, 10, 11, 12] []) (.ret))
set_option maxRecDepth 4000 in
theorem comp78 : (Try.f78.body.bind fun c => compC tab isP chkAll ir78 c) = some ir78 := by kernel_rfl
def ir73 : IR :=
  .seq (.reg false [⟨some 3, none, ⟨[], []⟩, .box 10 (.t 0)⟩,
    ⟨some 4, none, ⟨[], []⟩, .box 11 (.t 1)⟩,
    ⟨some 5, none, ⟨[], []⟩, .box 12 (.t 2)⟩,
    ⟨some 6, none, ⟨[], []⟩, .mov (.k (.bool false))⟩] [0, 1, 2, 6] []) (.seq (.seq (.reg false [⟨some 7, none, ⟨[], []⟩, .fld (.t 3) 0⟩,
    ⟨some 8, none, ⟨[], []⟩, .ld false none 0 0 (.t 7)⟩,
    ⟨some 9, none, ⟨[], []⟩, .fld (.t 3) 1⟩,
    ⟨some 10, none, ⟨[], []⟩, .ld false none 0 0 (.t 9)⟩,
    ⟨some 11, none, ⟨[], []⟩, .callp 77 [.t 8, .t 10]⟩,
    ⟨some 12, none, ⟨[], []⟩, .not (.t 11)⟩,
    ⟨some 13, none, ⟨[], []⟩, .mov (.t 12)⟩,
    ⟨some 14, some (13, false), ⟨[], []⟩, .fld (.t 3) 0⟩,
    ⟨some 15, some (13, false), ⟨[], []⟩, .ld false none 0 0 (.t 14)⟩,
    ⟨some 16, some (13, false), ⟨[], []⟩, .fld (.t 3) 1⟩,
    ⟨some 17, some (13, false), ⟨[], []⟩, .ld false none 0 0 (.t 16)⟩,
    ⟨some 18, some (13, false), ⟨[], []⟩, .bin 0 .mul (.t 15) (.t 17)⟩,
    ⟨some 19, some (13, false), ⟨[], []⟩, .fld (.t 3) 2⟩,
    ⟨some 20, some (13, false), ⟨[], []⟩, .ld false none 0 0 (.t 19)⟩,
    ⟨some 21, some (13, false), ⟨[], []⟩, .len (.t 20)⟩,
    ⟨some 22, some (13, false), ⟨[], []⟩, .bin 0 .neq (.t 18) (.t 21)⟩,
    ⟨some 23, none, ⟨[], []⟩, .pick (.t 13) (.k (.bool true)) (.t 22)⟩,
    ⟨some 24, none, ⟨[], []⟩, .mov (.t 23)⟩,
    ⟨some 25, some (24, false), ⟨[], []⟩, .fld (.t 3) 2⟩,
    ⟨some 26, some (24, false), ⟨[], []⟩, .ld false none 0 0 (.t 25)⟩,
    ⟨some 27, some (24, false), ⟨[], []⟩, .len (.t 26)⟩,
    ⟨some 28, some (24, false), ⟨[], []⟩, .bin 0 .gtr (.t 27) (.k (.int .i64 8192))⟩,
    ⟨some 29, none, ⟨[], []⟩, .pick (.t 24) (.k (.bool true)) (.t 28)⟩] [7, 8, 9, 10, 11, 12, 13, 14, 15, 16, 17, 18, 19, 20, 21, 22, 23, 24, 25, 26, 27, 28] []) (.cond (.t 29) (.seq (.reg false [⟨some 6, none, ⟨[], []⟩, .mov (.k (.bool false))⟩] [3, 4, 5, 29] []) (.ret)) (.skip))) (.seq (.reg false [⟨some 30, none, ⟨[], []⟩, .fld (.t 3) 2⟩,
    ⟨some 31, none, ⟨[], []⟩, .ld false none 0 0 (.t 30)⟩,
    ⟨some 32, none, ⟨[], []⟩, .mkf 78 [.t 4, .t 5]⟩,
    ⟨some 33, none, ⟨[], []⟩, .call (some 4) 13 64 [.t 31, .t 32]⟩,
    ⟨some 34, none, ⟨[], []⟩, .not (.t 33)⟩,
    ⟨some 6, none, ⟨[], []⟩, .mov (.t 34)⟩] [3, 4, 5, 29, 30, 31, 32, 33, 34] []) (.ret)))
set_option maxRecDepth 4000 in
theorem comp73 : (Try.f73.body.bind fun c => compC tab isP chkAll ir73 c) = some ir73 := by kernel_rfl
def ir60 : IR :=
  .seq (.reg false [⟨some 1, none, ⟨[], []⟩, .box 10 (.t 0)⟩,
    ⟨some 2, none, ⟨[], []⟩, .mov (.k (.bool false))⟩] [0, 2] []) (.seq (.reg false [⟨some 3, none, ⟨[], []⟩, .ld false (some 3) 0 0 (.t 1)⟩,
    ⟨some 4, none, ⟨[], []⟩, .call (some 4) 11 73 [.t 3, .k (.int .i64 (-16777216)), .k (.int .i64 16777216)]⟩,
    ⟨some 2, none, ⟨[], []⟩, .mov (.t 4)⟩] [1, 3, 4] []) (.ret))
set_option maxRecDepth 4000 in
theorem comp60 : (Try.f60.body.bind fun c => compC tab isP chkAll ir60 c) = some ir60 := by kernel_rfl
/-- The first number of some kind. -/
def firstB (p : Int → Bool) (xs : List Int) : Int := if xs.findIdx p < xs.length then xs.findIdx p else -1
theorem firstB_at {p : Int → Bool} {xs : List Int} {i : Nat} (h : i < xs.length) (hb : p (rd xs i) = true) (hj : ∀ j, j < i → p (rd xs (j : Nat)) = false) : firstB p xs = i := by
  have : xs.findIdx p = i := by
    rw [List.findIdx_eq h]
    refine ⟨by rw [rd_lt xs i h] at hb; exact hb, fun j hji => ?_⟩
    have := hj j hji
    rw [rd_lt xs j (by omega)] at this
    exact this
  unfold firstB
  rw [this, if_pos h]
theorem firstB_no {p : Int → Bool} {xs : List Int} (hj : ∀ j, j < xs.length → p (rd xs (j : Nat)) = false) : firstB p xs = -1 := by
  unfold firstB
  rw [if_neg]
  intro h
  have := List.findIdx_getElem (w := h)
  have h2 := hj _ h
  rw [rd_lt xs _ h, this] at h2
  cases h2
theorem firstB_iff (p : Int → Bool) (xs : List Int) : 0 ≤ firstB p xs ↔ ∃ n, n ∈ xs ∧ p n = true := by
  unfold firstB
  have h := List.findIdx_lt_length (xs := xs) (p := p)
  by_cases hh : xs.findIdx p < xs.length
  · rw [if_pos hh]
    exact ⟨fun _ => h.1 hh, fun _ => by omega⟩
  · rw [if_neg hh]
    exact ⟨fun h => by omega, fun H => absurd (h.2 H) hh⟩
def sides4F : EntryP
  | [.int .i64 w, .int .i64 h] => some (True, .bool (decide (0 ≤ w ∧ 0 ≤ h ∧ w ≤ 200 ∧ h ≤ 200)))
  | _ => none
attribute [push_cast] sides4F
theorem p77 : EntryPOk Try.prog 77 sides4F := by
  refine ⟨⟨_, Try.func77, by kernel_rfl, by kernel_rfl⟩, fun us p v h hp => ?_⟩
  unfold sides4F at h
  split at h <;> cases h
  refine tri_evS (hyp (l := []) (lp := []) trivial trivial) Try.func77 comp77 (rs := [.tmp 4]) (by rfl) Try.ntmps77 10 ?_
  simp -implicitDefEqProofs only [push_cast, false_implies, reduceCtorEq, Classical.not_not, Nat.reduceAdd, Nat.reduceSub, Nat.reduceMul, Nat.reduceLeDiff, Nat.reduceLT, Nat.reduceEqDiff, Nat.reduceBEq, Nat.reduceBNe, Int.reduceNeg, Int.reduceToNat, Bool.or_false, Bool.false_or, Bool.or_true, Bool.true_or, BEq.rfl, Bool.not_eq_true, Bool.not_eq_false, decide_eq_true_eq, not_true_eq_false, not_false_eq_true, ite_true, ite_false, List.append_nil, and_assoc, Nat.mul_zero, Nat.zero_mul, ir77, sides4F]
structure OutA where
  L1 : Xf.Loc
  L2 : Xf.Loc
  n : Int
  lo : Int
  hi : Int
def outB (lo hi n : Int) : Bool := decide (n < lo ∨ hi < n)
def fs78 : FS where
  A := OutA
  args := fun a => [.int .i64 a.n, .ptr 0 a.L1 0 0 0, .ptr 1 a.L2 0 0 0]
  mem := fun a => [some (.ro, a.L1, .cells [.int .i64 a.lo]), some (.ro, a.L2, .cells [.int .i64 a.hi])]
  pre := fun _ => True
  res := fun a _ => .bool (outB a.lo a.hi a.n)
  out := fun _ _ => []
  new := fun _ _ => []
def inv78 : List SV → Look → Option (OutA × List Nat)
  | [.int .i64 n, .ptr c1 _ 0 0 0, .ptr c2 _ 0 0 0], look => match rowC (look c1), rowC (look c2) with
    | some (L1, [.int .i64 lo]), some (L2, [.int .i64 hi]) => some (⟨L1, L2, n, lo, hi⟩, [c1, c2])
    | _, _ => none
  | _, _ => none
attribute [push_cast] inv78
theorem ok78 : FSOk Try.prog 78 fs78 := by
  refine ⟨⟨_, Try.func78, by kernel_rfl, by kernel_rfl⟩, fun a => ⟨by simp [fs78, push_cast, noMine, argOwn, Chunk.frArg], by simp [fs78, push_cast, outOk, Chunk.ext], fun x => .inl (by simp [fs78, push_cast, frNew, frOut, Chunk.fr])⟩, fun a hp => ?_⟩
  obtain ⟨L1, L2, n, lo, hi⟩ := a
  change Tri Try.prog 78 [.int .i64 n, .ptr 0 L1 0 0 0, .ptr 1 L2 0 0 0] [some (.ro, L1, .cells [.int .i64 lo]), some (.ro, L2, .cells [.int .i64 hi])] (postF fs78 ⟨L1, L2, n, lo, hi⟩)
  refine tri_evS (hyp (l := []) (lp := []) trivial trivial) Try.func78 comp78 (rs := [.tmp 4]) (by rfl) Try.ntmps78 10 ?_
  simp -implicitDefEqProofs only [push_cast, false_implies, reduceCtorEq, Classical.not_not, Nat.reduceAdd, Nat.reduceSub, Nat.reduceMul, Nat.reduceLeDiff, Nat.reduceLT, Nat.reduceEqDiff, Nat.reduceBEq, Nat.reduceBNe, Int.reduceNeg, Int.reduceToNat, Bool.or_false, Bool.false_or, Bool.or_true, Bool.true_or, BEq.rfl, Bool.not_eq_true, Bool.not_eq_false, decide_eq_true_eq, not_true_eq_false, not_false_eq_true, ite_true, ite_false, List.append_nil, and_assoc, Nat.mul_zero, Nat.zero_mul, ir78]
  refine postF.mk' (fun _ => default) [some 0, some 1] ?_
  simp -implicitDefEqProofs only [push_cast, false_implies, reduceCtorEq, Classical.not_not, Nat.reduceAdd, Nat.reduceSub, Nat.reduceMul, Nat.reduceLeDiff, Nat.reduceLT, Nat.reduceEqDiff, Nat.reduceBEq, Nat.reduceBNe, Int.reduceNeg, Int.reduceToNat, Bool.or_false, Bool.false_or, Bool.or_true, Bool.true_or, BEq.rfl, Bool.not_eq_true, Bool.not_eq_false, decide_eq_true_eq, not_true_eq_false, not_false_eq_true, ite_true, ite_false, List.append_nil, and_assoc, Nat.mul_zero, Nat.zero_mul, fs78, outB]
def ent78 : Entry := spOf fs78 inv78
theorem e78 : EntryOk Try.prog 78 ent78 := entry_of ok78 inv78
@[push_cast] theorem ent78_app (us : List SV) (look : Look) (x : Nat → Xf.Loc) (k : Nat) : ent78 us look x k = spOf fs78 inv78 us look x k := rfl
structure OutR where
  L : Xf.Loc
  xs : List Int
  L1 : Xf.Loc
  L2 : Xf.Loc
  lo : Int
  hi : Int
def fs74w : FS where
  A := OutR
  args := fun a => [.sl 0 a.L 1 0 a.xs.length, .fn 78 [.ptr 1 a.L1 0 0 0, .ptr 2 a.L2 0 0 0]]
  mem := fun a => [some (.ro, a.L, .ints .i64 a.xs), some (.ro, a.L1, .cells [.int .i64 a.lo]), some (.ro, a.L2, .cells [.int .i64 a.hi])]
  pre := fun a => a.xs.length ≤ 140737488355328
  res := fun a _ => .int .i64 (firstB (outB a.lo a.hi) a.xs)
  out := fun _ _ => []
  new := fun _ _ => []
def inv74w : List SV → Look → Option (OutR × List Nat)
  | [.sl c _ 1 0 _, .fn 78 [.ptr c1 _ 0 0 0, .ptr c2 _ 0 0 0]], look => match rowI (look c), rowC (look c1), rowC (look c2) with
    | some (L, .i64, xs), some (L1, [.int .i64 lo]), some (L2, [.int .i64 hi]) => some (⟨L, xs, L1, L2, lo, hi⟩, [c, c1, c2])
    | _, _, _ => none
  | _, _ => none
attribute [push_cast] inv74w
theorem ok74w : FSOk Try.prog 74 fs74w := by
  refine ⟨⟨_, Try.func74, by kernel_rfl, by kernel_rfl⟩, fun a => ⟨by simp [fs74w, push_cast, noMine, argOwn, Chunk.frArg], by simp [fs74w, push_cast, outOk, Chunk.ext], fun x => .inl (by simp [fs74w, push_cast, frNew, frOut, Chunk.fr])⟩, fun a hp => ?_⟩
  obtain ⟨L, xs, L1, L2, lo, hi⟩ := a
  change xs.length ≤ 140737488355328 at hp
  change Tri Try.prog 74 [.sl 0 L 1 0 xs.length, .fn 78 [.ptr 1 L1 0 0 0, .ptr 2 L2 0 0 0]] [some (.ro, L, .ints .i64 xs), some (.ro, L1, .cells [.int .i64 lo]), some (.ro, L2, .cells [.int .i64 hi])] (postF fs74w ⟨L, xs, L1, L2, lo, hi⟩)
  refine tri_evS (hyp (l := [(78, ent78)]) (lp := []) ⟨e78, trivial⟩ trivial) Try.func74 comp74 (rs := [.tmp 4]) (by rfl) Try.ntmps74 14 ?_
  simp -implicitDefEqProofs only [push_cast, false_implies, reduceCtorEq, Classical.not_not, Nat.reduceAdd, Nat.reduceSub, Nat.reduceMul, Nat.reduceLeDiff, Nat.reduceLT, Nat.reduceEqDiff, Nat.reduceBEq, Nat.reduceBNe, Int.reduceNeg, Int.reduceToNat, Bool.or_false, Bool.false_or, Bool.or_true, Bool.true_or, BEq.rfl, Bool.not_eq_true, Bool.not_eq_false, decide_eq_true_eq, not_true_eq_false, not_false_eq_true, ite_true, ite_false, List.append_nil, and_assoc, Nat.mul_zero, Nat.zero_mul, ir74]
  refine evS_loopU (A := Nat) kp74_1 kl74_1 (fun i => [(8, .int .i64 i)]) (fun _ => [])
    (fun i => i ≤ xs.length ∧ ∀ j, j < i → outB lo hi (rd xs (j : Nat)) = false) (fun i => xs.length - i) 0 ⟨by omega, by omega⟩ (Sub.pt ?_) ?_
  · simp -implicitDefEqProofs only [push_cast, false_implies, reduceCtorEq, Classical.not_not, Nat.reduceAdd, Nat.reduceSub, Nat.reduceMul, Nat.reduceLeDiff, Nat.reduceLT, Nat.reduceEqDiff, Nat.reduceBEq, Nat.reduceBNe, Int.reduceNeg, Int.reduceToNat, Bool.or_false, Bool.false_or, Bool.or_true, Bool.true_or, BEq.rfl, Bool.not_eq_true, Bool.not_eq_false, decide_eq_true_eq, not_true_eq_false, not_false_eq_true, ite_true, ite_false, List.append_nil, and_assoc, Nat.mul_zero, Nat.zero_mul]
  intro i ⟨h1, h2⟩ K hK
  simp -implicitDefEqProofs only [push_cast, false_implies, reduceCtorEq, Classical.not_not, Nat.reduceAdd, Nat.reduceSub, Nat.reduceMul, Nat.reduceLeDiff, Nat.reduceLT, Nat.reduceEqDiff, Nat.reduceBEq, Nat.reduceBNe, Int.reduceNeg, Int.reduceToNat, Bool.or_false, Bool.false_or, Bool.or_true, Bool.true_or, BEq.rfl, Bool.not_eq_true, Bool.not_eq_false, decide_eq_true_eq, not_true_eq_false, not_false_eq_true, ite_true, ite_false, List.append_nil, and_assoc, Nat.mul_zero, Nat.zero_mul, b74_1, r74_2, fs78]
  refine ⟨fun h => ⟨by omega, h, by omega, h, fun hb => ?_, fun hb => ⟨by omega, by omega, ?_⟩⟩, fun h => ?_⟩
  · have e := firstB_at (by omega) hb h2
    exact postF.mk' (fun _ => default) [some 0, some 1, some 2] (by simp -implicitDefEqProofs only [push_cast, false_implies, reduceCtorEq, Classical.not_not, Nat.reduceAdd, Nat.reduceSub, Nat.reduceMul, Nat.reduceLeDiff, Nat.reduceLT, Nat.reduceEqDiff, Nat.reduceBEq, Nat.reduceBNe, Int.reduceNeg, Int.reduceToNat, Bool.or_false, Bool.false_or, Bool.or_true, Bool.true_or, BEq.rfl, Bool.not_eq_true, Bool.not_eq_false, decide_eq_true_eq, not_true_eq_false, not_false_eq_true, ite_true, ite_false, List.append_nil, and_assoc, Nat.mul_zero, Nat.zero_mul, fs74w, e])
  · refine hK (i + 1) ⟨by omega, ?_⟩ (show xs.length - (i + 1) < xs.length - i by omega) _ _ (Sub.pt ?_)
    · intro j hj
      by_cases e : j = i
      · subst e; exact hb
      · exact h2 j (by omega)
    · simp -implicitDefEqProofs only [push_cast, false_implies, reduceCtorEq, Classical.not_not, Nat.reduceAdd, Nat.reduceSub, Nat.reduceMul, Nat.reduceLeDiff, Nat.reduceLT, Nat.reduceEqDiff, Nat.reduceBEq, Nat.reduceBNe, Int.reduceNeg, Int.reduceToNat, Bool.or_false, Bool.false_or, Bool.or_true, Bool.true_or, BEq.rfl, Bool.not_eq_true, Bool.not_eq_false, decide_eq_true_eq, not_true_eq_false, not_false_eq_true, ite_true, ite_false, List.append_nil, and_assoc, Nat.mul_zero, Nat.zero_mul]
  · have e := firstB_no (p := outB lo hi) (xs := xs) (fun j hj => h2 j (by omega))
    exact postF.mk' (fun _ => default) [some 0, some 1, some 2] (by simp -implicitDefEqProofs only [push_cast, false_implies, reduceCtorEq, Classical.not_not, Nat.reduceAdd, Nat.reduceSub, Nat.reduceMul, Nat.reduceLeDiff, Nat.reduceLT, Nat.reduceEqDiff, Nat.reduceBEq, Nat.reduceBNe, Int.reduceNeg, Int.reduceToNat, Bool.or_false, Bool.false_or, Bool.or_true, Bool.true_or, BEq.rfl, Bool.not_eq_true, Bool.not_eq_false, decide_eq_true_eq, not_true_eq_false, not_false_eq_true, ite_true, ite_false, List.append_nil, and_assoc, Nat.mul_zero, Nat.zero_mul, fs74w, e])
def ent74w : Entry := spOf fs74w inv74w
theorem e74w : EntryOk Try.prog 74 ent74w := entry_of ok74w inv74w
@[push_cast] theorem ent74w_app (us : List SV) (look : Look) (x : Nat → Xf.Loc) (k : Nat) : ent74w us look x k = spOf fs74w inv74w us look x k := rfl
def AllIn (lo hi : Int) (xs : List Int) : Prop := ∀ n, n ∈ xs → lo ≤ n ∧ n ≤ hi
instance (lo hi : Int) (xs : List Int) : Decidable (AllIn lo hi xs) := by unfold AllIn; infer_instance
theorem allIn_iff {lo hi : Int} {xs : List Int} : (0 ≤ firstB (outB lo hi) xs) = ¬ AllIn lo hi xs := by
  rw [firstB_iff]
  unfold AllIn outB
  simp only [decide_eq_true_eq, Classical.not_forall, eq_iff_iff]
  constructor
  · rintro ⟨n, h1, h2⟩; exact ⟨n, h1, by omega⟩
  · rintro ⟨n, h1, h2⟩; exact ⟨n, h1, by omega⟩
theorem allIn_rd {lo hi : Int} {xs : List Int} : AllIn lo hi xs ↔ ∀ j : Nat, j < xs.length → lo ≤ rd xs j ∧ rd xs j ≤ hi := by
  unfold AllIn
  constructor
  · intro h j hj; rw [rd_lt xs j hj]; exact h _ (List.getElem_mem hj)
  · intro h n hn
    obtain ⟨j, hj, rfl⟩ := List.mem_iff_getElem.1 hn
    have := h j hj
    rwa [rd_lt xs j hj] at this
def fs64w : FS := { fs74w with res := fun a _ => .bool (decide (¬ AllIn a.lo a.hi a.xs)) }
theorem ok64w : FSOk Try.prog 64 fs64w := by
  refine ⟨⟨_, Try.func64, by kernel_rfl, by kernel_rfl⟩, fun a => ⟨by simp [fs64w, fs74w, push_cast, noMine, argOwn, Chunk.frArg], by simp [fs64w, fs74w, push_cast, outOk, Chunk.ext], fun x => .inl (by simp [fs64w, fs74w, push_cast, frNew, frOut, Chunk.fr])⟩, fun a hp => ?_⟩
  obtain ⟨L, xs, L1, L2, lo, hi⟩ := a
  change xs.length ≤ 140737488355328 at hp
  change Tri Try.prog 64 [.sl 0 L 1 0 xs.length, .fn 78 [.ptr 1 L1 0 0 0, .ptr 2 L2 0 0 0]] [some (.ro, L, .ints .i64 xs), some (.ro, L1, .cells [.int .i64 lo]), some (.ro, L2, .cells [.int .i64 hi])] (postF fs64w ⟨L, xs, L1, L2, lo, hi⟩)
  refine tri_evS (hyp (l := [(74, ent74w)]) (lp := []) ⟨e74w, trivial⟩ trivial) Try.func64 comp64 (rs := [.tmp 4]) (by rfl) Try.ntmps64 14 ?_
  simp -implicitDefEqProofs only [push_cast, false_implies, reduceCtorEq, Classical.not_not, Nat.reduceAdd, Nat.reduceSub, Nat.reduceMul, Nat.reduceLeDiff, Nat.reduceLT, Nat.reduceEqDiff, Nat.reduceBEq, Nat.reduceBNe, Int.reduceNeg, Int.reduceToNat, Bool.or_false, Bool.false_or, Bool.or_true, Bool.true_or, BEq.rfl, Bool.not_eq_true, Bool.not_eq_false, decide_eq_true_eq, not_true_eq_false, not_false_eq_true, ite_true, ite_false, List.append_nil, and_assoc, Nat.mul_zero, Nat.zero_mul, ir64, fs74w]
  exact ⟨hp, postF.mk' (fun _ => default) [some 0, some 1, some 2] (by simp -implicitDefEqProofs only [push_cast, false_implies, reduceCtorEq, Classical.not_not, Nat.reduceAdd, Nat.reduceSub, Nat.reduceMul, Nat.reduceLeDiff, Nat.reduceLT, Nat.reduceEqDiff, Nat.reduceBEq, Nat.reduceBNe, Int.reduceNeg, Int.reduceToNat, Bool.or_false, Bool.false_or, Bool.or_true, Bool.true_or, BEq.rfl, Bool.not_eq_true, Bool.not_eq_false, decide_eq_true_eq, not_true_eq_false, not_false_eq_true, ite_true, ite_false, List.append_nil, and_assoc, Nat.mul_zero, Nat.zero_mul, fs64w, fs74w, allIn_iff])⟩
def ent64w : Entry := spOf fs64w inv74w
theorem e64w : EntryOk Try.prog 64 ent64w := entry_of ok64w inv74w
@[push_cast] theorem ent64w_app (us : List SV) (look : Look) (x : Nat → Xf.Loc) (k : Nat) : ent64w us look x k = spOf fs64w inv74w us look x k := rfl
def Pl.In (p : Pl) (lo hi : Int) : Prop := SidesOk p.w p.h ∧ p.xs.length = p.w * p.h ∧ AllIn lo hi p.xs
instance (p : Pl) (lo hi : Int) : Decidable (p.In lo hi) := by unfold Pl.In; infer_instance
structure PlA where
  p : Pl
  L : Xf.Loc
structure PlW where
  a : PlA
  lo : Int
  hi : Int
def getP (look : Look) : SV → Option (PlA × List Nat)
  | .agg [.int .i64 w, .int .i64 h, .sl c _ 1 0 _] => match rowI (lkZ look (.ints .i64 []) c) with
    | some (L, .i64, xs) => some (⟨⟨w, h, xs⟩, L⟩, [c])
    | _ => none
  | _ => none
attribute [push_cast] getP
def fs73 : FS where
  A := PlW
  args := fun a => [plV a.a.p a.a.L 0, .int .i64 a.lo, .int .i64 a.hi]
  mem := fun a => [some (.ro, a.a.L, .ints .i64 a.a.p.xs)]
  pre := fun a => a.a.p.xs.length ≤ 140737488355328
  res := fun a _ => .bool (decide (a.a.p.In a.lo a.hi))
  out := fun _ _ => []
  new := fun _ _ => []
def inv73 : List SV → Look → Option (PlW × List Nat)
  | [v, .int .i64 lo, .int .i64 hi], look => match getP look v with
    | some (a, g) => some (⟨a, lo, hi⟩, g)
    | _ => none
  | _, _ => none
attribute [push_cast] inv73
theorem ok73 : FSOk Try.prog 73 fs73 := by
  refine ⟨⟨_, Try.func73, by kernel_rfl, by kernel_rfl⟩, fun a => ⟨by simp [fs73, push_cast, noMine, argOwn, Chunk.frArg], by simp [fs73, push_cast, outOk, Chunk.ext], fun x => .inl (by simp [fs73, push_cast, frNew, frOut, Chunk.fr])⟩, fun a hp => ?_⟩
  obtain ⟨⟨⟨w, h, xs⟩, L⟩, lo, hi⟩ := a
  change xs.length ≤ 140737488355328 at hp
  change Tri Try.prog 73 [plV ⟨w, h, xs⟩ L 0, .int .i64 lo, .int .i64 hi] [some (.ro, L, .ints .i64 xs)] (postF fs73 ⟨⟨⟨w, h, xs⟩, L⟩, lo, hi⟩)
  refine tri_evS (hyp (l := [(64, ent64w)]) (lp := [(77, sides4F)]) ⟨e64w, trivial⟩ ⟨p77, trivial⟩) Try.func73 comp73 (rs := [.tmp 6]) (by rfl) Try.ntmps73 17 ?_
  simp -implicitDefEqProofs only [push_cast, false_implies, reduceCtorEq, Classical.not_not, Nat.reduceAdd, Nat.reduceSub, Nat.reduceMul, Nat.reduceLeDiff, Nat.reduceLT, Nat.reduceEqDiff, Nat.reduceBEq, Nat.reduceBNe, Int.reduceNeg, Int.reduceToNat, Bool.or_false, Bool.false_or, Bool.or_true, Bool.true_or, BEq.rfl, Bool.not_eq_true, Bool.not_eq_false, decide_eq_true_eq, not_true_eq_false, not_false_eq_true, ite_true, ite_false, List.append_nil, and_assoc, Nat.mul_zero, Nat.zero_mul, ir73, fs64w, fs74w, hp]
  intro X
  refine ⟨fun H => ?_, fun H => ⟨H.1, H.2.1, H.2.2.1, H.2.2.2, H⟩, fun hn => ?_, fun hy => ?_⟩
  · have := mul_bd H.1 H.2.2.1 H.2.1 H.2.2.2
    omega
  · have e : ¬ (⟨w, h, xs⟩ : Pl).In lo hi := fun H => by
      obtain ⟨⟨a1, a2, a3, a4, a5⟩, b, _⟩ := H
      simp only at a1 a2 a3 a4 a5 b
      omega
    refine postF.mk' (fun _ => default) [some 0] ?_
    simp -implicitDefEqProofs only [push_cast, false_implies, reduceCtorEq, Classical.not_not, Nat.reduceAdd, Nat.reduceSub, Nat.reduceMul, Nat.reduceLeDiff, Nat.reduceLT, Nat.reduceEqDiff, Nat.reduceBEq, Nat.reduceBNe, Int.reduceNeg, Int.reduceToNat, Bool.or_false, Bool.false_or, Bool.or_true, Bool.true_or, BEq.rfl, Bool.not_eq_true, Bool.not_eq_false, decide_eq_true_eq, not_true_eq_false, not_false_eq_true, ite_true, ite_false, List.append_nil, and_assoc, Nat.mul_zero, Nat.zero_mul, fs73, e, decide_false]
  · have e : (AllIn lo hi xs) ↔ (⟨w, h, xs⟩ : Pl).In lo hi := by
      unfold Pl.In SidesOk
      simp only
      constructor
      · intro H; refine ⟨⟨by omega, by omega, by omega, by omega, by omega⟩, by omega, H⟩
      · intro H; exact H.2.2
    refine postF.mk' (fun _ => default) [some 0] ?_
    simp -implicitDefEqProofs only [push_cast, false_implies, reduceCtorEq, Classical.not_not, Nat.reduceAdd, Nat.reduceSub, Nat.reduceMul, Nat.reduceLeDiff, Nat.reduceLT, Nat.reduceEqDiff, Nat.reduceBEq, Nat.reduceBNe, Int.reduceNeg, Int.reduceToNat, Bool.or_false, Bool.false_or, Bool.or_true, Bool.true_or, BEq.rfl, Bool.not_eq_true, Bool.not_eq_false, decide_eq_true_eq, not_true_eq_false, not_false_eq_true, ite_true, ite_false, List.append_nil, and_assoc, Nat.mul_zero, Nat.zero_mul, fs73, e]
def ent73 : Entry := spOf fs73 inv73
theorem e73 : EntryOk Try.prog 73 ent73 := entry_of ok73 inv73
@[push_cast] theorem ent73_app (us : List SV) (look : Look) (x : Nat → Xf.Loc) (k : Nat) : ent73 us look x k = spOf fs73 inv73 us look x k := rfl
def Pl.Ok (p : Pl) : Prop := p.In (-16777216) 16777216
instance (p : Pl) : Decidable p.Ok := by unfold Pl.Ok; infer_instance
def fs60 : FS where
  A := PlA
  args := fun a => [plV a.p a.L 0]
  mem := fun a => [some (.ro, a.L, .ints .i64 a.p.xs)]
  pre := fun a => a.p.xs.length ≤ 140737488355328
  res := fun a _ => .bool (decide a.p.Ok)
  out := fun _ _ => []
  new := fun _ _ => []
def inv60 : List SV → Look → Option (PlA × List Nat)
  | [v], look => getP look v
  | _, _ => none
attribute [push_cast] inv60
theorem ok60 : FSOk Try.prog 60 fs60 := by
  refine ⟨⟨_, Try.func60, by kernel_rfl, by kernel_rfl⟩, fun a => ⟨by simp [fs60, push_cast, noMine, argOwn, Chunk.frArg], by simp [fs60, push_cast, outOk, Chunk.ext], fun x => .inl (by simp [fs60, push_cast, frNew, frOut, Chunk.fr])⟩, fun a hp => ?_⟩
  obtain ⟨⟨w, h, xs⟩, L⟩ := a
  change xs.length ≤ 140737488355328 at hp
  change Tri Try.prog 60 [plV ⟨w, h, xs⟩ L 0] [some (.ro, L, .ints .i64 xs)] (postF fs60 ⟨⟨w, h, xs⟩, L⟩)
  refine tri_evS (hyp (l := [(73, ent73)]) (lp := []) ⟨e73, trivial⟩ trivial) Try.func60 comp60 (rs := [.tmp 2]) (by rfl) Try.ntmps60 15 ?_
  simp -implicitDefEqProofs only [push_cast, false_implies, reduceCtorEq, Classical.not_not, Nat.reduceAdd, Nat.reduceSub, Nat.reduceMul, Nat.reduceLeDiff, Nat.reduceLT, Nat.reduceEqDiff, Nat.reduceBEq, Nat.reduceBNe, Int.reduceNeg, Int.reduceToNat, Bool.or_false, Bool.false_or, Bool.or_true, Bool.true_or, BEq.rfl, Bool.not_eq_true, Bool.not_eq_false, decide_eq_true_eq, not_true_eq_false, not_false_eq_true, ite_true, ite_false, List.append_nil, and_assoc, Nat.mul_zero, Nat.zero_mul, ir60, fs73, hp]
  refine fun X => postF.mk' (fun _ => default) [some 0] ?_
  simp -implicitDefEqProofs only [push_cast, false_implies, reduceCtorEq, Classical.not_not, Nat.reduceAdd, Nat.reduceSub, Nat.reduceMul, Nat.reduceLeDiff, Nat.reduceLT, Nat.reduceEqDiff, Nat.reduceBEq, Nat.reduceBNe, Int.reduceNeg, Int.reduceToNat, Bool.or_false, Bool.false_or, Bool.or_true, Bool.true_or, BEq.rfl, Bool.not_eq_true, Bool.not_eq_false, decide_eq_true_eq, not_true_eq_false, not_false_eq_true, ite_true, ite_false, List.append_nil, and_assoc, Nat.mul_zero, Nat.zero_mul, fs60, Pl.Ok]
def ent60 : Entry := spOf fs60 inv60
theorem e60 : EntryOk Try.prog 60 ent60 := entry_of ok60 inv60
@[push_cast] theorem ent60_app (us : List SV) (look : Look) (x : Nat → Xf.Loc) (k : Nat) : ent60 us look x k = spOf fs60 inv60 us look x k := rfl
def Pl.Eq (a b : Pl) : Prop := a.w = b.w ∧ a.h = b.h ∧ a.xs = b.xs
instance (a b : Pl) : Decidable (a.Eq b) := by unfold Pl.Eq; infer_instance
theorem Pl.Eq.refl (a : Pl) : a.Eq a := ⟨rfl, rfl, rfl⟩
structure Pl2 where
  a : PlA
  b : PlA
structure Bk where
  y : PlA
  u : PlA
  v : PlA
def Bk.planes (b : Bk) : Prop := b.y.p.Ok ∧ b.u.p.Ok ∧ b.v.p.Ok
def Bk.sides (b : Bk) : Prop := b.u.p.w = b.y.p.w ∧ b.u.p.h = b.y.p.h ∧ b.v.p.w = b.y.p.w ∧ b.v.p.h = b.y.p.h
instance (b : Bk) : Decidable b.planes := by unfold Bk.planes; infer_instance
instance (b : Bk) : Decidable b.sides := by unfold Bk.sides; infer_instance
def Bk.Ok (b : Bk) : Prop := b.planes ∧ b.sides
instance (b : Bk) : Decidable b.Ok := by unfold Bk.Ok; infer_instance
theorem Bk.Ok.val {w h w1 h1 w2 h2 : Int} {xs ys ws : List Int} {L1 L2 L3 : Xf.Loc} (H : (⟨⟨⟨w, h, xs⟩, L1⟩, ⟨⟨w1, h1, ys⟩, L2⟩, ⟨⟨w2, h2, ws⟩, L3⟩⟩ : Bk).Ok) :
    SidesOk w h ∧ (xs.length : Int) = w * h ∧ ys.length = xs.length ∧ ws.length = xs.length ∧ w1 = w ∧ h1 = h ∧ w2 = w ∧ h2 = h ∧
      ∀ k : Nat, k < xs.length → (-16777216 ≤ rd xs k ∧ rd xs k ≤ 16777216) ∧ (-16777216 ≤ rd ys k ∧ rd ys k ≤ 16777216) ∧ (-16777216 ≤ rd ws k ∧ rd ws k ≤ 16777216) := by
  obtain ⟨⟨⟨a1, a2, a3⟩, ⟨b1, b2, b3⟩, ⟨c1, c2, c3⟩⟩, d1, d2, d3, d4⟩ := H
  simp only at a1 a2 a3 b1 b2 b3 c1 c2 c3 d1 d2 d3 d4
  subst d1 d2 d3 d4
  have e1 : ys.length = xs.length := by omega
  have e2 : ws.length = xs.length := by omega
  exact ⟨a1, a2, e1, e2, rfl, rfl, rfl, rfl, fun k hk => ⟨allIn_rd.1 a3 k hk, allIn_rd.1 b3 k (by omega), allIn_rd.1 c3 k (by omega)⟩⟩
def ir52 : IR :=
  .seq (.reg false [⟨some 2, none, ⟨[], []⟩, .mov (.k nilSV)⟩] [2] []) (.seq (.seq (.reg false [⟨some 3, none, ⟨[], []⟩, .mov (.t 0)⟩,
    ⟨some 4, none, ⟨[], []⟩, .binS .eql (.t 3) (.k nilSV)⟩] [3] []) (.cond (.t 4) (.seq (.reg false [⟨some 2, none, ⟨[], []⟩, .mov (.k nilSV)⟩] [0, 4] []) (.ret)) (.skip))) (.seq (.reg false [⟨some 5, none, ⟨[], []⟩, .bslice 10 []⟩,
    ⟨some 6, none, ⟨[], []⟩, .mov (.t 0)⟩,
    ⟨some 7, none, ⟨[], []⟩, .app 11 1 8 (.t 5) (.t 6)⟩,
    ⟨some 2, none, ⟨[], []⟩, .mov (.t 7)⟩] [0, 4, 5, 6, 7] []) (.ret)))
set_option maxRecDepth 4000 in
theorem comp52 : (Try.f52.body.bind fun c => compC tab isP chkAll ir52 c) = some ir52 := by kernel_rfl
theorem Dens.mem : ∀ {cs : List SV} {vs : List Value} {c : SV}, Dens cs vs → c ∈ cs → ∃ v, Den c v
  | [], _, _, _, h => by cases h
  | d :: cs, vs, c, hd, h => by
    simp only [Dens] at hd
    obtain ⟨v, vs', _, h1, h2⟩ := hd
    rcases List.mem_cons.1 h with rfl | h
    · exact ⟨v, h1⟩
    · exact Dens.mem h2 h
/-- Of a nil slice that is handed over the length is 0. -/
theorem Tri.ofNil {P : Program} {f : FuncId} {args : List SV} {m : Mem} {post : SV → Mem → Prop} {c : Nat} {L : Xf.Loc} {s : Nat} {n : Int} (hm : SV.sl c L s 0 n ∈ args) (h : (L.nil = true → n = 0) → Tri P f args m post) : Tri P f args m post := by
  intro w vs hd hw
  refine h ?_ w vs hd hw
  intro hn
  obtain ⟨v, hv⟩ := Dens.mem hd hm
  simp only [Den] at hv
  obtain ⟨h1, h2, h3, h4, _⟩ := hv
  have := h4 hn
  omega
def fs52 : FS where
  A := RowA
  args := fun a => [.sl 0 a.L 1 0 a.xs.length]
  mem := rowM
  pre := fun a => a.xs.length ≤ 1000000000000
  res := fun a x => .sl 1 (x 0) 1 0 a.xs.length
  out := fun _ _ => []
  new := fun a x => [(x 0, .ints .i64 a.xs)]
def inv52 : List SV → Look → Option (RowA × List Nat)
  | [.sl c _ 1 0 _], look => match rowI (lkZ look (.ints .i64 []) c) with
    | some (L, .i64, xs) => some (⟨L, xs⟩, [c])
    | _ => none
  | _, _ => none
attribute [push_cast] inv52
theorem ok52 : FSOk Try.prog 52 fs52 := by
  refine ⟨⟨_, Try.func52, by kernel_rfl, by kernel_rfl⟩, fun a => ⟨by simp [fs52, rowM, push_cast, noMine, argOwn, Chunk.frArg], by simp [fs52, rowM, push_cast, outOk, Chunk.ext], fun x => .inl (by simp [fs52, rowM, push_cast, frNew, frOut, Chunk.fr])⟩, fun a hp => ?_⟩
  obtain ⟨L, xs⟩ := a
  change xs.length ≤ 1000000000000 at hp
  change Tri Try.prog 52 [.sl 0 L 1 0 xs.length] [some (.ro, L, .ints .i64 xs)] (postF fs52 ⟨L, xs⟩)
  refine Tri.ofNil (List.mem_singleton.2 rfl) fun hn => ?_
  cases hL : L.nil
  · refine tri_evS (hyp (l := []) (lp := []) trivial trivial) Try.func52 comp52 (rs := [.tmp 2]) (by rfl) Try.ntmps52 12 ?_
    simp -implicitDefEqProofs only [push_cast, false_implies, reduceCtorEq, Classical.not_not, Nat.reduceAdd, Nat.reduceSub, Nat.reduceMul, Nat.reduceLeDiff, Nat.reduceLT, Nat.reduceEqDiff, Nat.reduceBEq, Nat.reduceBNe, Int.reduceNeg, Int.reduceToNat, Bool.or_false, Bool.false_or, Bool.or_true, Bool.true_or, BEq.rfl, Bool.not_eq_true, Bool.not_eq_false, decide_eq_true_eq, not_true_eq_false, not_false_eq_true, ite_true, ite_false, List.append_nil, and_assoc, Nat.mul_zero, Nat.zero_mul, ir52, hL]
    exact ⟨rfl, fun X => ⟨by omega, postF.mk' (fun _ => X 2 11) [some 0, some 11] (by simp -implicitDefEqProofs only [push_cast, false_implies, reduceCtorEq, Classical.not_not, Nat.reduceAdd, Nat.reduceSub, Nat.reduceMul, Nat.reduceLeDiff, Nat.reduceLT, Nat.reduceEqDiff, Nat.reduceBEq, Nat.reduceBNe, Int.reduceNeg, Int.reduceToNat, Bool.or_false, Bool.false_or, Bool.or_true, Bool.true_or, BEq.rfl, Bool.not_eq_true, Bool.not_eq_false, decide_eq_true_eq, not_true_eq_false, not_false_eq_true, ite_true, ite_false, List.append_nil, and_assoc, Nat.mul_zero, Nat.zero_mul, fs52])⟩⟩
  · obtain rfl : xs = [] := List.eq_nil_of_length_eq_zero (by have := hn hL; omega)
    refine tri_evS (hyp (l := []) (lp := []) trivial trivial) Try.func52 comp52 (rs := [.tmp 2]) (by rfl) Try.ntmps52 12 ?_
    simp -implicitDefEqProofs only [push_cast, false_implies, reduceCtorEq, Classical.not_not, Nat.reduceAdd, Nat.reduceSub, Nat.reduceMul, Nat.reduceLeDiff, Nat.reduceLT, Nat.reduceEqDiff, Nat.reduceBEq, Nat.reduceBNe, Int.reduceNeg, Int.reduceToNat, Bool.or_false, Bool.false_or, Bool.or_true, Bool.true_or, BEq.rfl, Bool.not_eq_true, Bool.not_eq_false, decide_eq_true_eq, not_true_eq_false, not_false_eq_true, ite_true, ite_false, List.append_nil, and_assoc, Nat.mul_zero, Nat.zero_mul, ir52, hL]
    exact ⟨rfl, postF.mk' (fun _ => nilLoc0) [some 0, none] (by simp -implicitDefEqProofs only [push_cast, false_implies, reduceCtorEq, Classical.not_not, Nat.reduceAdd, Nat.reduceSub, Nat.reduceMul, Nat.reduceLeDiff, Nat.reduceLT, Nat.reduceEqDiff, Nat.reduceBEq, Nat.reduceBNe, Int.reduceNeg, Int.reduceToNat, Bool.or_false, Bool.false_or, Bool.or_true, Bool.true_or, BEq.rfl, Bool.not_eq_true, Bool.not_eq_false, decide_eq_true_eq, not_true_eq_false, not_false_eq_true, ite_true, ite_false, List.append_nil, and_assoc, Nat.mul_zero, Nat.zero_mul, fs52, List.length_nil])⟩
def ent52 : Entry := spOf fs52 inv52
theorem e52 : EntryOk Try.prog 52 ent52 := entry_of ok52 inv52
@[push_cast] theorem ent52_app (us : List SV) (look : Look) (x : Nat → Xf.Loc) (k : Nat) : ent52 us look x k = spOf fs52 inv52 us look x k := rfl
structure Row2 where
  L : Xf.Loc
  xs : List Int
  M : Xf.Loc
  ys : List Int
theorem rd_bd {lo hi : Int} {xs : List Int} (h : AllIn lo hi xs) (h0 : lo ≤ 0) (h1 : 0 ≤ hi) (k : Int) : lo ≤ rd xs k ∧ rd xs k ≤ hi := by
  by_cases hk : k.toNat < xs.length
  · have e : rd xs k = xs[k.toNat] := by simp [rd, hk]
    rw [e]; exact h _ (List.getElem_mem hk)
  · have e : rd xs k = 0 := by simp [rd, List.getElem?_eq_none (Nat.not_lt.1 hk)]
    rw [e]; exact ⟨h0, h1⟩
structure PlD where
  a : PlA
  w : Int
  h : Int
def PlD.fit (d : PlD) : Prop := SidesOk d.w d.h ∧ d.a.p.w = (d.w + 1) / 2 ∧ d.a.p.h = (d.h + 1) / 2
instance (d : PlD) : Decidable d.fit := by unfold PlD.fit; infer_instance
def PlD.Ok (d : PlD) : Prop := d.a.p.Ok ∧ d.fit
instance (d : PlD) : Decidable d.Ok := by unfold PlD.Ok; infer_instance
structure Bm where
  w : Int
  h : Int
  xs : List Int
structure BmA where
  b : Bm
  L : Xf.Loc
def Bits (xs : List Int) : Prop := ∀ n, n ∈ xs → n ≤ 1
instance (xs : List Int) : Decidable (Bits xs) := by unfold Bits; infer_instance
def Bm.Ok (b : Bm) : Prop := SidesOk b.w b.h ∧ b.xs.length = b.w * b.h ∧ Bits b.xs
instance (b : Bm) : Decidable b.Ok := by unfold Bm.Ok; infer_instance
structure AtA where
  a : BmA
  x : Int
  y : Int
theorem tabl_set {n i : Nat} (hi : i < n) (f : Nat → Int) (c : Int) : (tabl n f).set i c = tabl n (fun j => if j = i then c else f j) := by
  apply List.ext_getElem (by simp [tabl])
  intro j h1 h2
  simp only [tabl, List.getElem_set, List.getElem_map, List.getElem_range]
  by_cases e : j = i
  · subst e; simp
  · simp [e, Ne.symm e]
def nearP (n : Int) : Prop := -100000 ≤ n ∧ n ≤ 100000
instance (n : Int) : Decidable (nearP n) := by unfold nearP; infer_instance
structure PaintA where
  a : ImA
  b : BmA
  x : Int
  y : Int
  r : Int
  g : Int
  bl : Int
def PaintA.fit (P : PaintA) : Prop := P.b.b.Ok ∧ nearP P.x ∧ nearP P.y ∧ ValOk P.r ∧ ValOk P.g ∧ ValOk P.bl
instance (P : PaintA) : Decidable P.fit := by unfold PaintA.fit; infer_instance
def PaintA.Ok (P : PaintA) : Prop := P.a.i.Ok ∧ P.fit
instance (P : PaintA) : Decidable P.Ok := by unfold PaintA.Ok; infer_instance
def ir36 : IR :=
  .seq (.reg false [⟨some 2, none, ⟨[], []⟩, .mov (.k (.bool false))⟩] [2] []) (.seq (.reg false [⟨some 3, none, ⟨[], []⟩, .mov (.t 0)⟩,
    ⟨some 4, none, ⟨[], []⟩, .bin 0 .eql (.t 3) (.k (.int .i64 0))⟩,
    ⟨some 5, none, ⟨[], []⟩, .mov (.t 4)⟩,
    ⟨some 6, some (5, false), ⟨[], []⟩, .mov (.t 0)⟩,
    ⟨some 7, some (5, false), ⟨[], []⟩, .bin 0 .eql (.t 6) (.k (.int .i64 1))⟩,
    ⟨some 8, none, ⟨[], []⟩, .pick (.t 5) (.k (.bool true)) (.t 7)⟩,
    ⟨some 2, none, ⟨[], []⟩, .mov (.t 8)⟩] [0, 3, 4, 5, 6, 7, 8] []) (.ret))
set_option maxRecDepth 4000 in
theorem comp36 : (Try.f36.body.bind fun c => compC tab isP chkAll ir36 c) = some ir36 := by kernel_rfl
def b17_1 : IR :=
  .seq (.reg false [⟨some 14, none, ⟨[], []⟩, .bin 0 .lss (.t 13) (.t 12)⟩] [] []) (.seq (.cond (.t 14) (.skip) (.exit 0)) (.seq (.block 1 (.seq (.reg false [⟨some 15, none, ⟨[], []⟩, .mov (.t 13)⟩,
    ⟨some 5, none, ⟨[], []⟩, .mov (.t 15)⟩] [14, 15] []) (.seq (.reg true [⟨some 16, none, ⟨[], []⟩, .mov (.t 0)⟩,
    ⟨some 17, none, ⟨[], []⟩, .mov (.t 5)⟩,
    ⟨some 18, none, ⟨[], []⟩, .idxS (.t 16) (.t 17) 1⟩,
    ⟨some 19, none, ⟨[], []⟩, .ld true none 0 0 (.t 18)⟩,
    ⟨some 20, none, ⟨[], []⟩, .mov (.t 1)⟩,
    ⟨some 21, none, ⟨[], []⟩, .mov (.t 5)⟩,
    ⟨some 22, none, ⟨[], []⟩, .idxS (.t 20) (.t 21) 1⟩,
    ⟨some 23, none, ⟨[], []⟩, .ld true none 0 0 (.t 22)⟩,
    ⟨some 24, none, ⟨[], []⟩, .bin 0 .neq (.t 19) (.t 23)⟩] [5, 16, 17, 18, 19, 20, 21, 22, 23] []) (.cond (.t 24) (.seq (.reg false [⟨some 4, none, ⟨[], []⟩, .mov (.k (.bool false))⟩] [0, 1, 12, 13, 24] []) (.ret)) (.skip))))) (.reg false [⟨some 25, none, ⟨[], []⟩, .bin 0 .add (.t 13) (.k (.int .i64 1))⟩,
    ⟨some 13, none, ⟨[], []⟩, .mov (.t 25)⟩] [4, 24, 25] [])))
def r17_2 : IR :=
  .seq (.reg false [⟨some 4, none, ⟨[], []⟩, .mov (.k (.bool true))⟩] [0, 1, 12, 13] []) (.ret)
def ir17 : IR :=
  .seq (.reg false [⟨some 4, none, ⟨[], []⟩, .mov (.k (.bool false))⟩] [4] []) (.seq (.seq (.reg false [⟨some 6, none, ⟨[], []⟩, .mov (.t 0)⟩,
    ⟨some 7, none, ⟨[], []⟩, .len (.t 6)⟩,
    ⟨some 8, none, ⟨[], []⟩, .mov (.t 1)⟩,
    ⟨some 9, none, ⟨[], []⟩, .len (.t 8)⟩,
    ⟨some 10, none, ⟨[], []⟩, .bin 0 .neq (.t 7) (.t 9)⟩] [6, 7, 8, 9] []) (.cond (.t 10) (.seq (.reg false [⟨some 4, none, ⟨[], []⟩, .mov (.k (.bool false))⟩] [0, 1, 10] []) (.ret)) (.skip))) (.seq (.seq (.reg false [⟨some 11, none, ⟨[], []⟩, .mov (.t 0)⟩,
    ⟨some 12, none, ⟨[], []⟩, .len (.t 11)⟩,
    ⟨some 13, none, ⟨[], []⟩, .mov (.k (.int .i64 0))⟩] [4, 10, 11] []) (.block 0 (.loop b17_1))) (r17_2)))
def kp17_1 : List Nat := [0, 1, 12, 13]
def kl17_1 : List Nat := []
attribute [push_cast] kp17_1 kl17_1
set_option maxRecDepth 4000 in
theorem comp17 : (Try.f17.body.bind fun c => compC tab isP chkAll ir17 c) = some ir17 := by kernel_rfl
def ir65 : IR :=
  .seq (.reg false [⟨some 3, none, ⟨[], []⟩, .mov (.k (.bool false))⟩] [3] []) (.seq (.reg false [⟨some 4, none, ⟨[], []⟩, .mov (.t 0)⟩,
    ⟨some 5, none, ⟨[], []⟩, .ld false none 0 0 (.t 1)⟩,
    ⟨some 6, none, ⟨[], []⟩, .neg 0 (.t 5)⟩,
    ⟨some 7, none, ⟨[], []⟩, .bin 0 .lss (.t 4) (.t 6)⟩,
    ⟨some 8, none, ⟨[], []⟩, .mov (.t 7)⟩,
    ⟨some 9, some (8, false), ⟨[], []⟩, .mov (.t 0)⟩,
    ⟨some 10, some (8, false), ⟨[], []⟩, .ld false none 0 0 (.t 1)⟩,
    ⟨some 11, some (8, false), ⟨[], []⟩, .bin 0 .gtr (.t 9) (.t 10)⟩,
    ⟨some 12, none, ⟨[], []⟩, .pick (.t 8) (.k (.bool true)) (.t 11)⟩,
    ⟨some 3, none, ⟨[], []⟩, .mov (.t 12)⟩] [0, 1, 4, 5, 6, 7, 8, 9, 10, 11, 12] []) (.ret))
set_option maxRecDepth 4000 in
theorem comp65 : (Try.f65.body.bind fun c => compC tab isP chkAll ir65 c) = some ir65 := by kernel_rfl
def ir37 : IR :=
  .seq (.reg false [⟨some 3, none, ⟨[], []⟩, .box 10 (.t 1)⟩,
    ⟨some 4, none, ⟨[], []⟩, .mov (.k (.bool false))⟩] [1, 4] []) (.seq (.reg false [⟨some 5, none, ⟨[], []⟩, .mov (.t 0)⟩,
    ⟨some 6, none, ⟨[], []⟩, .mkf 65 [.t 3]⟩,
    ⟨some 7, none, ⟨[], []⟩, .call (some 4) 11 64 [.t 5, .t 6]⟩,
    ⟨some 8, none, ⟨[], []⟩, .not (.t 7)⟩,
    ⟨some 4, none, ⟨[], []⟩, .mov (.t 8)⟩] [0, 3, 5, 6, 7, 8] []) (.ret))
set_option maxRecDepth 4000 in
theorem comp37 : (Try.f37.body.bind fun c => compC tab isP chkAll ir37 c) = some ir37 := by kernel_rfl
def kindF : EntryP
  | [.int .i64 k] => some (True, .bool (decide (k = 0 ∨ k = 1)))
  | _ => none
attribute [push_cast] kindF
theorem p36 : EntryPOk Try.prog 36 kindF := by
  refine ⟨⟨_, Try.func36, by kernel_rfl, by kernel_rfl⟩, fun us p v h hp => ?_⟩
  unfold kindF at h
  split at h <;> cases h
  refine tri_evS (hyp (l := []) (lp := []) trivial trivial) Try.func36 comp36 (rs := [.tmp 2]) (by rfl) Try.ntmps36 10 ?_
  simp -implicitDefEqProofs only [push_cast, false_implies, reduceCtorEq, Classical.not_not, Nat.reduceAdd, Nat.reduceSub, Nat.reduceMul, Nat.reduceLeDiff, Nat.reduceLT, Nat.reduceEqDiff, Nat.reduceBEq, Nat.reduceBNe, Int.reduceNeg, Int.reduceToNat, Bool.or_false, Bool.false_or, Bool.or_true, Bool.true_or, BEq.rfl, Bool.not_eq_true, Bool.not_eq_false, decide_eq_true_eq, not_true_eq_false, not_false_eq_true, ite_true, ite_false, List.append_nil, and_assoc, Nat.mul_zero, Nat.zero_mul, ir36, kindF]
structure Row2w where
  L : Xf.Loc
  xs : List Int
  M : Xf.Loc
  ys : List Int
def fs17 : FS where
  A := Row2w
  args := fun a => [.sl 0 a.L 1 0 a.xs.length, .sl 1 a.M 1 0 a.ys.length]
  mem := fun a => [some (.ro, a.L, .ints .i64 a.xs), some (.ro, a.M, .ints .i64 a.ys)]
  pre := fun a => a.xs.length ≤ 140737488355328 ∧ a.ys.length ≤ 140737488355328
  res := fun a _ => .bool (decide (a.xs = a.ys))
  out := fun _ _ => []
  new := fun _ _ => []
def inv17 : List SV → Look → Option (Row2w × List Nat)
  | [.sl c _ 1 0 _, .sl d _ 1 0 _], look => match rowI (lkZ look (.ints .i64 []) c), rowI (lkZ look (.ints .i64 []) d) with
    | some (L, .i64, xs), some (M, .i64, ys) => some (⟨L, xs, M, ys⟩, [c, d])
    | _, _ => none
  | _, _ => none
attribute [push_cast] inv17
theorem ok17 : FSOk Try.prog 17 fs17 := by
  refine ⟨⟨_, Try.func17, by kernel_rfl, by kernel_rfl⟩, fun a => ⟨by simp [fs17, push_cast, noMine, argOwn, Chunk.frArg], by simp [fs17, push_cast, outOk, Chunk.ext], fun x => .inl (by simp [fs17, push_cast, frNew, frOut, Chunk.fr])⟩, fun a hp => ?_⟩
  obtain ⟨L, xs, M, ys⟩ := a
  obtain ⟨hp1, hp2⟩ : xs.length ≤ 140737488355328 ∧ ys.length ≤ 140737488355328 := hp
  change Tri Try.prog 17 [.sl 0 L 1 0 xs.length, .sl 1 M 1 0 ys.length] [some (.ro, L, .ints .i64 xs), some (.ro, M, .ints .i64 ys)] (postF fs17 ⟨L, xs, M, ys⟩)
  refine tri_evS (hyp (l := []) (lp := []) trivial trivial) Try.func17 comp17 (rs := [.tmp 4]) (by rfl) Try.ntmps17 10 ?_
  simp -implicitDefEqProofs only [push_cast, false_implies, reduceCtorEq, Classical.not_not, Nat.reduceAdd, Nat.reduceSub, Nat.reduceMul, Nat.reduceLeDiff, Nat.reduceLT, Nat.reduceEqDiff, Nat.reduceBEq, Nat.reduceBNe, Int.reduceNeg, Int.reduceToNat, Bool.or_false, Bool.false_or, Bool.or_true, Bool.true_or, BEq.rfl, Bool.not_eq_true, Bool.not_eq_false, decide_eq_true_eq, not_true_eq_false, not_false_eq_true, ite_true, ite_false, List.append_nil, and_assoc, Nat.mul_zero, Nat.zero_mul, ir17]
  refine ⟨fun hn => ?_, fun hy => ?_⟩
  · have e : ¬ xs = ys := fun H => by subst H; exact hn rfl
    refine postF.mk' (fun _ => default) [some 0, some 1] ?_
    simp -implicitDefEqProofs only [push_cast, false_implies, reduceCtorEq, Classical.not_not, Nat.reduceAdd, Nat.reduceSub, Nat.reduceMul, Nat.reduceLeDiff, Nat.reduceLT, Nat.reduceEqDiff, Nat.reduceBEq, Nat.reduceBNe, Int.reduceNeg, Int.reduceToNat, Bool.or_false, Bool.false_or, Bool.or_true, Bool.true_or, BEq.rfl, Bool.not_eq_true, Bool.not_eq_false, decide_eq_true_eq, not_true_eq_false, not_false_eq_true, ite_true, ite_false, List.append_nil, and_assoc, Nat.mul_zero, Nat.zero_mul, fs17, e, decide_false]
  have hl : xs.length = ys.length := by omega
  refine evS_loopU (A := Nat) kp17_1 kl17_1 (fun i => [(13, .int .i64 i)]) (fun _ => [])
    (fun i => i ≤ xs.length ∧ ∀ j, j < i → rd xs (j : Nat) = rd ys (j : Nat)) (fun i => xs.length - i) 0 ⟨by omega, by omega⟩ (Sub.pt ?_) ?_
  · simp -implicitDefEqProofs only [push_cast, false_implies, reduceCtorEq, Classical.not_not, Nat.reduceAdd, Nat.reduceSub, Nat.reduceMul, Nat.reduceLeDiff, Nat.reduceLT, Nat.reduceEqDiff, Nat.reduceBEq, Nat.reduceBNe, Int.reduceNeg, Int.reduceToNat, Bool.or_false, Bool.false_or, Bool.or_true, Bool.true_or, BEq.rfl, Bool.not_eq_true, Bool.not_eq_false, decide_eq_true_eq, not_true_eq_false, not_false_eq_true, ite_true, ite_false, List.append_nil, and_assoc, Nat.mul_zero, Nat.zero_mul]
  intro i ⟨h1, h2⟩ K hK
  simp -implicitDefEqProofs only [push_cast, false_implies, reduceCtorEq, Classical.not_not, Nat.reduceAdd, Nat.reduceSub, Nat.reduceMul, Nat.reduceLeDiff, Nat.reduceLT, Nat.reduceEqDiff, Nat.reduceBEq, Nat.reduceBNe, Int.reduceNeg, Int.reduceToNat, Bool.or_false, Bool.false_or, Bool.or_true, Bool.true_or, BEq.rfl, Bool.not_eq_true, Bool.not_eq_false, decide_eq_true_eq, not_true_eq_false, not_false_eq_true, ite_true, ite_false, List.append_nil, and_assoc, Nat.mul_zero, Nat.zero_mul, b17_1, r17_2]
  refine ⟨fun h => ?_, fun h => ?_⟩
  · repeat (refine And.intro (by first | omega | trivial | (intros; omega)) ?_)
    refine ⟨fun hb => ?_, fun hg => ⟨by omega, by omega, ?_⟩⟩
    · have e : ¬ xs = ys := fun H => by subst H; exact hb rfl
      refine postF.mk' (fun _ => default) [some 0, some 1] ?_
      simp -implicitDefEqProofs only [push_cast, false_implies, reduceCtorEq, Classical.not_not, Nat.reduceAdd, Nat.reduceSub, Nat.reduceMul, Nat.reduceLeDiff, Nat.reduceLT, Nat.reduceEqDiff, Nat.reduceBEq, Nat.reduceBNe, Int.reduceNeg, Int.reduceToNat, Bool.or_false, Bool.false_or, Bool.or_true, Bool.true_or, BEq.rfl, Bool.not_eq_true, Bool.not_eq_false, decide_eq_true_eq, not_true_eq_false, not_false_eq_true, ite_true, ite_false, List.append_nil, and_assoc, Nat.mul_zero, Nat.zero_mul, fs17, e, decide_false]
    · refine hK (i + 1) ⟨by omega, fun j hj => ?_⟩ (show xs.length - (i + 1) < xs.length - i by omega) _ _ (Sub.pt ?_)
      · by_cases e : j = i
        · subst e; exact hg
        · exact h2 j (by omega)
      · simp -implicitDefEqProofs only [push_cast, false_implies, reduceCtorEq, Classical.not_not, Nat.reduceAdd, Nat.reduceSub, Nat.reduceMul, Nat.reduceLeDiff, Nat.reduceLT, Nat.reduceEqDiff, Nat.reduceBEq, Nat.reduceBNe, Int.reduceNeg, Int.reduceToNat, Bool.or_false, Bool.false_or, Bool.or_true, Bool.true_or, BEq.rfl, Bool.not_eq_true, Bool.not_eq_false, decide_eq_true_eq, not_true_eq_false, not_false_eq_true, ite_true, ite_false, List.append_nil, and_assoc, Nat.mul_zero, Nat.zero_mul]
  · have e : xs = ys := eq_of_rd hl fun j hj => h2 j (by omega)
    refine postF.mk' (fun _ => default) [some 0, some 1] ?_
    simp -implicitDefEqProofs only [push_cast, false_implies, reduceCtorEq, Classical.not_not, Nat.reduceAdd, Nat.reduceSub, Nat.reduceMul, Nat.reduceLeDiff, Nat.reduceLT, Nat.reduceEqDiff, Nat.reduceBEq, Nat.reduceBNe, Int.reduceNeg, Int.reduceToNat, Bool.or_false, Bool.false_or, Bool.or_true, Bool.true_or, BEq.rfl, Bool.not_eq_true, Bool.not_eq_false, decide_eq_true_eq, not_true_eq_false, not_false_eq_true, ite_true, ite_false, List.append_nil, and_assoc, Nat.mul_zero, Nat.zero_mul, fs17, e, decide_true]
def ent17 : Entry := spOf fs17 inv17
theorem e17 : EntryOk Try.prog 17 ent17 := entry_of ok17 inv17
@[push_cast] theorem ent17_app (us : List SV) (look : Look) (x : Nat → Xf.Loc) (k : Nat) : ent17 us look x k = spOf fs17 inv17 us look x k := rfl
structure OutU where
  L1 : Xf.Loc
  n : Int
  m : Int
def fs65 : FS where
  A := OutU
  args := fun a => [.int .i64 a.n, .ptr 0 a.L1 0 0 0]
  mem := fun a => [some (.ro, a.L1, .cells [.int .i64 a.m])]
  pre := fun a => 0 ≤ a.m ∧ a.m ≤ 1099511627776
  res := fun a _ => .bool (outB (-a.m) a.m a.n)
  out := fun _ _ => []
  new := fun _ _ => []
def inv65 : List SV → Look → Option (OutU × List Nat)
  | [.int .i64 n, .ptr c1 _ 0 0 0], look => match rowC (look c1) with
    | some (L1, [.int .i64 m]) => some (⟨L1, n, m⟩, [c1])
    | _ => none
  | _, _ => none
attribute [push_cast] inv65
theorem ok65 : FSOk Try.prog 65 fs65 := by
  refine ⟨⟨_, Try.func65, by kernel_rfl, by kernel_rfl⟩, fun a => ⟨by simp [fs65, push_cast, noMine, argOwn, Chunk.frArg], by simp [fs65, push_cast, outOk, Chunk.ext], fun x => .inl (by simp [fs65, push_cast, frNew, frOut, Chunk.fr])⟩, fun a hp => ?_⟩
  obtain ⟨L1, n, m⟩ := a
  obtain ⟨h1, h2⟩ : 0 ≤ m ∧ m ≤ 1099511627776 := hp
  change Tri Try.prog 65 [.int .i64 n, .ptr 0 L1 0 0 0] [some (.ro, L1, .cells [.int .i64 m])] (postF fs65 ⟨L1, n, m⟩)
  refine tri_evS (hyp (l := []) (lp := []) trivial trivial) Try.func65 comp65 (rs := [.tmp 3]) (by rfl) Try.ntmps65 10 ?_
  simp -implicitDefEqProofs only [push_cast, false_implies, reduceCtorEq, Classical.not_not, Nat.reduceAdd, Nat.reduceSub, Nat.reduceMul, Nat.reduceLeDiff, Nat.reduceLT, Nat.reduceEqDiff, Nat.reduceBEq, Nat.reduceBNe, Int.reduceNeg, Int.reduceToNat, Bool.or_false, Bool.false_or, Bool.or_true, Bool.true_or, BEq.rfl, Bool.not_eq_true, Bool.not_eq_false, decide_eq_true_eq, not_true_eq_false, not_false_eq_true, ite_true, ite_false, List.append_nil, and_assoc, Nat.mul_zero, Nat.zero_mul, ir65]
  repeat (refine And.intro (by first | omega | trivial | (intros; omega)) ?_)
  refine postF.mk' (fun _ => default) [some 0] ?_
  simp -implicitDefEqProofs only [push_cast, false_implies, reduceCtorEq, Classical.not_not, Nat.reduceAdd, Nat.reduceSub, Nat.reduceMul, Nat.reduceLeDiff, Nat.reduceLT, Nat.reduceEqDiff, Nat.reduceBEq, Nat.reduceBNe, Int.reduceNeg, Int.reduceToNat, Bool.or_false, Bool.false_or, Bool.or_true, Bool.true_or, BEq.rfl, Bool.not_eq_true, Bool.not_eq_false, decide_eq_true_eq, not_true_eq_false, not_false_eq_true, ite_true, ite_false, List.append_nil, and_assoc, Nat.mul_zero, Nat.zero_mul, fs65, outB]
def ent65 : Entry := spOf fs65 inv65
theorem e65 : EntryOk Try.prog 65 ent65 := entry_of ok65 inv65
@[push_cast] theorem ent65_app (us : List SV) (look : Look) (x : Nat → Xf.Loc) (k : Nat) : ent65 us look x k = spOf fs65 inv65 us look x k := rfl
structure OutV where
  L : Xf.Loc
  xs : List Int
  L1 : Xf.Loc
  m : Int
def fs74u : FS where
  A := OutV
  args := fun a => [.sl 0 a.L 1 0 a.xs.length, .fn 65 [.ptr 1 a.L1 0 0 0]]
  mem := fun a => [some (.ro, a.L, .ints .i64 a.xs), some (.ro, a.L1, .cells [.int .i64 a.m])]
  pre := fun a => a.xs.length ≤ 140737488355328 ∧ 0 ≤ a.m ∧ a.m ≤ 1099511627776
  res := fun a _ => .int .i64 (firstB (outB (-a.m) a.m) a.xs)
  out := fun _ _ => []
  new := fun _ _ => []
def inv74u : List SV → Look → Option (OutV × List Nat)
  | [.sl c _ 1 0 _, .fn 65 [.ptr c1 _ 0 0 0]], look => match rowI (lkZ look (.ints .i64 []) c), rowC (look c1) with
    | some (L, .i64, xs), some (L1, [.int .i64 m]) => some (⟨L, xs, L1, m⟩, [c, c1])
    | _, _ => none
  | _, _ => none
attribute [push_cast] inv74u
theorem ok74u : FSOk Try.prog 74 fs74u := by
  refine ⟨⟨_, Try.func74, by kernel_rfl, by kernel_rfl⟩, fun a => ⟨by simp [fs74u, push_cast, noMine, argOwn, Chunk.frArg], by simp [fs74u, push_cast, outOk, Chunk.ext], fun x => .inl (by simp [fs74u, push_cast, frNew, frOut, Chunk.fr])⟩, fun a hp => ?_⟩
  obtain ⟨L, xs, L1, m⟩ := a
  obtain ⟨hp, hm1, hm2⟩ : xs.length ≤ 140737488355328 ∧ 0 ≤ m ∧ m ≤ 1099511627776 := hp
  change Tri Try.prog 74 [.sl 0 L 1 0 xs.length, .fn 65 [.ptr 1 L1 0 0 0]] [some (.ro, L, .ints .i64 xs), some (.ro, L1, .cells [.int .i64 m])] (postF fs74u ⟨L, xs, L1, m⟩)
  refine tri_evS (hyp (l := [(65, ent65)]) (lp := []) ⟨e65, trivial⟩ trivial) Try.func74 comp74 (rs := [.tmp 4]) (by rfl) Try.ntmps74 14 ?_
  simp -implicitDefEqProofs only [push_cast, false_implies, reduceCtorEq, Classical.not_not, Nat.reduceAdd, Nat.reduceSub, Nat.reduceMul, Nat.reduceLeDiff, Nat.reduceLT, Nat.reduceEqDiff, Nat.reduceBEq, Nat.reduceBNe, Int.reduceNeg, Int.reduceToNat, Bool.or_false, Bool.false_or, Bool.or_true, Bool.true_or, BEq.rfl, Bool.not_eq_true, Bool.not_eq_false, decide_eq_true_eq, not_true_eq_false, not_false_eq_true, ite_true, ite_false, List.append_nil, and_assoc, Nat.mul_zero, Nat.zero_mul, ir74]
  refine evS_loopU (A := Nat) kp74_1 kl74_1 (fun i => [(8, .int .i64 i)]) (fun _ => [])
    (fun i => i ≤ xs.length ∧ ∀ j, j < i → outB (-m) m (rd xs (j : Nat)) = false) (fun i => xs.length - i) 0 ⟨by omega, by omega⟩ (Sub.pt ?_) ?_
  · simp -implicitDefEqProofs only [push_cast, false_implies, reduceCtorEq, Classical.not_not, Nat.reduceAdd, Nat.reduceSub, Nat.reduceMul, Nat.reduceLeDiff, Nat.reduceLT, Nat.reduceEqDiff, Nat.reduceBEq, Nat.reduceBNe, Int.reduceNeg, Int.reduceToNat, Bool.or_false, Bool.false_or, Bool.or_true, Bool.true_or, BEq.rfl, Bool.not_eq_true, Bool.not_eq_false, decide_eq_true_eq, not_true_eq_false, not_false_eq_true, ite_true, ite_false, List.append_nil, and_assoc, Nat.mul_zero, Nat.zero_mul]
  intro i ⟨h1, h2⟩ K hK
  simp -implicitDefEqProofs only [push_cast, false_implies, reduceCtorEq, Classical.not_not, Nat.reduceAdd, Nat.reduceSub, Nat.reduceMul, Nat.reduceLeDiff, Nat.reduceLT, Nat.reduceEqDiff, Nat.reduceBEq, Nat.reduceBNe, Int.reduceNeg, Int.reduceToNat, Bool.or_false, Bool.false_or, Bool.or_true, Bool.true_or, BEq.rfl, Bool.not_eq_true, Bool.not_eq_false, decide_eq_true_eq, not_true_eq_false, not_false_eq_true, ite_true, ite_false, List.append_nil, and_assoc, Nat.mul_zero, Nat.zero_mul, b74_1, r74_2, fs65]
  refine ⟨fun h => ?_, fun h => ?_⟩
  · repeat (refine And.intro (by first | omega | trivial | (intros; omega)) ?_)
    refine ⟨fun hb => ?_, fun hb => ⟨by omega, by omega, ?_⟩⟩
    · have e := firstB_at (by omega) hb h2
      exact postF.mk' (fun _ => default) [some 0, some 1] (by simp -implicitDefEqProofs only [push_cast, false_implies, reduceCtorEq, Classical.not_not, Nat.reduceAdd, Nat.reduceSub, Nat.reduceMul, Nat.reduceLeDiff, Nat.reduceLT, Nat.reduceEqDiff, Nat.reduceBEq, Nat.reduceBNe, Int.reduceNeg, Int.reduceToNat, Bool.or_false, Bool.false_or, Bool.or_true, Bool.true_or, BEq.rfl, Bool.not_eq_true, Bool.not_eq_false, decide_eq_true_eq, not_true_eq_false, not_false_eq_true, ite_true, ite_false, List.append_nil, and_assoc, Nat.mul_zero, Nat.zero_mul, fs74u, e])
    · refine hK (i + 1) ⟨by omega, ?_⟩ (show xs.length - (i + 1) < xs.length - i by omega) _ _ (Sub.pt ?_)
      · intro j hj
        by_cases e : j = i
        · subst e; exact hb
        · exact h2 j (by omega)
      · simp -implicitDefEqProofs only [push_cast, false_implies, reduceCtorEq, Classical.not_not, Nat.reduceAdd, Nat.reduceSub, Nat.reduceMul, Nat.reduceLeDiff, Nat.reduceLT, Nat.reduceEqDiff, Nat.reduceBEq, Nat.reduceBNe, Int.reduceNeg, Int.reduceToNat, Bool.or_false, Bool.false_or, Bool.or_true, Bool.true_or, BEq.rfl, Bool.not_eq_true, Bool.not_eq_false, decide_eq_true_eq, not_true_eq_false, not_false_eq_true, ite_true, ite_false, List.append_nil, and_assoc, Nat.mul_zero, Nat.zero_mul]
  · have e := firstB_no (p := outB (-m) m) (xs := xs) (fun j hj => h2 j (by omega))
    exact postF.mk' (fun _ => default) [some 0, some 1] (by simp -implicitDefEqProofs only [push_cast, false_implies, reduceCtorEq, Classical.not_not, Nat.reduceAdd, Nat.reduceSub, Nat.reduceMul, Nat.reduceLeDiff, Nat.reduceLT, Nat.reduceEqDiff, Nat.reduceBEq, Nat.reduceBNe, Int.reduceNeg, Int.reduceToNat, Bool.or_false, Bool.false_or, Bool.or_true, Bool.true_or, BEq.rfl, Bool.not_eq_true, Bool.not_eq_false, decide_eq_true_eq, not_true_eq_false, not_false_eq_true, ite_true, ite_false, List.append_nil, and_assoc, Nat.mul_zero, Nat.zero_mul, fs74u, e])
def ent74u : Entry := spOf fs74u inv74u
theorem e74u : EntryOk Try.prog 74 ent74u := entry_of ok74u inv74u
@[push_cast] theorem ent74u_app (us : List SV) (look : Look) (x : Nat → Xf.Loc) (k : Nat) : ent74u us look x k = spOf fs74u inv74u us look x k := rfl
def fs64u : FS := { fs74u with res := fun a _ => .bool (decide (¬ AllIn (-a.m) a.m a.xs)) }
theorem ok64u : FSOk Try.prog 64 fs64u := by
  refine ⟨⟨_, Try.func64, by kernel_rfl, by kernel_rfl⟩, fun a => ⟨by simp [fs64u, fs74u, push_cast, noMine, argOwn, Chunk.frArg], by simp [fs64u, fs74u, push_cast, outOk, Chunk.ext], fun x => .inl (by simp [fs64u, fs74u, push_cast, frNew, frOut, Chunk.fr])⟩, fun a hp => ?_⟩
  obtain ⟨L, xs, L1, m⟩ := a
  change Tri Try.prog 64 [.sl 0 L 1 0 xs.length, .fn 65 [.ptr 1 L1 0 0 0]] [some (.ro, L, .ints .i64 xs), some (.ro, L1, .cells [.int .i64 m])] (postF fs64u ⟨L, xs, L1, m⟩)
  refine tri_evS (hyp (l := [(74, ent74u)]) (lp := []) ⟨e74u, trivial⟩ trivial) Try.func64 comp64 (rs := [.tmp 4]) (by rfl) Try.ntmps64 14 ?_
  obtain ⟨h1, h2, h3⟩ := hp
  simp -implicitDefEqProofs only [push_cast, false_implies, reduceCtorEq, Classical.not_not, Nat.reduceAdd, Nat.reduceSub, Nat.reduceMul, Nat.reduceLeDiff, Nat.reduceLT, Nat.reduceEqDiff, Nat.reduceBEq, Nat.reduceBNe, Int.reduceNeg, Int.reduceToNat, Bool.or_false, Bool.false_or, Bool.or_true, Bool.true_or, BEq.rfl, Bool.not_eq_true, Bool.not_eq_false, decide_eq_true_eq, not_true_eq_false, not_false_eq_true, ite_true, ite_false, List.append_nil, and_assoc, Nat.mul_zero, Nat.zero_mul, ir64, fs74u]
  exact ⟨h1, h2, h3, postF.mk' (fun _ => default) [some 0, some 1] (by simp -implicitDefEqProofs only [push_cast, false_implies, reduceCtorEq, Classical.not_not, Nat.reduceAdd, Nat.reduceSub, Nat.reduceMul, Nat.reduceLeDiff, Nat.reduceLT, Nat.reduceEqDiff, Nat.reduceBEq, Nat.reduceBNe, Int.reduceNeg, Int.reduceToNat, Bool.or_false, Bool.false_or, Bool.or_true, Bool.true_or, BEq.rfl, Bool.not_eq_true, Bool.not_eq_false, decide_eq_true_eq, not_true_eq_false, not_false_eq_true, ite_true, ite_false, List.append_nil, and_assoc, Nat.mul_zero, Nat.zero_mul, fs64u, fs74u, allIn_iff])⟩
def ent64u : Entry := spOf fs64u inv74u
theorem e64u : EntryOk Try.prog 64 ent64u := entry_of ok64u inv74u
@[push_cast] theorem ent64u_app (us : List SV) (look : Look) (x : Nat → Xf.Loc) (k : Nat) : ent64u us look x k = spOf fs64u inv74u us look x k := rfl
structure RowM where
  L : Xf.Loc
  xs : List Int
  m : Int
def fs37 : FS where
  A := RowM
  args := fun a => [.sl 0 a.L 1 0 a.xs.length, .int .i64 a.m]
  mem := fun a => [some (.ro, a.L, .ints .i64 a.xs)]
  pre := fun a => a.xs.length ≤ 140737488355328 ∧ 0 ≤ a.m ∧ a.m ≤ 1099511627776
  res := fun a _ => .bool (decide (AllIn (-a.m) a.m a.xs))
  out := fun _ _ => []
  new := fun _ _ => []
def inv37 : List SV → Look → Option (RowM × List Nat)
  | [.sl c _ 1 0 _, .int .i64 m], look => match rowI (lkZ look (.ints .i64 []) c) with
    | some (L, .i64, xs) => some (⟨L, xs, m⟩, [c])
    | _ => none
  | _, _ => none
attribute [push_cast] inv37
theorem ok37 : FSOk Try.prog 37 fs37 := by
  refine ⟨⟨_, Try.func37, by kernel_rfl, by kernel_rfl⟩, fun a => ⟨by simp [fs37, push_cast, noMine, argOwn, Chunk.frArg], by simp [fs37, push_cast, outOk, Chunk.ext], fun x => .inl (by simp [fs37, push_cast, frNew, frOut, Chunk.fr])⟩, fun a hp => ?_⟩
  obtain ⟨L, xs, m⟩ := a
  obtain ⟨h1, h2, h3⟩ : xs.length ≤ 140737488355328 ∧ 0 ≤ m ∧ m ≤ 1099511627776 := hp
  change Tri Try.prog 37 [.sl 0 L 1 0 xs.length, .int .i64 m] [some (.ro, L, .ints .i64 xs)] (postF fs37 ⟨L, xs, m⟩)
  refine tri_evS (hyp (l := [(64, ent64u)]) (lp := []) ⟨e64u, trivial⟩ trivial) Try.func37 comp37 (rs := [.tmp 4]) (by rfl) Try.ntmps37 14 ?_
  simp -implicitDefEqProofs only [push_cast, false_implies, reduceCtorEq, Classical.not_not, Nat.reduceAdd, Nat.reduceSub, Nat.reduceMul, Nat.reduceLeDiff, Nat.reduceLT, Nat.reduceEqDiff, Nat.reduceBEq, Nat.reduceBNe, Int.reduceNeg, Int.reduceToNat, Bool.or_false, Bool.false_or, Bool.or_true, Bool.true_or, BEq.rfl, Bool.not_eq_true, Bool.not_eq_false, decide_eq_true_eq, not_true_eq_false, not_false_eq_true, ite_true, ite_false, List.append_nil, and_assoc, Nat.mul_zero, Nat.zero_mul, ir37, fs64u, fs74u, h1, h2, h3]
  exact fun X => postF.mk' (fun _ => default) [some 0] (by simp -implicitDefEqProofs only [push_cast, false_implies, reduceCtorEq, Classical.not_not, Nat.reduceAdd, Nat.reduceSub, Nat.reduceMul, Nat.reduceLeDiff, Nat.reduceLT, Nat.reduceEqDiff, Nat.reduceBEq, Nat.reduceBNe, Int.reduceNeg, Int.reduceToNat, Bool.or_false, Bool.false_or, Bool.or_true, Bool.true_or, BEq.rfl, Bool.not_eq_true, Bool.not_eq_false, decide_eq_true_eq, not_true_eq_false, not_false_eq_true, ite_true, ite_false, List.append_nil, and_assoc, Nat.mul_zero, Nat.zero_mul, fs37])
def ent37 : Entry := spOf fs37 inv37
theorem e37 : EntryOk Try.prog 37 ent37 := entry_of ok37 inv37
@[push_cast] theorem ent37_app (us : List SV) (look : Look) (x : Nat → Xf.Loc) (k : Nat) : ent37 us look x k = spOf fs37 inv37 us look x k := rfl
def ir66 : IR :=
  .seq (.reg false [⟨some 6, none, ⟨[], []⟩, .mov (.k (.int .i64 0))⟩] [6] []) (.seq (.block 0 (.seq (.reg false [⟨some 8, none, ⟨[], []⟩, .mov (.t 1)⟩,
    ⟨some 9, none, ⟨[], []⟩, .len (.t 8)⟩,
    ⟨some 10, none, ⟨[], []⟩, .bin 0 .eql (.t 9) (.k (.int .i64 0))⟩,
    ⟨some 11, none, ⟨[], []⟩, .mov (.t 10)⟩,
    ⟨some 12, some (11, false), ⟨[], []⟩, .mov (.t 0)⟩,
    ⟨some 13, some (11, false), ⟨[], []⟩, .bin 0 .eql (.t 12) (.k (.int .i64 1))⟩,
    ⟨some 14, some (11, false), ⟨[], []⟩, .mov (.t 13)⟩,
    ⟨some 15, some (14, true), ⟨[], []⟩, .mov (.t 2)⟩,
    ⟨some 16, some (14, true), ⟨[], []⟩, .mov (.t 1)⟩,
    ⟨some 17, some (14, true), ⟨[], []⟩, .len (.t 16)⟩,
    ⟨some 18, some (14, true), ⟨[], []⟩, .bin 0 .geq (.t 15) (.t 17)⟩,
    ⟨some 19, some (11, false), ⟨[], []⟩, .pick (.t 14) (.t 18) (.k (.bool false))⟩,
    ⟨some 20, none, ⟨[], []⟩, .pick (.t 11) (.k (.bool true)) (.t 19)⟩,
    ⟨some 7, none, ⟨[], []⟩, .mov (.t 20)⟩] [8, 9, 10, 11, 12, 13, 14, 15, 16, 17, 18, 19, 20] []) (.cond (.t 7) (.seq (.reg false [⟨some 6, none, ⟨[], []⟩, .mov (.k (.int .i64 0))⟩] [0, 1, 2, 7] []) (.ret)) (.seq (.reg false [⟨some 22, none, ⟨[], []⟩, .mov (.t 0)⟩,
    ⟨some 23, none, ⟨[], []⟩, .bin 0 .eql (.t 22) (.k (.int .i64 1))⟩,
    ⟨some 21, none, ⟨[], []⟩, .mov (.t 23)⟩] [0, 7, 22, 23] []) (.cond (.t 21) (.seq (.reg false [⟨some 24, none, ⟨[], []⟩, .mov (.t 1)⟩,
    ⟨some 25, none, ⟨[], []⟩, .mov (.t 2)⟩,
    ⟨some 26, none, ⟨[], []⟩, .idxS (.t 24) (.t 25) 1⟩,
    ⟨some 27, none, ⟨[], []⟩, .ld true none 0 0 (.t 26)⟩,
    ⟨some 28, none, ⟨[], []⟩, .bin 0 .shr (.t 27) (.k (.int .u64 1))⟩,
    ⟨some 6, none, ⟨[], []⟩, .mov (.t 28)⟩] [1, 2, 21, 24, 25, 26, 27, 28] []) (.ret)) (.skip)))))) (.seq (.reg true [⟨some 29, none, ⟨[], []⟩, .mov (.t 1)⟩,
    ⟨some 30, none, ⟨[], []⟩, .mov (.t 2)⟩,
    ⟨some 31, none, ⟨[], []⟩, .bin 0 .sub (.t 30) (.k (.int .i64 1))⟩,
    ⟨some 32, none, ⟨[], []⟩, .mx (.t 31) (.k (.int .i64 0))⟩,
    ⟨some 33, none, ⟨[], []⟩, .idxS (.t 29) (.t 32) 1⟩,
    ⟨some 34, none, ⟨[], []⟩, .ld true none 0 0 (.t 33)⟩,
    ⟨some 35, none, ⟨[], []⟩, .mov (.t 1)⟩,
    ⟨some 36, none, ⟨[], []⟩, .mov (.t 2)⟩,
    ⟨some 37, none, ⟨[], []⟩, .mov (.t 1)⟩,
    ⟨some 38, none, ⟨[], []⟩, .len (.t 37)⟩,
    ⟨some 39, none, ⟨[], []⟩, .bin 0 .sub (.t 38) (.k (.int .i64 1))⟩,
    ⟨some 40, none, ⟨[], []⟩, .mn (.t 36) (.t 39)⟩,
    ⟨some 41, none, ⟨[], []⟩, .idxS (.t 35) (.t 40) 1⟩,
    ⟨some 42, none, ⟨[], []⟩, .ld true none 0 0 (.t 41)⟩,
    ⟨some 43, none, ⟨[], []⟩, .bin 0 .add (.t 34) (.t 42)⟩,
    ⟨some 44, none, ⟨[], []⟩, .bin 0 .add (.t 43) (.k (.int .i64 2))⟩,
    ⟨some 45, none, ⟨[], []⟩, .bin 0 .shr (.t 44) (.k (.int .u64 2))⟩,
    ⟨some 6, none, ⟨[], []⟩, .mov (.t 45)⟩] [1, 2, 21, 29, 30, 31, 32, 33, 34, 35, 36, 37, 38, 39, 40, 41, 42, 43, 44, 45] []) (.ret)))
set_option maxRecDepth 4000 in
theorem comp66 : (Try.f66.body.bind fun c => compC tab isP chkAll ir66 c) = some ir66 := by kernel_rfl
def b38_1 : IR :=
  .seq (.reg false [⟨some 22, none, ⟨[], []⟩, .bin 0 .lss (.t 21) (.t 20)⟩] [] []) (.seq (.cond (.t 22) (.skip) (.exit 0)) (.seq (.block 1 (.seq (.reg false [⟨some 23, none, ⟨[], []⟩, .mov (.t 21)⟩,
    ⟨some 8, none, ⟨[], []⟩, .mov (.t 23)⟩] [22, 23] []) (.seq (.reg true [⟨some 24, none, ⟨[], []⟩, .mov (.t 7)⟩,
    ⟨some 25, none, ⟨[], []⟩, .mov (.t 8)⟩,
    ⟨some 26, none, ⟨[], []⟩, .mov (.t 1)⟩,
    ⟨some 27, none, ⟨[], []⟩, .mov (.t 8)⟩,
    ⟨some 28, none, ⟨[], []⟩, .bin 0 .mul (.k (.int .i64 2)) (.t 27)⟩,
    ⟨some 29, none, ⟨[], []⟩, .bin 0 .add (.t 28) (.k (.int .i64 1))⟩,
    ⟨some 30, none, ⟨[], []⟩, .idxS (.t 26) (.t 29) 1⟩,
    ⟨some 31, none, ⟨[], []⟩, .ld true none 0 0 (.t 30)⟩,
    ⟨some 32, none, ⟨[], []⟩, .mov (.t 1)⟩,
    ⟨some 33, none, ⟨[], []⟩, .mov (.t 8)⟩,
    ⟨some 34, none, ⟨[], []⟩, .bin 0 .mul (.k (.int .i64 2)) (.t 33)⟩,
    ⟨some 35, none, ⟨[], []⟩, .idxS (.t 32) (.t 34) 1⟩,
    ⟨some 36, none, ⟨[], []⟩, .ld true none 0 0 (.t 35)⟩,
    ⟨some 37, none, ⟨[], []⟩, .bin 0 .sub (.t 31) (.t 36)⟩,
    ⟨some 38, none, ⟨[], []⟩, .idxS (.t 24) (.t 25) 1⟩,
    ⟨none, none, ⟨[], []⟩, .sto true 1 .i64 (.t 38) (.t 37)⟩] [24, 25, 26, 27, 28, 29, 30, 31, 32, 33, 34, 35, 36, 37, 38] []) (.seq (.reg false [⟨some 39, none, ⟨[], []⟩, .mov (.t 0)⟩,
    ⟨some 40, none, ⟨[], []⟩, .bin 0 .eql (.t 39) (.k (.int .i64 0))⟩] [39] []) (.cond (.t 40) (.seq (.reg false [⟨some 41, none, ⟨[], []⟩, .mov (.t 1)⟩,
    ⟨some 42, none, ⟨[], []⟩, .mov (.t 8)⟩,
    ⟨some 43, none, ⟨[], []⟩, .bin 0 .mul (.k (.int .i64 2)) (.t 42)⟩,
    ⟨some 44, none, ⟨[], []⟩, .idxS (.t 41) (.t 43) 1⟩,
    ⟨some 45, none, ⟨[], []⟩, .ld true none 0 0 (.t 44)⟩,
    ⟨some 9, none, ⟨[], []⟩, .mov (.t 45)⟩] [40, 41, 42, 43, 44, 45] []) (.seq (.seq (.reg false [⟨some 46, none, ⟨[], []⟩, .mov (.t 8)⟩,
    ⟨some 47, none, ⟨[], []⟩, .bin 0 .mul (.k (.int .i64 2)) (.t 46)⟩,
    ⟨some 48, none, ⟨[], []⟩, .bin 0 .add (.t 47) (.k (.int .i64 2))⟩,
    ⟨some 49, none, ⟨[], []⟩, .mov (.t 5)⟩,
    ⟨some 50, none, ⟨[], []⟩, .bin 0 .lss (.t 48) (.t 49)⟩] [46, 47, 48, 49] []) (.cond (.t 50) (.reg false [⟨some 51, none, ⟨[], []⟩, .mov (.t 1)⟩,
    ⟨some 52, none, ⟨[], []⟩, .mov (.t 8)⟩,
    ⟨some 53, none, ⟨[], []⟩, .bin 0 .mul (.k (.int .i64 2)) (.t 52)⟩,
    ⟨some 54, none, ⟨[], []⟩, .bin 0 .add (.t 53) (.k (.int .i64 2))⟩,
    ⟨some 55, none, ⟨[], []⟩, .idxS (.t 51) (.t 54) 1⟩,
    ⟨some 56, none, ⟨[], []⟩, .ld true none 0 0 (.t 55)⟩,
    ⟨some 9, none, ⟨[], []⟩, .mov (.t 56)⟩] [50, 51, 52, 53, 54, 55, 56] []) (.skip))) (.reg true [⟨some 57, none, ⟨[], []⟩, .mov (.t 7)⟩,
    ⟨some 58, none, ⟨[], []⟩, .mov (.t 8)⟩,
    ⟨some 59, none, ⟨[], []⟩, .mov (.t 1)⟩,
    ⟨some 60, none, ⟨[], []⟩, .mov (.t 8)⟩,
    ⟨some 61, none, ⟨[], []⟩, .bin 0 .mul (.k (.int .i64 2)) (.t 60)⟩,
    ⟨some 62, none, ⟨[], []⟩, .bin 0 .add (.t 61) (.k (.int .i64 1))⟩,
    ⟨some 63, none, ⟨[], []⟩, .idxS (.t 59) (.t 62) 1⟩,
    ⟨some 64, none, ⟨[], []⟩, .ld true none 0 0 (.t 63)⟩,
    ⟨some 65, none, ⟨[], []⟩, .mov (.t 1)⟩,
    ⟨some 66, none, ⟨[], []⟩, .mov (.t 8)⟩,
    ⟨some 67, none, ⟨[], []⟩, .bin 0 .mul (.k (.int .i64 2)) (.t 66)⟩,
    ⟨some 68, none, ⟨[], []⟩, .idxS (.t 65) (.t 67) 1⟩,
    ⟨some 69, none, ⟨[], []⟩, .ld true none 0 0 (.t 68)⟩,
    ⟨some 70, none, ⟨[], []⟩, .mov (.t 9)⟩,
    ⟨some 71, none, ⟨[], []⟩, .bin 0 .add (.t 69) (.t 70)⟩,
    ⟨some 72, none, ⟨[], []⟩, .bin 0 .shr (.t 71) (.k (.int .u64 1))⟩,
    ⟨some 73, none, ⟨[], []⟩, .bin 0 .sub (.t 64) (.t 72)⟩,
    ⟨some 74, none, ⟨[], []⟩, .idxS (.t 57) (.t 58) 1⟩,
    ⟨none, none, ⟨[], []⟩, .sto true 1 .i64 (.t 74) (.t 73)⟩] [8, 9, 50, 57, 58, 59, 60, 61, 62, 63, 64, 65, 66, 67, 68, 69, 70, 71, 72, 73, 74] []))) (.skip)))))) (.reg false [⟨some 75, none, ⟨[], []⟩, .bin 0 .add (.t 21) (.k (.int .i64 1))⟩,
    ⟨some 21, none, ⟨[], []⟩, .mov (.t 75)⟩] [8, 40, 75] [])))
def b38_2 : IR :=
  .seq (.reg false [⟨some 82, none, ⟨[], []⟩, .bin 0 .lss (.t 81) (.t 80)⟩] [] []) (.seq (.cond (.t 82) (.skip) (.exit 2)) (.seq (.block 3 (.seq (.reg false [⟨some 83, none, ⟨[], []⟩, .mov (.t 81)⟩,
    ⟨some 11, none, ⟨[], []⟩, .mov (.t 83)⟩] [82, 83] []) (.reg true [⟨some 84, none, ⟨[], []⟩, .mov (.t 10)⟩,
    ⟨some 85, none, ⟨[], []⟩, .mov (.t 1)⟩,
    ⟨some 86, none, ⟨[], []⟩, .mov (.t 11)⟩,
    ⟨some 87, none, ⟨[], []⟩, .bin 0 .mul (.k (.int .i64 2)) (.t 86)⟩,
    ⟨some 88, none, ⟨[], []⟩, .idxS (.t 85) (.t 87) 1⟩,
    ⟨some 89, none, ⟨[12, 13, 14, 15], []⟩, .ld true none 0 0 (.t 88)⟩,
    ⟨some 90, none, ⟨[], []⟩, .mov (.t 0)⟩,
    ⟨some 91, none, ⟨[], []⟩, .mov (.t 7)⟩,
    ⟨some 92, none, ⟨[], []⟩, .mov (.t 11)⟩,
    ⟨some 93, none, ⟨[], []⟩, .call (some 4) 12 66 [.t 90, .t 91, .t 92]⟩,
    ⟨some 94, none, ⟨[], []⟩, .bin 0 .add (.t 89) (.t 93)⟩,
    ⟨some 95, none, ⟨[], []⟩, .bslice 16 [.t 94]⟩,
    ⟨some 96, none, ⟨[], []⟩, .app 17 1 8 (.t 84) (.t 95)⟩,
    ⟨some 10, none, ⟨[], []⟩, .mov (.t 96)⟩] [11, 84, 85, 86, 87, 88, 89, 90, 91, 92, 93, 94, 95, 96] []))) (.reg false [⟨some 97, none, ⟨[], []⟩, .bin 0 .add (.t 81) (.k (.int .i64 1))⟩,
    ⟨some 81, none, ⟨[], []⟩, .mov (.t 97)⟩] [97] [])))
def r38_3 : IR :=
  .seq (.reg false [⟨some 98, none, ⟨[], []⟩, .mov (.t 10)⟩,
    ⟨some 99, none, ⟨[], []⟩, .mov (.t 7)⟩,
    ⟨some 100, none, ⟨[], []⟩, .app 18 1 8 (.t 98) (.t 99)⟩,
    ⟨some 4, none, ⟨[], []⟩, .mov (.t 100)⟩] [0, 1, 7, 10, 80, 81, 98, 99, 100] []) (.ret)
def r38_4 : IR :=
  .seq (.reg false [⟨some 76, none, ⟨[], []⟩, .mov (.t 5)⟩,
    ⟨some 77, none, ⟨[], []⟩, .mks 11 (.int .i64 0) 8 (.k (.int .i64 0)) (.t 76)⟩,
    ⟨some 10, none, ⟨[], []⟩, .mov (.t 77)⟩] [20, 21, 76, 77] []) (.seq (.seq (.reg false [⟨some 78, none, ⟨[], []⟩, .mov (.t 5)⟩,
    ⟨some 79, none, ⟨[], []⟩, .mov (.t 6)⟩,
    ⟨some 80, none, ⟨[], []⟩, .bin 0 .sub (.t 78) (.t 79)⟩,
    ⟨some 81, none, ⟨[], []⟩, .mov (.k (.int .i64 0))⟩] [5, 6, 78, 79] []) (.block 2 (.loop b38_2))) (r38_3))
def ir38 : IR :=
  .seq (.reg false [⟨some 4, none, ⟨[], []⟩, .mov (.k nilSV)⟩] [4] []) (.seq (.reg false [⟨some 12, none, ⟨[], []⟩, .mov (.t 1)⟩,
    ⟨some 13, none, ⟨[], []⟩, .len (.t 12)⟩,
    ⟨some 14, none, ⟨[], []⟩, .mov (.t 1)⟩,
    ⟨some 15, none, ⟨[], []⟩, .len (.t 14)⟩,
    ⟨some 16, none, ⟨[], []⟩, .bin 0 .quo (.t 15) (.k (.int .i64 2))⟩,
    ⟨some 5, none, ⟨[], []⟩, .mov (.t 13)⟩,
    ⟨some 6, none, ⟨[], []⟩, .mov (.t 16)⟩] [12, 13, 14, 15, 16] []) (.seq (.reg false [⟨some 17, none, ⟨[], []⟩, .mov (.t 6)⟩,
    ⟨some 18, none, ⟨[], []⟩, .mks 10 (.int .i64 0) 8 (.t 17) (.t 17)⟩,
    ⟨some 7, none, ⟨[], []⟩, .mov (.t 18)⟩] [17, 18] []) (.seq (.seq (.reg false [⟨some 19, none, ⟨[], []⟩, .mov (.t 7)⟩,
    ⟨some 20, none, ⟨[], []⟩, .len (.t 19)⟩,
    ⟨some 21, none, ⟨[], []⟩, .mov (.k (.int .i64 0))⟩] [19] []) (.block 0 (.loop b38_1))) (r38_4))))
def kp38_1 : List Nat := [0, 1, 5, 6, 7, 20, 21]
def kl38_1 : List Nat := []
attribute [push_cast] kp38_1 kl38_1
def kp38_2 : List Nat := [0, 1, 7, 10, 80, 81]
def kl38_2 : List Nat := [12, 13, 14, 15, 16, 17]
attribute [push_cast] kp38_2 kl38_2
set_option maxRecDepth 4000 in
theorem comp38 : (Try.f38.body.bind fun c => compC tab isP chkAll ir38 c) = some ir38 := by kernel_rfl
def liftG (kind : Int) (g : Int → Int) (n i : Int) : Int :=
  if n = 0 ∨ kind = 1 ∧ n ≤ i then 0 else if kind = 1 then g i / 2 else (g (max (i - 1) 0) + g (min i (n - 1)) + 2) / 4
structure LiftA where
  kind : Int
  L : Xf.Loc
  xs : List Int
  lo : Int
  n : Int
  i : Int
def fs66 : FS where
  A := LiftA
  args := fun a => [.int .i64 a.kind, .sl 0 a.L 1 a.lo a.n, .int .i64 a.i]
  mem := fun a => [some (.ro, a.L, .ints .i64 a.xs)]
  pre := fun a => a.xs.length ≤ 140737488355328 ∧ 0 ≤ a.lo ∧ 0 ≤ a.n ∧ a.lo + a.n ≤ a.xs.length ∧ 0 ≤ a.i ∧ a.i ≤ a.n ∧ AllIn (-4503599627370496) 4503599627370496 a.xs
  res := fun a _ => .int .i64 (liftG a.kind (fun j => rd a.xs (a.lo + j)) a.n a.i)
  out := fun _ _ => []
  new := fun _ _ => []
def inv66 : List SV → Look → Option (LiftA × List Nat)
  | [.int .i64 k, .sl c _ 1 lo n, .int .i64 i], look => match rowI (lkZ look (.ints .i64 []) c) with
    | some (L, .i64, xs) => some (⟨k, L, xs, lo, n, i⟩, [c])
    | _ => none
  | _, _ => none
attribute [push_cast] inv66
theorem ok66 : FSOk Try.prog 66 fs66 := by
  refine ⟨⟨_, Try.func66, by kernel_rfl, by kernel_rfl⟩, fun a => ⟨by simp [fs66, push_cast, noMine, argOwn, Chunk.frArg], by simp [fs66, push_cast, outOk, Chunk.ext], fun x => .inl (by simp [fs66, push_cast, frNew, frOut, Chunk.fr])⟩, fun a hp => ?_⟩
  obtain ⟨kind, L, xs, lo, n, i⟩ := a
  obtain ⟨h1, h2, h3, h4, h5, h6, h7⟩ : xs.length ≤ 140737488355328 ∧ 0 ≤ lo ∧ 0 ≤ n ∧ lo + n ≤ xs.length ∧ 0 ≤ i ∧ i ≤ n ∧ AllIn (-4503599627370496) 4503599627370496 xs := hp
  change Tri Try.prog 66 [.int .i64 kind, .sl 0 L 1 lo n, .int .i64 i] [some (.ro, L, .ints .i64 xs)] (postF fs66 ⟨kind, L, xs, lo, n, i⟩)
  have b1 := rd_bd h7 (by omega) (by omega) (lo + i)
  have b2 := rd_bd h7 (by omega) (by omega) (lo + max (i - 1) 0)
  have b3 := rd_bd h7 (by omega) (by omega) (lo + min i (n - 1))
  refine tri_evS (hyp (l := []) (lp := []) trivial trivial) Try.func66 comp66 (rs := [.tmp 6]) (by rfl) Try.ntmps66 10 ?_
  simp -implicitDefEqProofs only [push_cast, false_implies, reduceCtorEq, Classical.not_not, Nat.reduceAdd, Nat.reduceSub, Nat.reduceMul, Nat.reduceLeDiff, Nat.reduceLT, Nat.reduceEqDiff, Nat.reduceBEq, Nat.reduceBNe, Int.reduceNeg, Int.reduceToNat, Bool.or_false, Bool.false_or, Bool.or_true, Bool.true_or, BEq.rfl, Bool.not_eq_true, Bool.not_eq_false, decide_eq_true_eq, not_true_eq_false, not_false_eq_true, ite_true, ite_false, List.append_nil, and_assoc, Nat.mul_zero, Nat.zero_mul, ir66]
  have e1 : (2 : Int) ^ 1 = 2 := rfl
  have e2 : (2 : Int) ^ 2 = 4 := rfl
  refine ⟨fun H => ⟨H.1, H.2, H⟩, fun H => ⟨H, fun q => ⟨H, q⟩⟩, fun h => ?_, fun h => ⟨fun hk => ?_, fun hk => ?_⟩⟩
  · refine postF.mk' (fun _ => default) [some 0] ?_
    simp -implicitDefEqProofs only [push_cast, false_implies, reduceCtorEq, Classical.not_not, Nat.reduceAdd, Nat.reduceSub, Nat.reduceMul, Nat.reduceLeDiff, Nat.reduceLT, Nat.reduceEqDiff, Nat.reduceBEq, Nat.reduceBNe, Int.reduceNeg, Int.reduceToNat, Bool.or_false, Bool.false_or, Bool.or_true, Bool.true_or, BEq.rfl, Bool.not_eq_true, Bool.not_eq_false, decide_eq_true_eq, not_true_eq_false, not_false_eq_true, ite_true, ite_false, List.append_nil, and_assoc, Nat.mul_zero, Nat.zero_mul, fs66, liftG, h, if_true]
  · repeat (refine And.intro (by first | omega | trivial | (intros; omega)) ?_)
    refine postF.mk' (fun _ => default) [some 0] ?_
    simp -implicitDefEqProofs only [push_cast, false_implies, reduceCtorEq, Classical.not_not, Nat.reduceAdd, Nat.reduceSub, Nat.reduceMul, Nat.reduceLeDiff, Nat.reduceLT, Nat.reduceEqDiff, Nat.reduceBEq, Nat.reduceBNe, Int.reduceNeg, Int.reduceToNat, Bool.or_false, Bool.false_or, Bool.or_true, Bool.true_or, BEq.rfl, Bool.not_eq_true, Bool.not_eq_false, decide_eq_true_eq, not_true_eq_false, not_false_eq_true, ite_true, ite_false, List.append_nil, and_assoc, Nat.mul_zero, Nat.zero_mul, fs66, liftG, h, if_false, hk, if_true, e1]
    rw [if_neg (by omega)]
  · repeat (refine And.intro (by first | omega | trivial | (intros; omega)) ?_)
    refine postF.mk' (fun _ => default) [some 0] ?_
    simp -implicitDefEqProofs only [push_cast, false_implies, reduceCtorEq, Classical.not_not, Nat.reduceAdd, Nat.reduceSub, Nat.reduceMul, Nat.reduceLeDiff, Nat.reduceLT, Nat.reduceEqDiff, Nat.reduceBEq, Nat.reduceBNe, Int.reduceNeg, Int.reduceToNat, Bool.or_false, Bool.false_or, Bool.or_true, Bool.true_or, BEq.rfl, Bool.not_eq_true, Bool.not_eq_false, decide_eq_true_eq, not_true_eq_false, not_false_eq_true, ite_true, ite_false, List.append_nil, and_assoc, Nat.mul_zero, Nat.zero_mul, fs66, e2]
    unfold liftG
    rw [if_neg h, if_neg hk]
def ent66 : Entry := spOf fs66 inv66
theorem e66 : EntryOk Try.prog 66 ent66 := entry_of ok66 inv66
@[push_cast] theorem ent66_app (us : List SV) (look : Look) (x : Nat → Xf.Loc) (k : Nat) : ent66 us look x k = spOf fs66 inv66 us look x k := rfl
structure NearA where
  L : Xf.Loc
  xs : List Int
  lo : Int
  n : Int
  i : Int
def nxt (n : Int) (f : Int → Int) (i : Int) : Int := if 2 * i + 2 < n then f (2 * i + 2) else f (2 * i)
def hiF (kind : Int) (n : Nat) (f : Int → Int) (i : Nat) : Int := if kind = 1 then f (2 * i + 1) - f (2 * i) else f (2 * i + 1) - (f (2 * i) + nxt n f i) / 2
def hiL (kind : Int) (n : Nat) (f : Int → Int) : List Int := tabl (n / 2) (hiF kind n f)
def loF (kind : Int) (n : Nat) (f : Int → Int) (i : Nat) : Int := f (2 * i) + liftG kind (fun j => rd (hiL kind n f) j) (n / 2 : Nat) i
def lineL (kind : Int) (n : Nat) (f : Int → Int) : List Int := tabl (n - n / 2) (loF kind n f) ++ hiL kind n f
theorem lineL_length (kind : Int) (n : Nat) (f : Int → Int) : (lineL kind n f).length = n := by simp [lineL, hiL, tabl_length]; omega
def BdF (B : Int) (f : Int → Int) : Prop := ∀ j, -B ≤ f j ∧ f j ≤ B
theorem hiF_bd {kind : Int} {n : Nat} {f : Int → Int} {B : Int} (h : BdF B f) (i : Nat) : -(2 * B) ≤ hiF kind n f i ∧ hiF kind n f i ≤ 2 * B := by
  have h1 := h (2 * i)
  have h2 := h (2 * i + 1)
  have h3 := h (2 * i + 2)
  unfold hiF nxt
  split
  · omega
  · split <;> omega
theorem hiL_bd {kind : Int} {n : Nat} {f : Int → Int} {B : Int} (h : BdF B f) : AllIn (-(2 * B)) (2 * B) (hiL kind n f) := by
  rw [allIn_rd]
  intro j hj
  unfold hiL at hj ⊢
  rw [tabl_length] at hj
  rw [rd_tabl hj]
  exact hiF_bd h j
theorem liftG_bd {kind : Int} {g : Int → Int} {B : Int} (h : BdF B g) (h0 : 0 ≤ B) (n i : Int) : -(B + 1) ≤ liftG kind g n i ∧ liftG kind g n i ≤ B + 1 := by
  have h1 := h i
  have h2 := h (max (i - 1) 0)
  have h3 := h (min i (n - 1))
  unfold liftG
  split
  · omega
  · split <;> omega
theorem BdF.rd {xs : List Int} {B : Int} (h : AllIn (-B) B xs) (h0 : 0 ≤ B) (lo : Int) : BdF B (fun j => rd xs (lo + j)) := fun j => rd_bd h (by omega) h0 _
theorem BdF.rd0 {xs : List Int} {B : Int} (h : AllIn (-B) B xs) (h0 : 0 ≤ B) : BdF B (fun j => Xf.rd xs j) := fun j => rd_bd h (by omega) h0 _
structure LineA where
  kind : Int
  L : Xf.Loc
  xs : List Int
  lo : Int
  n : Nat
def fs38 : FS where
  A := LineA
  args := fun a => [.int .i64 a.kind, .sl 0 a.L 1 a.lo a.n]
  mem := fun a => [some (.ro, a.L, .ints .i64 a.xs)]
  pre := fun a => (a.kind = 0 ∨ a.kind = 1) ∧ a.xs.length ≤ 140737488355328 ∧ 0 ≤ a.lo ∧ a.lo + a.n ≤ a.xs.length ∧ a.n ≤ 1000000 ∧ AllIn (-1073741824) 1073741824 a.xs
  res := fun a x => .sl 1 (x 0) 1 0 a.n
  out := fun _ _ => []
  new := fun a x => [(x 0, .ints .i64 (lineL a.kind a.n (fun j => rd a.xs (a.lo + j))))]
def inv38 : List SV → Look → Option (LineA × List Nat)
  | [.int .i64 k, .sl c _ 1 lo n], look => match rowI (lkZ look (.ints .i64 []) c) with
    | some (L, .i64, xs) => some (⟨k, L, xs, lo, n.toNat⟩, [c])
    | _ => none
  | _, _ => none
attribute [push_cast] inv38
theorem ok38 : FSOk Try.prog 38 fs38 := by
  refine ⟨⟨_, Try.func38, by kernel_rfl, by kernel_rfl⟩, fun a => ⟨by simp [fs38, push_cast, noMine, argOwn, Chunk.frArg], by simp [fs38, push_cast, outOk, Chunk.ext], fun x => .inl (by simp [fs38, push_cast, frNew, frOut, Chunk.fr])⟩, fun a hp => ?_⟩
  obtain ⟨kind, L, xs, lo, n⟩ := a
  obtain ⟨hk, h1, h2, h3, h4, h5⟩ : (kind = 0 ∨ kind = 1) ∧ xs.length ≤ 140737488355328 ∧ 0 ≤ lo ∧ lo + n ≤ xs.length ∧ n ≤ 1000000 ∧ AllIn (-1073741824) 1073741824 xs := hp
  change Tri Try.prog 38 [.int .i64 kind, .sl 0 L 1 lo n] [some (.ro, L, .ints .i64 xs)] (postF fs38 ⟨kind, L, xs, lo, n⟩)
  obtain ⟨f, hf⟩ : ∃ f : Int → Int, (fun j => rd xs (lo + j)) = f := ⟨_, rfl⟩
  have hfj : ∀ j, rd xs (lo + j) = f j := fun j => by rw [← hf]
  have hB : BdF 1073741824 f := by rw [← hf]; exact BdF.rd h5 (by omega) lo
  obtain ⟨m, hm⟩ : ∃ m, n / 2 = m := ⟨_, rfl⟩
  have en : ((n : Int) / 2) = (m : Int) := by omega
  refine tri_evS (hyp (l := [(66, ent66)]) (lp := []) ⟨e66, trivial⟩ trivial) Try.func38 comp38 (rs := [.tmp 4]) (by rfl) Try.ntmps38 19 ?_
  simp -implicitDefEqProofs only [push_cast, false_implies, reduceCtorEq, Classical.not_not, Nat.reduceAdd, Nat.reduceSub, Nat.reduceMul, Nat.reduceLeDiff, Nat.reduceLT, Nat.reduceEqDiff, Nat.reduceBEq, Nat.reduceBNe, Int.reduceNeg, Int.reduceToNat, Bool.or_false, Bool.false_or, Bool.or_true, Bool.true_or, BEq.rfl, Bool.not_eq_true, Bool.not_eq_false, decide_eq_true_eq, not_true_eq_false, not_false_eq_true, ite_true, ite_false, List.append_nil, and_assoc, Nat.mul_zero, Nat.zero_mul, ir38]
  rw [en]
  repeat (refine And.intro (by first | omega | trivial | (intros; omega)) ?_)
  intro X
  repeat (refine And.intro (by first | omega | trivial | (intros; omega)) ?_)
  have ez : (m : Int).toNat = m := Int.toNat_natCast _
  refine evS_loopU (A := Nat) kp38_1 kl38_1 (fun i => [(21, .int .i64 i)]) (fun i => [(10, .mine, X 1 10, .ints .i64 (prt m i (hiF kind n f)))]) (fun i => i ≤ m) (fun i => m - i) 0 (by omega) (Sub.pt ?_) ?_
  · simp -implicitDefEqProofs only [push_cast, false_implies, reduceCtorEq, Classical.not_not, Nat.reduceAdd, Nat.reduceSub, Nat.reduceMul, Nat.reduceLeDiff, Nat.reduceLT, Nat.reduceEqDiff, Nat.reduceBEq, Nat.reduceBNe, Int.reduceNeg, Int.reduceToNat, Bool.or_false, Bool.false_or, Bool.or_true, Bool.true_or, BEq.rfl, Bool.not_eq_true, Bool.not_eq_false, decide_eq_true_eq, not_true_eq_false, not_false_eq_true, ite_true, ite_false, List.append_nil, and_assoc, Nat.mul_zero, Nat.zero_mul, prt_zero, ez]
  intro i (hi : i ≤ m) K hK
  simp -implicitDefEqProofs only [push_cast, false_implies, reduceCtorEq, Classical.not_not, Nat.reduceAdd, Nat.reduceSub, Nat.reduceMul, Nat.reduceLeDiff, Nat.reduceLT, Nat.reduceEqDiff, Nat.reduceBEq, Nat.reduceBNe, Int.reduceNeg, Int.reduceToNat, Bool.or_false, Bool.false_or, Bool.or_true, Bool.true_or, BEq.rfl, Bool.not_eq_true, Bool.not_eq_false, decide_eq_true_eq, not_true_eq_false, not_false_eq_true, ite_true, ite_false, List.append_nil, and_assoc, Nat.mul_zero, Nat.zero_mul, b38_1, r38_4]
  refine ⟨fun hl => ?_, fun hl => ?_⟩
  · have hi' : i < m := by omega
    have lP := prt_length hi (hiF kind n f)
    have q : (prt m i (hiF kind n f)).set i (hiF kind n f i) = prt m (i + 1) (hiF kind n f) := prt_set hi' _
    have b0 := hB (2 * i)
    have b1 := hB (2 * i + 1)
    have b2 := hB (2 * i + 2)
    have e2 : (2 : Int) ^ 1 = 2 := rfl
    simp only [hfj, List.length_set, e2]
    repeat (refine And.intro (by first | omega | trivial | (intros; omega)) ?_)
    refine ⟨fun hk0 => ?_, fun hk0 => ?_⟩
    · repeat (refine And.intro (by first | omega | trivial | (intros; omega)) ?_)
      refine ⟨fun hr => ?_, fun hr => ?_⟩
      · repeat (refine And.intro (by first | omega | trivial | (intros; omega)) ?_)
        refine hK (i + 1) (by omega) (by omega) _ _ (Sub.pt ?_)
        have e : f (2 * i + 1) - (f (2 * i) + f (2 * i + 2)) / 2 = hiF kind n f i := by simp [hiF, nxt, hk0, hr]
        simp -implicitDefEqProofs only [push_cast, false_implies, reduceCtorEq, Classical.not_not, Nat.reduceAdd, Nat.reduceSub, Nat.reduceMul, Nat.reduceLeDiff, Nat.reduceLT, Nat.reduceEqDiff, Nat.reduceBEq, Nat.reduceBNe, Int.reduceNeg, Int.reduceToNat, Bool.or_false, Bool.false_or, Bool.or_true, Bool.true_or, BEq.rfl, Bool.not_eq_true, Bool.not_eq_false, decide_eq_true_eq, not_true_eq_false, not_false_eq_true, ite_true, ite_false, List.append_nil, and_assoc, Nat.mul_zero, Nat.zero_mul, Int.toNat_natCast, List.set_set, e, q]
      · repeat (refine And.intro (by first | omega | trivial | (intros; omega)) ?_)
        refine hK (i + 1) (by omega) (by omega) _ _ (Sub.pt ?_)
        have e : f (2 * i + 1) - (f (2 * i) + f (2 * i)) / 2 = hiF kind n f i := by simp [hiF, nxt, hk0, hr]
        simp -implicitDefEqProofs only [push_cast, false_implies, reduceCtorEq, Classical.not_not, Nat.reduceAdd, Nat.reduceSub, Nat.reduceMul, Nat.reduceLeDiff, Nat.reduceLT, Nat.reduceEqDiff, Nat.reduceBEq, Nat.reduceBNe, Int.reduceNeg, Int.reduceToNat, Bool.or_false, Bool.false_or, Bool.or_true, Bool.true_or, BEq.rfl, Bool.not_eq_true, Bool.not_eq_false, decide_eq_true_eq, not_true_eq_false, not_false_eq_true, ite_true, ite_false, List.append_nil, and_assoc, Nat.mul_zero, Nat.zero_mul, Int.toNat_natCast, List.set_set, e, q]
    · repeat (refine And.intro (by first | omega | trivial | (intros; omega)) ?_)
      refine hK (i + 1) (by omega) (by omega) _ _ (Sub.pt ?_)
      have e : f (2 * i + 1) - f (2 * i) = hiF kind n f i := by simp [hiF, hk.resolve_left hk0]
      simp -implicitDefEqProofs only [push_cast, false_implies, reduceCtorEq, Classical.not_not, Nat.reduceAdd, Nat.reduceSub, Nat.reduceMul, Nat.reduceLeDiff, Nat.reduceLT, Nat.reduceEqDiff, Nat.reduceBEq, Nat.reduceBNe, Int.reduceNeg, Int.reduceToNat, Bool.or_false, Bool.false_or, Bool.or_true, Bool.true_or, BEq.rfl, Bool.not_eq_true, Bool.not_eq_false, decide_eq_true_eq, not_true_eq_false, not_false_eq_true, ite_true, ite_false, List.append_nil, and_assoc, Nat.mul_zero, Nat.zero_mul, Int.toNat_natCast, e, q]
  · obtain rfl : i = m := by omega
    rw [prt_all]
    have hh : tabl i (hiF kind n f) = hiL kind n f := by unfold hiL; rw [hm]
    rw [hh]
    have hHB := hiL_bd (kind := kind) (n := n) hB
    have hHl : (hiL kind n f).length = i := by unfold hiL; rw [tabl_length, hm]
    have hAl : AllIn (-4503599627370496) 4503599627370496 (hiL kind n f) := fun q hq => by have := hHB q hq; omega
    have hLB := fun j => liftG_bd (kind := kind) (BdF.rd0 (B := 2147483648) (fun q hq => by have := hHB q hq; omega : AllIn (-2147483648) 2147483648 (hiL kind n f)) (by omega)) (by omega) i j
    intro X1
    repeat (refine And.intro (by first | omega | trivial | (intros; omega)) ?_)
    refine evS_loopU (A := Nat × Xf.Loc) kp38_2 (11 :: kl38_2) (fun y => [(10, .sl 17 y.2 1 0 y.1), (81, .int .i64 y.1)]) (fun y => [(17, .mine, y.2, .ints .i64 (tabl y.1 (loF kind n f)))]) (fun y => y.1 ≤ n - i) (fun y => n - i - y.1) (0, X1 1 11) (Nat.zero_le _) (Sub.of (mkG 20 [(0, 0), (10, 10), (17, 11)]) ?_) ?_
    · simp -implicitDefEqProofs only [push_cast, false_implies, reduceCtorEq, Classical.not_not, Nat.reduceAdd, Nat.reduceSub, Nat.reduceMul, Nat.reduceLeDiff, Nat.reduceLT, Nat.reduceEqDiff, Nat.reduceBEq, Nat.reduceBNe, Int.reduceNeg, Int.reduceToNat, Bool.or_false, Bool.false_or, Bool.or_true, Bool.true_or, BEq.rfl, Bool.not_eq_true, Bool.not_eq_false, decide_eq_true_eq, not_true_eq_false, not_false_eq_true, ite_true, ite_false, List.append_nil, and_assoc, Nat.mul_zero, Nat.zero_mul, tabl_zero]
    intro ⟨j, N⟩ (hj : j ≤ n - i) K hK
    simp -implicitDefEqProofs only [push_cast, false_implies, reduceCtorEq, Classical.not_not, Nat.reduceAdd, Nat.reduceSub, Nat.reduceMul, Nat.reduceLeDiff, Nat.reduceLT, Nat.reduceEqDiff, Nat.reduceBEq, Nat.reduceBNe, Int.reduceNeg, Int.reduceToNat, Bool.or_false, Bool.false_or, Bool.or_true, Bool.true_or, BEq.rfl, Bool.not_eq_true, Bool.not_eq_false, decide_eq_true_eq, not_true_eq_false, not_false_eq_true, ite_true, ite_false, List.append_nil, and_assoc, Nat.mul_zero, Nat.zero_mul, b38_2, r38_3, fs66]
    refine ⟨fun hl => ?_, fun hl => ?_⟩
    · have b0 := hB (2 * j)
      have b3 := hLB j
      simp only [hfj, tabl_length, hHl]
      intro X2
      repeat (refine And.intro (by first | omega | trivial | (intros; omega)) ?_)
      refine hK (j + 1, X2 12 17) (show j + 1 ≤ n - i by omega) (show n - i - (j + 1) < n - i - j by omega) _ _ (Sub.pt ?_)
      have q : tabl j (loF kind n f) ++ [f (2 * j) + liftG kind (fun j => rd (hiL kind n f) j) i j] = tabl (j + 1) (loF kind n f) := by
        rw [← tabl_snoc]; unfold loF; rw [hm]
      simp -implicitDefEqProofs only [push_cast, false_implies, reduceCtorEq, Classical.not_not, Nat.reduceAdd, Nat.reduceSub, Nat.reduceMul, Nat.reduceLeDiff, Nat.reduceLT, Nat.reduceEqDiff, Nat.reduceBEq, Nat.reduceBNe, Int.reduceNeg, Int.reduceToNat, Bool.or_false, Bool.false_or, Bool.or_true, Bool.true_or, BEq.rfl, Bool.not_eq_true, Bool.not_eq_false, decide_eq_true_eq, not_true_eq_false, not_false_eq_true, ite_true, ite_false, List.append_nil, and_assoc, Nat.mul_zero, Nat.zero_mul, q]
    · have hj2 : j = n - i := by omega
      have ee : ((n - i : Nat) : Int) = n - i := by omega
      simp only [tabl_length, hHl]
      intro X2
      repeat (refine And.intro (by first | omega | trivial | (intros; omega)) ?_)
      refine postF.mk' (fun _ => X2 2 18) [some 0, some 18] ?_
      have q : tabl j (loF kind n f) ++ hiL kind n f = lineL kind n (fun j => rd xs (lo + j)) := by
        rw [hf, hj2]; unfold lineL; rw [hm]
      simp -implicitDefEqProofs only [push_cast, false_implies, reduceCtorEq, Classical.not_not, Nat.reduceAdd, Nat.reduceSub, Nat.reduceMul, Nat.reduceLeDiff, Nat.reduceLT, Nat.reduceEqDiff, Nat.reduceBEq, Nat.reduceBNe, Int.reduceNeg, Int.reduceToNat, Bool.or_false, Bool.false_or, Bool.or_true, Bool.true_or, BEq.rfl, Bool.not_eq_true, Bool.not_eq_false, decide_eq_true_eq, not_true_eq_false, not_false_eq_true, ite_true, ite_false, List.append_nil, and_assoc, Nat.mul_zero, Nat.zero_mul, fs38, q]
      omega
def ent38 : Entry := spOf fs38 inv38
theorem e38 : EntryOk Try.prog 38 ent38 := entry_of ok38 inv38
@[push_cast] theorem ent38_app (us : List SV) (look : Look) (x : Nat → Xf.Loc) (k : Nat) : ent38 us look x k = spOf fs38 inv38 us look x k := rfl
def b39_1 : IR :=
  .seq (.reg false [⟨some 33, none, ⟨[], []⟩, .bin 0 .lss (.t 32) (.t 31)⟩] [] []) (.seq (.cond (.t 33) (.skip) (.exit 0)) (.seq (.block 1 (.seq (.reg false [⟨some 34, none, ⟨[], []⟩, .mov (.t 32)⟩,
    ⟨some 10, none, ⟨[], []⟩, .mov (.t 34)⟩] [33, 34] []) (.reg true [⟨some 35, none, ⟨[], []⟩, .mov (.t 9)⟩,
    ⟨some 36, none, ⟨[], []⟩, .mov (.t 10)⟩,
    ⟨some 37, none, ⟨[], []⟩, .bin 0 .mul (.k (.int .i64 2)) (.t 36)⟩,
    ⟨some 38, none, ⟨[], []⟩, .mov (.t 7)⟩,
    ⟨some 39, none, ⟨[], []⟩, .mov (.t 10)⟩,
    ⟨some 40, none, ⟨[], []⟩, .idxS (.t 38) (.t 39) 1⟩,
    ⟨some 41, none, ⟨[11, 12, 13, 14], []⟩, .ld true none 0 0 (.t 40)⟩,
    ⟨some 42, none, ⟨[], []⟩, .mov (.t 0)⟩,
    ⟨some 43, none, ⟨[], []⟩, .mov (.t 8)⟩,
    ⟨some 44, none, ⟨[], []⟩, .mov (.t 10)⟩,
    ⟨some 45, none, ⟨[], []⟩, .call (some 4) 11 66 [.t 42, .t 43, .t 44]⟩,
    ⟨some 46, none, ⟨[], []⟩, .bin 0 .sub (.t 41) (.t 45)⟩,
    ⟨some 47, none, ⟨[], []⟩, .idxS (.t 35) (.t 37) 1⟩,
    ⟨none, none, ⟨[], []⟩, .sto true 1 .i64 (.t 47) (.t 46)⟩] [10, 35, 36, 37, 38, 39, 40, 41, 42, 43, 44, 45, 46, 47] []))) (.reg false [⟨some 48, none, ⟨[], []⟩, .bin 0 .add (.t 32) (.k (.int .i64 1))⟩,
    ⟨some 32, none, ⟨[], []⟩, .mov (.t 48)⟩] [48] [])))
def b39_2 : IR :=
  .seq (.reg false [⟨some 52, none, ⟨[], []⟩, .bin 0 .lss (.t 51) (.t 50)⟩] [] []) (.seq (.cond (.t 52) (.skip) (.exit 2)) (.seq (.block 3 (.seq (.reg false [⟨some 53, none, ⟨[], []⟩, .mov (.t 51)⟩,
    ⟨some 11, none, ⟨[], []⟩, .mov (.t 53)⟩] [52, 53] []) (.seq (.reg true [⟨some 54, none, ⟨[], []⟩, .mov (.t 9)⟩,
    ⟨some 55, none, ⟨[], []⟩, .mov (.t 11)⟩,
    ⟨some 56, none, ⟨[], []⟩, .bin 0 .mul (.k (.int .i64 2)) (.t 55)⟩,
    ⟨some 57, none, ⟨[], []⟩, .bin 0 .add (.t 56) (.k (.int .i64 1))⟩,
    ⟨some 58, none, ⟨[], []⟩, .mov (.t 8)⟩,
    ⟨some 59, none, ⟨[], []⟩, .mov (.t 11)⟩,
    ⟨some 60, none, ⟨[], []⟩, .idxS (.t 58) (.t 59) 1⟩,
    ⟨some 61, none, ⟨[], []⟩, .ld true none 0 0 (.t 60)⟩,
    ⟨some 62, none, ⟨[], []⟩, .mov (.t 9)⟩,
    ⟨some 63, none, ⟨[], []⟩, .mov (.t 11)⟩,
    ⟨some 64, none, ⟨[], []⟩, .bin 0 .mul (.k (.int .i64 2)) (.t 63)⟩,
    ⟨some 65, none, ⟨[], []⟩, .idxS (.t 62) (.t 64) 1⟩,
    ⟨some 66, none, ⟨[], []⟩, .ld true none 0 0 (.t 65)⟩,
    ⟨some 67, none, ⟨[], []⟩, .bin 0 .add (.t 61) (.t 66)⟩,
    ⟨some 68, none, ⟨[], []⟩, .idxS (.t 54) (.t 57) 1⟩,
    ⟨none, none, ⟨[], []⟩, .sto true 1 .i64 (.t 68) (.t 67)⟩] [54, 55, 56, 57, 58, 59, 60, 61, 62, 63, 64, 65, 66, 67, 68] []) (.seq (.reg false [⟨some 69, none, ⟨[], []⟩, .mov (.t 0)⟩,
    ⟨some 70, none, ⟨[], []⟩, .bin 0 .eql (.t 69) (.k (.int .i64 0))⟩] [69] []) (.cond (.t 70) (.seq (.reg false [⟨some 71, none, ⟨[], []⟩, .mov (.t 9)⟩,
    ⟨some 72, none, ⟨[], []⟩, .mov (.t 11)⟩,
    ⟨some 73, none, ⟨[], []⟩, .bin 0 .mul (.k (.int .i64 2)) (.t 72)⟩,
    ⟨some 74, none, ⟨[], []⟩, .idxS (.t 71) (.t 73) 1⟩,
    ⟨some 75, none, ⟨[], []⟩, .ld true none 0 0 (.t 74)⟩,
    ⟨some 12, none, ⟨[], []⟩, .mov (.t 75)⟩] [70, 71, 72, 73, 74, 75] []) (.seq (.seq (.reg false [⟨some 76, none, ⟨[], []⟩, .mov (.t 11)⟩,
    ⟨some 77, none, ⟨[], []⟩, .bin 0 .mul (.k (.int .i64 2)) (.t 76)⟩,
    ⟨some 78, none, ⟨[], []⟩, .bin 0 .add (.t 77) (.k (.int .i64 2))⟩,
    ⟨some 79, none, ⟨[], []⟩, .mov (.t 5)⟩,
    ⟨some 80, none, ⟨[], []⟩, .bin 0 .lss (.t 78) (.t 79)⟩] [76, 77, 78, 79] []) (.cond (.t 80) (.reg false [⟨some 81, none, ⟨[], []⟩, .mov (.t 9)⟩,
    ⟨some 82, none, ⟨[], []⟩, .mov (.t 11)⟩,
    ⟨some 83, none, ⟨[], []⟩, .bin 0 .mul (.k (.int .i64 2)) (.t 82)⟩,
    ⟨some 84, none, ⟨[], []⟩, .bin 0 .add (.t 83) (.k (.int .i64 2))⟩,
    ⟨some 85, none, ⟨[], []⟩, .idxS (.t 81) (.t 84) 1⟩,
    ⟨some 86, none, ⟨[], []⟩, .ld true none 0 0 (.t 85)⟩,
    ⟨some 12, none, ⟨[], []⟩, .mov (.t 86)⟩] [80, 81, 82, 83, 84, 85, 86] []) (.skip))) (.reg true [⟨some 87, none, ⟨[], []⟩, .mov (.t 9)⟩,
    ⟨some 88, none, ⟨[], []⟩, .mov (.t 11)⟩,
    ⟨some 89, none, ⟨[], []⟩, .bin 0 .mul (.k (.int .i64 2)) (.t 88)⟩,
    ⟨some 90, none, ⟨[], []⟩, .bin 0 .add (.t 89) (.k (.int .i64 1))⟩,
    ⟨some 91, none, ⟨[], []⟩, .mov (.t 8)⟩,
    ⟨some 92, none, ⟨[], []⟩, .mov (.t 11)⟩,
    ⟨some 93, none, ⟨[], []⟩, .idxS (.t 91) (.t 92) 1⟩,
    ⟨some 94, none, ⟨[], []⟩, .ld true none 0 0 (.t 93)⟩,
    ⟨some 95, none, ⟨[], []⟩, .mov (.t 9)⟩,
    ⟨some 96, none, ⟨[], []⟩, .mov (.t 11)⟩,
    ⟨some 97, none, ⟨[], []⟩, .bin 0 .mul (.k (.int .i64 2)) (.t 96)⟩,
    ⟨some 98, none, ⟨[], []⟩, .idxS (.t 95) (.t 97) 1⟩,
    ⟨some 99, none, ⟨[], []⟩, .ld true none 0 0 (.t 98)⟩,
    ⟨some 100, none, ⟨[], []⟩, .mov (.t 12)⟩,
    ⟨some 101, none, ⟨[], []⟩, .bin 0 .add (.t 99) (.t 100)⟩,
    ⟨some 102, none, ⟨[], []⟩, .bin 0 .shr (.t 101) (.k (.int .u64 1))⟩,
    ⟨some 103, none, ⟨[], []⟩, .bin 0 .add (.t 94) (.t 102)⟩,
    ⟨some 104, none, ⟨[], []⟩, .idxS (.t 87) (.t 90) 1⟩,
    ⟨none, none, ⟨[], []⟩, .sto true 1 .i64 (.t 104) (.t 103)⟩] [11, 12, 80, 87, 88, 89, 90, 91, 92, 93, 94, 95, 96, 97, 98, 99, 100, 101, 102, 103, 104] []))) (.skip)))))) (.reg false [⟨some 105, none, ⟨[], []⟩, .bin 0 .add (.t 51) (.k (.int .i64 1))⟩,
    ⟨some 51, none, ⟨[], []⟩, .mov (.t 105)⟩] [11, 70, 105] [])))
def r39_3 : IR :=
  .seq (.reg false [⟨some 106, none, ⟨[], []⟩, .mov (.t 9)⟩,
    ⟨some 4, none, ⟨[], []⟩, .mov (.t 106)⟩] [0, 5, 8, 9, 50, 51, 106] []) (.ret)
def r39_4 : IR :=
  .seq (.seq (.reg false [⟨some 49, none, ⟨[], []⟩, .mov (.t 8)⟩,
    ⟨some 50, none, ⟨[], []⟩, .len (.t 49)⟩,
    ⟨some 51, none, ⟨[], []⟩, .mov (.k (.int .i64 0))⟩] [7, 31, 32, 49] []) (.block 2 (.loop b39_2))) (r39_3)
def ir39 : IR :=
  .seq (.reg false [⟨some 4, none, ⟨[], []⟩, .mov (.k nilSV)⟩] [4] []) (.seq (.reg false [⟨some 13, none, ⟨[], []⟩, .mov (.t 1)⟩,
    ⟨some 14, none, ⟨[], []⟩, .len (.t 13)⟩,
    ⟨some 15, none, ⟨[], []⟩, .mov (.t 1)⟩,
    ⟨some 16, none, ⟨[], []⟩, .len (.t 15)⟩,
    ⟨some 17, none, ⟨[], []⟩, .bin 0 .quo (.t 16) (.k (.int .i64 2))⟩,
    ⟨some 5, none, ⟨[], []⟩, .mov (.t 14)⟩,
    ⟨some 6, none, ⟨[], []⟩, .mov (.t 17)⟩] [13, 14, 15, 16, 17] []) (.seq (.reg true [⟨some 18, none, ⟨[], []⟩, .mov (.t 1)⟩,
    ⟨some 19, none, ⟨[], []⟩, .mov (.t 5)⟩,
    ⟨some 20, none, ⟨[], []⟩, .mov (.t 6)⟩,
    ⟨some 21, none, ⟨[], []⟩, .bin 0 .sub (.t 19) (.t 20)⟩,
    ⟨some 22, none, ⟨[], []⟩, .slc (.t 18) 1 none (some (.t 21))⟩,
    ⟨some 23, none, ⟨[], []⟩, .mov (.t 1)⟩,
    ⟨some 24, none, ⟨[], []⟩, .mov (.t 5)⟩,
    ⟨some 25, none, ⟨[], []⟩, .mov (.t 6)⟩,
    ⟨some 26, none, ⟨[], []⟩, .bin 0 .sub (.t 24) (.t 25)⟩,
    ⟨some 27, none, ⟨[], []⟩, .slc (.t 23) 1 (some (.t 26)) none⟩,
    ⟨some 7, none, ⟨[], []⟩, .mov (.t 22)⟩,
    ⟨some 8, none, ⟨[], []⟩, .mov (.t 27)⟩] [1, 6, 18, 19, 20, 21, 22, 23, 24, 25, 26, 27] []) (.seq (.reg false [⟨some 28, none, ⟨[], []⟩, .mov (.t 5)⟩,
    ⟨some 29, none, ⟨[], []⟩, .mks 10 (.int .i64 0) 8 (.t 28) (.t 28)⟩,
    ⟨some 9, none, ⟨[], []⟩, .mov (.t 29)⟩] [28, 29] []) (.seq (.seq (.reg false [⟨some 30, none, ⟨[], []⟩, .mov (.t 7)⟩,
    ⟨some 31, none, ⟨[], []⟩, .len (.t 30)⟩,
    ⟨some 32, none, ⟨[], []⟩, .mov (.k (.int .i64 0))⟩] [30] []) (.block 0 (.loop b39_1))) (r39_4)))))
def kp39_1 : List Nat := [0, 5, 7, 8, 9, 31, 32]
def kl39_1 : List Nat := [11, 12, 13, 14]
attribute [push_cast] kp39_1 kl39_1
def kp39_2 : List Nat := [0, 5, 8, 9, 50, 51]
def kl39_2 : List Nat := []
attribute [push_cast] kp39_2 kl39_2
set_option maxRecDepth 4000 in
theorem comp39 : (Try.f39.body.bind fun c => compC tab isP chkAll ir39 c) = some ir39 := by kernel_rfl
def evF (kind : Int) (n : Nat) (f : Int → Int) (i : Nat) : Int := f i - liftG kind (fun j => f ((n : Int) - (n / 2 : Nat) + j)) (n / 2 : Nat) i
def odF (kind : Int) (n : Nat) (f : Int → Int) (i : Nat) : Int :=
  if kind = 1 then f ((n : Int) - (n / 2 : Nat) + i) + evF kind n f i else f ((n : Int) - (n / 2 : Nat) + i) + (evF kind n f i + (if 2 * i + 2 < n then evF kind n f (i + 1) else evF kind n f i)) / 2
def unF1 (kind : Int) (n : Nat) (f : Int → Int) (i k : Nat) : Int := if k % 2 = 0 ∧ k / 2 < i then evF kind n f (k / 2) else 0
def unF2 (kind : Int) (n : Nat) (f : Int → Int) (i k : Nat) : Int := if k % 2 = 0 then evF kind n f (k / 2) else if k / 2 < i then odF kind n f (k / 2) else 0
def unL (kind : Int) (n : Nat) (f : Int → Int) : List Int := tabl n (unF2 kind n f (n / 2))
theorem unL_length (kind : Int) (n : Nat) (f : Int → Int) : (unL kind n f).length = n := tabl_length _ _
theorem unF1_zero (kind : Int) (n : Nat) (f : Int → Int) : tabl n (unF1 kind n f 0) = List.replicate n 0 := by
  refine eq_of_rd (by rw [tabl_length, List.length_replicate]) fun j hj => ?_
  rw [tabl_length] at hj
  rw [rd_tabl hj, rd_lt _ _ (by rw [List.length_replicate]; exact hj)]
  simp [unF1]
theorem unF1_set {kind : Int} {n : Nat} {f : Int → Int} {i : Nat} (h : 2 * i < n) : (tabl n (unF1 kind n f i)).set (2 * i) (evF kind n f i) = tabl n (unF1 kind n f (i + 1)) := by
  rw [tabl_set h]
  refine tabl_congr fun j hj => ?_
  unfold unF1
  by_cases e : j = 2 * i
  · subst e; rw [if_pos rfl, if_pos (by omega), show 2 * i / 2 = i by omega]
  · rw [if_neg e]
    by_cases h2 : j % 2 = 0 ∧ j / 2 < i
    · rw [if_pos h2, if_pos (by omega)]
    · rw [if_neg h2, if_neg (by omega)]
theorem unF1_all (kind : Int) (n : Nat) (f : Int → Int) : tabl n (unF1 kind n f (n - n / 2)) = tabl n (unF2 kind n f 0) := by
  refine tabl_congr fun j hj => ?_
  unfold unF1 unF2
  by_cases h2 : j % 2 = 0
  · rw [if_pos (by omega), if_pos h2]
  · rw [if_neg (by omega), if_neg h2, if_neg (by omega)]
theorem unF2_set {kind : Int} {n : Nat} {f : Int → Int} {i : Nat} (h : 2 * i + 1 < n) : (tabl n (unF2 kind n f i)).set (2 * i + 1) (odF kind n f i) = tabl n (unF2 kind n f (i + 1)) := by
  rw [tabl_set h]
  refine tabl_congr fun j hj => ?_
  unfold unF2
  by_cases e : j = 2 * i + 1
  · subst e; rw [if_pos rfl, if_neg (by omega), if_pos (by omega), show (2 * i + 1) / 2 = i by omega]
  · rw [if_neg e]
    by_cases h2 : j % 2 = 0
    · rw [if_pos h2, if_pos h2]
    · rw [if_neg h2, if_neg h2]
      by_cases h3 : j / 2 < i
      · rw [if_pos h3, if_pos (by omega)]
      · rw [if_neg h3, if_neg (by omega)]
theorem unF2_rd {kind : Int} {n : Nat} {f : Int → Int} {i k : Nat} (h : 2 * k < n) : rd (tabl n (unF2 kind n f i)) (2 * (k : Int)) = evF kind n f k := by
  have := rd_tabl (f := unF2 kind n f i) h
  rw [show ((2 * k : Nat) : Int) = 2 * (k : Int) by omega] at this
  rw [this]; unfold unF2; rw [if_pos (by omega), show 2 * k / 2 = k by omega]
theorem rd_set_ne {xs : List Int} {i : Nat} {j : Int} (v : Int) (h : j.toNat ≠ i) : rd (xs.set i v) j = rd xs j := by
  unfold rd
  simp [List.getElem?_set, Ne.symm h]
theorem evF_bd {kind : Int} {n : Nat} {f : Int → Int} {B : Int} (h : BdF B f) (h0 : 0 ≤ B) (i : Nat) : -(2 * B + 1) ≤ evF kind n f i ∧ evF kind n f i ≤ 2 * B + 1 := by
  have h1 := h i
  have h2 := liftG_bd (kind := kind) (g := fun j => f ((n : Int) - (n / 2 : Nat) + j)) (fun j => h _) h0 (n / 2 : Nat) i
  unfold evF
  omega
def fs39 : FS where
  A := LineA
  args := fun a => [.int .i64 a.kind, .sl 0 a.L 1 a.lo a.n]
  mem := fun a => [some (.ro, a.L, .ints .i64 a.xs)]
  pre := fun a => (a.kind = 0 ∨ a.kind = 1) ∧ a.xs.length ≤ 140737488355328 ∧ 0 ≤ a.lo ∧ a.lo + a.n ≤ a.xs.length ∧ a.n ≤ 1000000 ∧ AllIn (-1125899906842624) 1125899906842624 a.xs
  res := fun a x => .sl 1 (x 0) 1 0 a.n
  out := fun _ _ => []
  new := fun a x => [(x 0, .ints .i64 (unL a.kind a.n (fun j => rd a.xs (a.lo + j))))]
theorem ok39 : FSOk Try.prog 39 fs39 := by
  refine ⟨⟨_, Try.func39, by kernel_rfl, by kernel_rfl⟩, fun a => ⟨by simp [fs39, push_cast, noMine, argOwn, Chunk.frArg], by simp [fs39, push_cast, outOk, Chunk.ext], fun x => .inl (by simp [fs39, push_cast, frNew, frOut, Chunk.fr])⟩, fun a hp => ?_⟩
  obtain ⟨kind, L, xs, lo, n⟩ := a
  obtain ⟨hk, h1, h2, h3, h4, h5⟩ : (kind = 0 ∨ kind = 1) ∧ xs.length ≤ 140737488355328 ∧ 0 ≤ lo ∧ lo + n ≤ xs.length ∧ n ≤ 1000000 ∧ AllIn (-1125899906842624) 1125899906842624 xs := hp
  change Tri Try.prog 39 [.int .i64 kind, .sl 0 L 1 lo n] [some (.ro, L, .ints .i64 xs)] (postF fs39 ⟨kind, L, xs, lo, n⟩)
  have h52 : AllIn (-4503599627370496) 4503599627370496 xs := fun n hn => by have := h5 n hn; omega
  obtain ⟨f, hf⟩ : ∃ f : Int → Int, (fun j => rd xs (lo + j)) = f := ⟨_, rfl⟩
  have hfj : ∀ j, rd xs (lo + j) = f j := fun j => by rw [← hf]
  have hB : BdF 1125899906842624 f := by rw [← hf]; exact BdF.rd h5 (by omega) lo
  obtain ⟨m, hm⟩ : ∃ m, n / 2 = m := ⟨_, rfl⟩
  have en : ((n : Int) / 2) = (m : Int) := by omega
  refine tri_evS (hyp (l := [(66, ent66)]) (lp := []) ⟨e66, trivial⟩ trivial) Try.func39 comp39 (rs := [.tmp 4]) (by rfl) Try.ntmps39 15 ?_
  simp -implicitDefEqProofs only [push_cast, false_implies, reduceCtorEq, Classical.not_not, Nat.reduceAdd, Nat.reduceSub, Nat.reduceMul, Nat.reduceLeDiff, Nat.reduceLT, Nat.reduceEqDiff, Nat.reduceBEq, Nat.reduceBNe, Int.reduceNeg, Int.reduceToNat, Bool.or_false, Bool.false_or, Bool.or_true, Bool.true_or, BEq.rfl, Bool.not_eq_true, Bool.not_eq_false, decide_eq_true_eq, not_true_eq_false, not_false_eq_true, ite_true, ite_false, List.append_nil, and_assoc, Nat.mul_zero, Nat.zero_mul, ir39]
  rw [en]
  repeat (refine And.intro (by first | omega | trivial | (intros; omega)) ?_)
  have ed : (n : Int) - (n - m) = m := by omega
  have hgj : ∀ j, rd xs (lo + ((n : Int) - m) + j) = f ((n : Int) - m + j) := fun j => by rw [← hf]; simp only [Int.add_assoc]
  simp only [ed, Int.sub_zero]
  intro X
  repeat (refine And.intro (by first | omega | trivial | (intros; omega)) ?_)
  have hev : ∀ i : Nat, f i - liftG kind (fun j => f ((n : Int) - m + j)) m i = evF kind n f i := fun i => by unfold evF; rw [hm]
  have hbe := fun i => evF_bd (kind := kind) (n := n) hB (by omega) i
  have hLB := fun i => liftG_bd (kind := kind) (g := fun j => f ((n : Int) - m + j)) (fun j => hB _) (by omega) (m : Int) i
  refine evS_loopU (A := Nat) kp39_1 kl39_1 (fun i => [(32, .int .i64 i)]) (fun i => [(10, .mine, X 1 10, .ints .i64 (tabl n (unF1 kind n f i)))]) (fun i => i ≤ n - m) (fun i => n - m - i) 0 (by omega) (Sub.pt ?_) ?_
  · simp -implicitDefEqProofs only [push_cast, false_implies, reduceCtorEq, Classical.not_not, Nat.reduceAdd, Nat.reduceSub, Nat.reduceMul, Nat.reduceLeDiff, Nat.reduceLT, Nat.reduceEqDiff, Nat.reduceBEq, Nat.reduceBNe, Int.reduceNeg, Int.reduceToNat, Bool.or_false, Bool.false_or, Bool.or_true, Bool.true_or, BEq.rfl, Bool.not_eq_true, Bool.not_eq_false, decide_eq_true_eq, not_true_eq_false, not_false_eq_true, ite_true, ite_false, List.append_nil, and_assoc, Nat.mul_zero, Nat.zero_mul, unF1_zero, Int.toNat_natCast]
  intro i (hi : i ≤ n - m) K hK
  simp -implicitDefEqProofs only [push_cast, false_implies, reduceCtorEq, Classical.not_not, Nat.reduceAdd, Nat.reduceSub, Nat.reduceMul, Nat.reduceLeDiff, Nat.reduceLT, Nat.reduceEqDiff, Nat.reduceBEq, Nat.reduceBNe, Int.reduceNeg, Int.reduceToNat, Bool.or_false, Bool.false_or, Bool.or_true, Bool.true_or, BEq.rfl, Bool.not_eq_true, Bool.not_eq_false, decide_eq_true_eq, not_true_eq_false, not_false_eq_true, ite_true, ite_false, List.append_nil, and_assoc, Nat.mul_zero, Nat.zero_mul, b39_1, r39_4, fs66]
  refine ⟨fun hl => ?_, fun hl => ?_⟩
  · have hi' : 2 * i < n := by omega
    have b0 := hB i
    have b1 := hbe i
    have b2 := hLB i
    have et : (2 * (i : Int)).toNat = 2 * i := by omega
    have q := unF1_set (kind := kind) (f := f) hi'
    simp only [hfj, hgj, tabl_length]
    repeat (refine And.intro (by first | omega | trivial | (intros; omega)) ?_)
    refine hK (i + 1) (by omega) (by omega) _ _ (Sub.pt ?_)
    simp -implicitDefEqProofs only [push_cast, false_implies, reduceCtorEq, Classical.not_not, Nat.reduceAdd, Nat.reduceSub, Nat.reduceMul, Nat.reduceLeDiff, Nat.reduceLT, Nat.reduceEqDiff, Nat.reduceBEq, Nat.reduceBNe, Int.reduceNeg, Int.reduceToNat, Bool.or_false, Bool.false_or, Bool.or_true, Bool.true_or, BEq.rfl, Bool.not_eq_true, Bool.not_eq_false, decide_eq_true_eq, not_true_eq_false, not_false_eq_true, ite_true, ite_false, List.append_nil, and_assoc, Nat.mul_zero, Nat.zero_mul, et, hev, q]
  · obtain rfl : i = n - m := by omega
    clear hK
    have q := unF1_all kind n f
    rw [hm] at q
    rw [q]
    repeat (refine And.intro (by first | omega | trivial | (intros; omega)) ?_)
    refine evS_loopU (A := Nat) kp39_2 kl39_2 (fun i => [(51, .int .i64 i)]) (fun i => [(10, .mine, X 1 10, .ints .i64 (tabl n (unF2 kind n f i)))]) (fun i => i ≤ m) (fun i => m - i) 0 (by omega) (Sub.pt ?_) ?_
    · simp -implicitDefEqProofs only [push_cast, false_implies, reduceCtorEq, Classical.not_not, Nat.reduceAdd, Nat.reduceSub, Nat.reduceMul, Nat.reduceLeDiff, Nat.reduceLT, Nat.reduceEqDiff, Nat.reduceBEq, Nat.reduceBNe, Int.reduceNeg, Int.reduceToNat, Bool.or_false, Bool.false_or, Bool.or_true, Bool.true_or, BEq.rfl, Bool.not_eq_true, Bool.not_eq_false, decide_eq_true_eq, not_true_eq_false, not_false_eq_true, ite_true, ite_false, List.append_nil, and_assoc, Nat.mul_zero, Nat.zero_mul]
    intro i (hi : i ≤ m) K hK
    simp -implicitDefEqProofs only [push_cast, false_implies, reduceCtorEq, Classical.not_not, Nat.reduceAdd, Nat.reduceSub, Nat.reduceMul, Nat.reduceLeDiff, Nat.reduceLT, Nat.reduceEqDiff, Nat.reduceBEq, Nat.reduceBNe, Int.reduceNeg, Int.reduceToNat, Bool.or_false, Bool.false_or, Bool.or_true, Bool.true_or, BEq.rfl, Bool.not_eq_true, Bool.not_eq_false, decide_eq_true_eq, not_true_eq_false, not_false_eq_true, ite_true, ite_false, List.append_nil, and_assoc, Nat.mul_zero, Nat.zero_mul, b39_2, r39_3]
    refine ⟨fun hl => ?_, fun hl => ?_⟩
    · have hi' : 2 * i + 1 < n := by omega
      have b0 := hB ((n : Int) - m + i)
      have b1 := hbe i
      have b2 := hbe (i + 1)
      have et : (2 * (i : Int) + 1).toNat = 2 * i + 1 := by omega
      have q := unF2_set (kind := kind) (f := f) hi'
      have r0 := unF2_rd (kind := kind) (f := f) (i := i) (k := i) (n := n) (by omega)
      have r1 : 2 * (i : Int) + 2 < n → rd (tabl n (unF2 kind n f i)) (2 * (i : Int) + 2) = evF kind n f (i + 1) := fun hh => by
        have := unF2_rd (kind := kind) (f := f) (i := i) (k := i + 1) (n := n) (by omega)
        rwa [show 2 * ((i + 1 : Nat) : Int) = 2 * (i : Int) + 2 by omega] at this
      have w0 : ∀ v, rd ((tabl n (unF2 kind n f i)).set (2 * i + 1) v) (2 * (i : Int)) = evF kind n f i := fun v => by rw [rd_set_ne v (by omega), r0]
      have w1 : 2 * (i : Int) + 2 < n → ∀ v, rd ((tabl n (unF2 kind n f i)).set (2 * i + 1) v) (2 * (i : Int) + 2) = evF kind n f (i + 1) := fun hh v => by rw [rd_set_ne v (by omega), r1 hh]
      have e2 : (2 : Int) ^ 1 = 2 := rfl
      simp only [hgj, tabl_length, et, r0, w0, e2, List.length_set, List.set_set]
      repeat (refine And.intro (by first | omega | trivial | (intros; omega)) ?_)
      refine ⟨fun hk0 => ?_, fun hk0 => ?_⟩
      · repeat (refine And.intro (by first | omega | trivial | (intros; omega)) ?_)
        refine ⟨fun hr => ?_, fun hr => ?_⟩
        · simp only [w1 hr]
          repeat (refine And.intro (by first | omega | trivial | (intros; omega)) ?_)
          refine hK (i + 1) (by omega) (by omega) _ _ (Sub.pt ?_)
          have e : odF kind n f i = f ((n : Int) - m + i) + (evF kind n f i + evF kind n f (i + 1)) / 2 := by
            unfold odF; rw [hm, if_neg (by omega), if_pos (by omega)]
          rw [e] at q
          simp -implicitDefEqProofs only [push_cast, false_implies, reduceCtorEq, Classical.not_not, Nat.reduceAdd, Nat.reduceSub, Nat.reduceMul, Nat.reduceLeDiff, Nat.reduceLT, Nat.reduceEqDiff, Nat.reduceBEq, Nat.reduceBNe, Int.reduceNeg, Int.reduceToNat, Bool.or_false, Bool.false_or, Bool.or_true, Bool.true_or, BEq.rfl, Bool.not_eq_true, Bool.not_eq_false, decide_eq_true_eq, not_true_eq_false, not_false_eq_true, ite_true, ite_false, List.append_nil, and_assoc, Nat.mul_zero, Nat.zero_mul, q]
        · repeat (refine And.intro (by first | omega | trivial | (intros; omega)) ?_)
          refine hK (i + 1) (by omega) (by omega) _ _ (Sub.pt ?_)
          have e : odF kind n f i = f ((n : Int) - m + i) + (evF kind n f i + evF kind n f i) / 2 := by
            unfold odF; rw [hm, if_neg (by omega), if_neg (by omega)]
          rw [e] at q
          simp -implicitDefEqProofs only [push_cast, false_implies, reduceCtorEq, Classical.not_not, Nat.reduceAdd, Nat.reduceSub, Nat.reduceMul, Nat.reduceLeDiff, Nat.reduceLT, Nat.reduceEqDiff, Nat.reduceBEq, Nat.reduceBNe, Int.reduceNeg, Int.reduceToNat, Bool.or_false, Bool.false_or, Bool.or_true, Bool.true_or, BEq.rfl, Bool.not_eq_true, Bool.not_eq_false, decide_eq_true_eq, not_true_eq_false, not_false_eq_true, ite_true, ite_false, List.append_nil, and_assoc, Nat.mul_zero, Nat.zero_mul, q]
      · repeat (refine And.intro (by first | omega | trivial | (intros; omega)) ?_)
        refine hK (i + 1) (by omega) (by omega) _ _ (Sub.pt ?_)
        have e : odF kind n f i = f ((n : Int) - m + i) + evF kind n f i := by
          unfold odF; rw [hm, if_pos (by omega)]
        rw [e] at q
        simp -implicitDefEqProofs only [push_cast, false_implies, reduceCtorEq, Classical.not_not, Nat.reduceAdd, Nat.reduceSub, Nat.reduceMul, Nat.reduceLeDiff, Nat.reduceLT, Nat.reduceEqDiff, Nat.reduceBEq, Nat.reduceBNe, Int.reduceNeg, Int.reduceToNat, Bool.or_false, Bool.false_or, Bool.or_true, Bool.true_or, BEq.rfl, Bool.not_eq_true, Bool.not_eq_false, decide_eq_true_eq, not_true_eq_false, not_false_eq_true, ite_true, ite_false, List.append_nil, and_assoc, Nat.mul_zero, Nat.zero_mul, q]
    · obtain rfl : i = m := by omega
      refine postF.mk' (fun _ => X 1 10) [some 0, some 10] ?_
      have q2 : tabl n (unF2 kind n f i) = unL kind n (fun j => rd xs (lo + j)) := by rw [hf]; unfold unL; rw [hm]
      simp -implicitDefEqProofs only [push_cast, false_implies, reduceCtorEq, Classical.not_not, Nat.reduceAdd, Nat.reduceSub, Nat.reduceMul, Nat.reduceLeDiff, Nat.reduceLT, Nat.reduceEqDiff, Nat.reduceBEq, Nat.reduceBNe, Int.reduceNeg, Int.reduceToNat, Bool.or_false, Bool.false_or, Bool.or_true, Bool.true_or, BEq.rfl, Bool.not_eq_true, Bool.not_eq_false, decide_eq_true_eq, not_true_eq_false, not_false_eq_true, ite_true, ite_false, List.append_nil, and_assoc, Nat.mul_zero, Nat.zero_mul, fs39, q2]
def ent39 : Entry := spOf fs39 inv38
theorem e39 : EntryOk Try.prog 39 ent39 := entry_of ok39 inv38
@[push_cast] theorem ent39_app (us : List SV) (look : Look) (x : Nat → Xf.Loc) (k : Nat) : ent39 us look x k = spOf fs39 inv38 us look x k := rfl
def ir14 : IR :=
  .seq (.reg false [⟨some 4, none, ⟨[], []⟩, .mov (.k nilSV)⟩,
    ⟨some 5, none, ⟨[], []⟩, .mov (.k (.int .i64 0))⟩] [4, 5] []) (.seq (.seq (.reg false [⟨some 6, none, ⟨[], []⟩, .mov (.t 0)⟩,
    ⟨some 7, none, ⟨[], []⟩, .callp 36 [.t 6]⟩,
    ⟨some 8, none, ⟨[], []⟩, .not (.t 7)⟩,
    ⟨some 9, none, ⟨[], []⟩, .mov (.t 8)⟩,
    ⟨some 10, some (9, false), ⟨[], []⟩, .mov (.t 1)⟩,
    ⟨some 11, some (9, false), ⟨[], []⟩, .len (.t 10)⟩,
    ⟨some 12, some (9, false), ⟨[], []⟩, .bin 0 .gtr (.t 11) (.k (.int .i64 8192))⟩,
    ⟨some 13, none, ⟨[], []⟩, .pick (.t 9) (.k (.bool true)) (.t 12)⟩,
    ⟨some 14, none, ⟨[], []⟩, .mov (.t 13)⟩,
    ⟨some 15, some (14, false), ⟨[], []⟩, .mov (.t 1)⟩,
    ⟨some 16, some (14, false), ⟨[], []⟩, .call (some 4) 10 37 [.t 15, .k (.int .i64 16777216)]⟩,
    ⟨some 17, some (14, false), ⟨[], []⟩, .not (.t 16)⟩,
    ⟨some 18, none, ⟨[], []⟩, .pick (.t 14) (.k (.bool true)) (.t 17)⟩] [6, 7, 8, 9, 10, 11, 12, 13, 14, 15, 16, 17] []) (.cond (.t 18) (.seq (.reg false [⟨some 4, none, ⟨[], []⟩, .mov (.k nilSV)⟩,
    ⟨some 5, none, ⟨[], []⟩, .mov (.k (.int .i64 2))⟩] [0, 1, 18] []) (.ret)) (.skip))) (.seq (.reg false [⟨some 19, none, ⟨[], []⟩, .mov (.t 0)⟩,
    ⟨some 20, none, ⟨[], []⟩, .mov (.t 1)⟩,
    ⟨some 21, none, ⟨[], []⟩, .call (some 4) 14 38 [.t 19, .t 20]⟩,
    ⟨some 4, none, ⟨[], []⟩, .mov (.t 21)⟩,
    ⟨some 5, none, ⟨[], []⟩, .mov (.k (.int .i64 0))⟩] [0, 1, 18, 19, 20, 21] []) (.ret)))
set_option maxRecDepth 4000 in
theorem comp14 : (Try.f14.body.bind fun c => compC tab isP chkAll ir14 c) = some ir14 := by kernel_rfl
structure LnA where
  kind : Int
  L : Xf.Loc
  xs : List Int
def lnOk (kind : Int) (xs : List Int) : Prop := (kind = 0 ∨ kind = 1) ∧ xs.length ≤ 8192 ∧ AllIn (-16777216) 16777216 xs
instance (kind : Int) (xs : List Int) : Decidable (lnOk kind xs) := by unfold lnOk; infer_instance
def inv16 : List SV → Look → Option (LnA × List Nat)
  | [.int .i64 k, .sl c _ 1 0 _], look => match rowI (lkZ look (.ints .i64 []) c) with
    | some (L, .i64, xs) => some (⟨k, L, xs⟩, [c])
    | _ => none
  | _, _ => none
attribute [push_cast] inv16
def lnR (kind : Int) (xs : List Int) : List Int := if lnOk kind xs then lineL kind xs.length (fun j => rd xs j) else []
def fs14 : FS where
  A := LnA
  args := fun a => [.int .i64 a.kind, .sl 0 a.L 1 0 a.xs.length]
  mem := fun a => [some (.ro, a.L, .ints .i64 a.xs)]
  pre := fun a => a.xs.length ≤ 140737488355328
  res := fun a x => .tup [.sl 1 (lx (lnOk a.kind a.xs) x 0) 1 0 (lnR a.kind a.xs).length, .int .i64 (if lnOk a.kind a.xs then 0 else 2)]
  out := fun _ _ => []
  new := fun a x => [(lx (lnOk a.kind a.xs) x 0, .ints .i64 (lnR a.kind a.xs))]
theorem ok14 : FSOk Try.prog 14 fs14 := by
  refine ⟨⟨_, Try.func14, by kernel_rfl, by kernel_rfl⟩, fun a => ⟨by simp [fs14, push_cast, noMine, argOwn, Chunk.frArg], by simp [fs14, push_cast, outOk, Chunk.ext], fun x => .inl (by simp [fs14, push_cast, frNew, frOut, Chunk.fr])⟩, fun a hp => ?_⟩
  obtain ⟨kind, L, xs⟩ := a
  change xs.length ≤ 140737488355328 at hp
  change Tri Try.prog 14 [.int .i64 kind, .sl 0 L 1 0 xs.length] [some (.ro, L, .ints .i64 xs)] (postF fs14 ⟨kind, L, xs⟩)
  refine tri_evS (hyp (l := [(37, ent37), (38, ent38)]) (lp := [(36, kindF)]) ⟨e37, e38, trivial⟩ ⟨p36, trivial⟩) Try.func14 comp14 (rs := [.tmp 4, .tmp 5]) (by rfl) Try.ntmps14 18 ?_
  simp -implicitDefEqProofs only [push_cast, false_implies, reduceCtorEq, Classical.not_not, Nat.reduceAdd, Nat.reduceSub, Nat.reduceMul, Nat.reduceLeDiff, Nat.reduceLT, Nat.reduceEqDiff, Nat.reduceBEq, Nat.reduceBNe, Int.reduceNeg, Int.reduceToNat, Bool.or_false, Bool.false_or, Bool.or_true, Bool.true_or, BEq.rfl, Bool.not_eq_true, Bool.not_eq_false, decide_eq_true_eq, not_true_eq_false, not_false_eq_true, ite_true, ite_false, List.append_nil, and_assoc, Nat.mul_zero, Nat.zero_mul, ir14, fs37, fs38, hp]
  refine ⟨fun q => ⟨q, by omega, by omega⟩, fun hn => ?_, fun hy X => ?_⟩
  · have e : ¬ lnOk kind xs := fun H => by
      obtain ⟨q1, q2, q3⟩ := H
      simp only [q1, q3, not_true_eq_false, false_or, or_false] at hn
      omega
    refine postF.mk' (fun _ => default) [some 0, none] ?_
    simp -implicitDefEqProofs only [push_cast, false_implies, reduceCtorEq, Classical.not_not, Nat.reduceAdd, Nat.reduceSub, Nat.reduceMul, Nat.reduceLeDiff, Nat.reduceLT, Nat.reduceEqDiff, Nat.reduceBEq, Nat.reduceBNe, Int.reduceNeg, Int.reduceToNat, Bool.or_false, Bool.false_or, Bool.or_true, Bool.true_or, BEq.rfl, Bool.not_eq_true, Bool.not_eq_false, decide_eq_true_eq, not_true_eq_false, not_false_eq_true, ite_true, ite_false, List.append_nil, and_assoc, Nat.mul_zero, Nat.zero_mul, fs14, lnR, e, if_false, lx, List.length_nil]
  · have q3 : AllIn (-16777216) 16777216 xs := Classical.byContradiction fun q => hy (.inr q)
    have q1 : kind = 0 ∨ kind = 1 := Classical.byContradiction fun q => hy (.inl (.inl q))
    have q2 : xs.length ≤ 8192 := by
      have : ¬ 8192 < (xs.length : Int) := fun q => hy (.inl (.inr q))
      omega
    have e : lnOk kind xs := ⟨q1, q2, q3⟩
    have hA : AllIn (-1073741824) 1073741824 xs := fun n hn => by have := q3 n hn; omega
    simp only [Int.toNat_natCast]
    repeat (refine And.intro (by first | omega | trivial | (intros; omega)) ?_)
    refine postF.mk' (fun _ => X 2 14) [some 0, some 14] ?_
    simp -implicitDefEqProofs only [push_cast, false_implies, reduceCtorEq, Classical.not_not, Nat.reduceAdd, Nat.reduceSub, Nat.reduceMul, Nat.reduceLeDiff, Nat.reduceLT, Nat.reduceEqDiff, Nat.reduceBEq, Nat.reduceBNe, Int.reduceNeg, Int.reduceToNat, Bool.or_false, Bool.false_or, Bool.or_true, Bool.true_or, BEq.rfl, Bool.not_eq_true, Bool.not_eq_false, decide_eq_true_eq, not_true_eq_false, not_false_eq_true, ite_true, ite_false, List.append_nil, and_assoc, Nat.mul_zero, Nat.zero_mul, fs14, lnR, e, if_true, lx, lineL_length]
def ent14 : Entry := spOf fs14 inv16
theorem e14 : EntryOk Try.prog 14 ent14 := entry_of ok14 inv16
@[push_cast] theorem ent14_app (us : List SV) (look : Look) (x : Nat → Xf.Loc) (k : Nat) : ent14 us look x k = spOf fs14 inv16 us look x k := rfl
def ir13 : IR :=
  .seq (.reg false [⟨some 0, none, ⟨[], []⟩, .mov (.k (.bool false))⟩] [0] []) (.seq (.reg false [⟨some 6, none, ⟨[], []⟩, .bslice 10 [.k (.int .i64 3), .k (.int .i64 8), .k (.int .i64 5)]⟩,
    ⟨some 7, none, ⟨[], []⟩, .call (some 4) 11 14 [.k (.int .i64 0), .t 6]⟩,
    ⟨some 5, none, ⟨[], []⟩, .mov (.t 7)⟩,
    ⟨some 8, none, ⟨[], []⟩, .ext (.t 5) 0⟩,
    ⟨some 9, none, ⟨[], []⟩, .ext (.t 5) 1⟩,
    ⟨some 1, none, ⟨[], []⟩, .mov (.t 8)⟩,
    ⟨some 2, none, ⟨[], []⟩, .mov (.t 9)⟩] [5, 6, 7, 8, 9] []) (.seq (.reg false [⟨some 11, none, ⟨[], []⟩, .bslice 15 [.k (.int .i64 3), .k (.int .i64 8), .k (.int .i64 5)]⟩,
    ⟨some 12, none, ⟨[], []⟩, .call (some 4) 16 14 [.k (.int .i64 1), .t 11]⟩,
    ⟨some 10, none, ⟨[], []⟩, .mov (.t 12)⟩,
    ⟨some 13, none, ⟨[], []⟩, .ext (.t 10) 0⟩,
    ⟨some 14, none, ⟨[], []⟩, .ext (.t 10) 1⟩,
    ⟨some 3, none, ⟨[], []⟩, .mov (.t 13)⟩,
    ⟨some 4, none, ⟨[], []⟩, .mov (.t 14)⟩] [10, 11, 12, 13, 14] []) (.seq (.reg false [⟨some 15, none, ⟨[], []⟩, .mov (.t 2)⟩,
    ⟨some 16, none, ⟨[], []⟩, .bin 0 .eql (.t 15) (.k (.int .i64 0))⟩,
    ⟨some 17, none, ⟨[], []⟩, .mov (.t 16)⟩,
    ⟨some 18, some (17, true), ⟨[], []⟩, .mov (.t 4)⟩,
    ⟨some 19, some (17, true), ⟨[], []⟩, .bin 0 .eql (.t 18) (.k (.int .i64 0))⟩,
    ⟨some 20, none, ⟨[], []⟩, .pick (.t 17) (.t 19) (.k (.bool false))⟩,
    ⟨some 21, none, ⟨[], []⟩, .mov (.t 20)⟩,
    ⟨some 22, some (21, true), ⟨[], []⟩, .mov (.t 1)⟩,
    ⟨some 23, some (21, true), ⟨[], []⟩, .bslice 20 [.k (.int .i64 5), .k (.int .i64 7), .k (.int .i64 4)]⟩,
    ⟨some 24, some (21, true), ⟨[], []⟩, .call (some 4) 21 17 [.t 22, .t 23]⟩,
    ⟨some 25, none, ⟨[], []⟩, .pick (.t 21) (.t 24) (.k (.bool false))⟩,
    ⟨some 26, none, ⟨[], []⟩, .mov (.t 25)⟩,
    ⟨some 27, some (26, true), ⟨[], []⟩, .mov (.t 3)⟩,
    ⟨some 28, some (26, true), ⟨[], []⟩, .bslice 25 [.k (.int .i64 5), .k (.int .i64 5), .k (.int .i64 5)]⟩,
    ⟨some 29, some (26, true), ⟨[], []⟩, .call (some 4) 26 17 [.t 27, .t 28]⟩,
    ⟨some 30, none, ⟨[], []⟩, .pick (.t 26) (.t 29) (.k (.bool false))⟩,
    ⟨some 0, none, ⟨[], []⟩, .mov (.t 30)⟩] [1, 2, 3, 4, 15, 16, 17, 18, 19, 20, 21, 22, 23, 24, 25, 26, 27, 28, 29, 30] []) (.ret))))
set_option maxRecDepth 4000 in
theorem comp13 : (Try.f13.body.bind fun c => compC tab isP chkAll ir13 c) = some ir13 := by kernel_rfl
theorem rd_app1 {xs ys : List Int} {i : Nat} (h : i < xs.length) : rd (xs ++ ys) (i : Int) = rd xs (i : Int) := by
  rw [rd_lt _ _ (by rw [List.length_append]; omega), rd_lt _ _ h, List.getElem_append_left h]
theorem rd_app2 {xs ys : List Int} {i : Nat} (h : i < ys.length) : rd (xs ++ ys) ((xs.length + i : Nat) : Int) = rd ys (i : Int) := by
  rw [rd_lt _ _ (by rw [List.length_append]; omega), rd_lt _ _ h, List.getElem_append_right (by omega)]
  congr 1; omega
theorem rd_line_lo {kind : Int} {n : Nat} {f : Int → Int} {i : Nat} (h : i < n - n / 2) : rd (lineL kind n f) (i : Int) = loF kind n f i := by
  unfold lineL; rw [rd_app1 (by rw [tabl_length]; exact h), rd_tabl h]
theorem rd_line_hi {kind : Int} {n : Nat} {f : Int → Int} {i : Nat} (h : i < n / 2) : rd (lineL kind n f) ((n : Int) - (n / 2 : Nat) + i) = hiF kind n f i := by
  have e : (n : Int) - (n / 2 : Nat) + i = (((tabl (n - n / 2) (loF kind n f)).length + i : Nat) : Int) := by rw [tabl_length]; omega
  unfold lineL
  rw [e, rd_app2 (by unfold hiL; rw [tabl_length]; exact h)]
  unfold hiL; rw [rd_tabl h]
theorem liftG_congr {kind : Int} {g g' : Int → Int} {m i : Int} (h : ∀ j, 0 ≤ j → j < m → g j = g' j) (h0 : 0 ≤ i) (h1 : i ≤ m) (hm : 0 ≤ m) : liftG kind g m i = liftG kind g' m i := by
  unfold liftG
  by_cases c : m = 0 ∨ kind = 1 ∧ m ≤ i
  · rw [if_pos c, if_pos c]
  · rw [if_neg c, if_neg c]
    by_cases d : kind = 1
    · rw [if_pos d, if_pos d, h i h0 (by omega)]
    · rw [if_neg d, if_neg d, h (max (i - 1) 0) (by omega) (by omega), h (min i (m - 1)) (by omega) (by omega)]
theorem ev_line {kind : Int} {n : Nat} {f : Int → Int} {i : Nat} (h : i < n - n / 2) : evF kind n (fun j => rd (lineL kind n f) j) i = f (2 * i) := by
  unfold evF
  try simp only
  rw [rd_line_lo h, liftG_congr (g' := fun j => rd (hiL kind n f) j) ?_ (by omega) (by omega) (by omega)]
  · unfold loF; omega
  · intro j h0 h1
    obtain ⟨j, rfl⟩ : ∃ q : Nat, j = (q : Int) := ⟨j.toNat, by omega⟩
    try simp only
    rw [rd_line_hi (by omega)]
    unfold hiL; rw [rd_tabl (by omega)]
theorem un_line {kind : Int} {n : Nat} {f : Int → Int} {k : Nat} (h : k < n) : unF2 kind n (fun j => rd (lineL kind n f) j) (n / 2) k = f k := by
  unfold unF2
  by_cases e : k % 2 = 0
  · rw [if_pos e, ev_line (by omega)]
    congr 1; omega
  · rw [if_neg e, if_pos (by omega)]
    unfold odF
    try simp only
    rw [rd_line_hi (by omega), ev_line (by omega)]
    have ek : (k : Int) = 2 * ((k / 2 : Nat) : Int) + 1 := by omega
    unfold hiF nxt
    by_cases c : kind = 1
    · rw [if_pos c, if_pos c, ek]
      have : ((k / 2 : Nat) : Int) = (k : Int) / 2 := by omega
      rw [← ek]; omega
    · rw [if_neg c, if_neg c]
      by_cases d : 2 * (k / 2) + 2 < n
      · rw [if_pos d, if_pos (by omega), ev_line (by omega), ← ek]
        rw [show 2 * ((k / 2 + 1 : Nat) : Int) = 2 * ((k / 2 : Nat) : Int) + 2 by omega]
        omega
      · rw [if_neg d, if_neg (by omega), ← ek]
        omega
theorem line_bd {kind : Int} {n : Nat} {f : Int → Int} {B : Int} (h : BdF B f) (h0 : 0 ≤ B) : AllIn (-(3 * B + 1)) (3 * B + 1) (lineL kind n f) := by
  intro v hv
  unfold lineL at hv
  rcases List.mem_append.1 hv with hv | hv
  · obtain ⟨j, hj, rfl⟩ := List.mem_map.1 hv
    have h1 := h (2 * j)
    have h2 := liftG_bd (kind := kind) (BdF.rd0 (hiL_bd (kind := kind) (n := n) h) (by omega)) (by omega) ((n / 2 : Nat) : Int) j
    simp only [loF]
    omega
  · have := hiL_bd h v hv
    omega
def fs13 : FS where
  A := Unit
  args := fun _ => []
  mem := fun _ => []
  pre := fun _ => True
  res := fun _ _ => .bool true
  out := fun _ _ => []
  new := fun _ _ => []
def inv13 : List SV → Look → Option (Unit × List Nat)
  | [], _ => some ((), [])
  | _, _ => none
attribute [push_cast] inv13
theorem ok13 : FSOk Try.prog 13 fs13 := by
  refine ⟨⟨_, Try.func13, by kernel_rfl, by kernel_rfl⟩, fun a => ⟨by simp [fs13, push_cast, noMine, argOwn, Chunk.frArg], by simp [fs13, push_cast, outOk, Chunk.ext], fun x => .inl (by simp [fs13, push_cast, frNew, frOut, Chunk.fr])⟩, fun a hp => ?_⟩
  change Tri Try.prog 13 [] [] (postF fs13 a)
  have o0 : lnOk 0 [3, 8, 5] := by decide
  have o1 : lnOk 1 [3, 8, 5] := by decide
  have r0 : lnR 0 [3, 8, 5] = [5, 7, 4] := by decide
  have r1 : lnR 1 [3, 8, 5] = [5, 5, 5] := by decide
  refine tri_evS (hyp (l := [(14, ent14), (17, ent17)]) (lp := []) ⟨e14, e17, trivial⟩ trivial) Try.func13 comp13 (rs := [.tmp 0]) (by rfl) Try.ntmps13 30 ?_
  simp -implicitDefEqProofs only [push_cast, false_implies, reduceCtorEq, Classical.not_not, Nat.reduceAdd, Nat.reduceSub, Nat.reduceMul, Nat.reduceLeDiff, Nat.reduceLT, Nat.reduceEqDiff, Nat.reduceBEq, Nat.reduceBNe, Int.reduceNeg, Int.reduceToNat, Bool.or_false, Bool.false_or, Bool.or_true, Bool.true_or, BEq.rfl, Bool.not_eq_true, Bool.not_eq_false, decide_eq_true_eq, not_true_eq_false, not_false_eq_true, ite_true, ite_false, List.append_nil, and_assoc, Nat.mul_zero, Nat.zero_mul, ir13, fs14, fs17, o0, o1, r0, r1, if_true, lx]
  exact fun X X1 X2 => postF.mk' (fun _ => default) [] (by simp -implicitDefEqProofs only [push_cast, false_implies, reduceCtorEq, Classical.not_not, Nat.reduceAdd, Nat.reduceSub, Nat.reduceMul, Nat.reduceLeDiff, Nat.reduceLT, Nat.reduceEqDiff, Nat.reduceBEq, Nat.reduceBNe, Int.reduceNeg, Int.reduceToNat, Bool.or_false, Bool.false_or, Bool.or_true, Bool.true_or, BEq.rfl, Bool.not_eq_true, Bool.not_eq_false, decide_eq_true_eq, not_true_eq_false, not_false_eq_true, ite_true, ite_false, List.append_nil, and_assoc, Nat.mul_zero, Nat.zero_mul, fs13])
def ent13 : Entry := spOf fs13 inv13
theorem e13 : EntryOk Try.prog 13 ent13 := entry_of ok13 inv13
@[push_cast] theorem ent13_app (us : List SV) (look : Look) (x : Nat → Xf.Loc) (k : Nat) : ent13 us look x k = spOf fs13 inv13 us look x k := rfl
structure QA where
  a : PlA
  q : Int
  M : Xf.Loc
structure Q1 where
  n : Int
  L : Xf.Loc
  q : Int
def ir24 : IR :=
  .seq (.reg false [⟨some 2, none, ⟨[], []⟩, .box 10 (.t 0)⟩,
    ⟨some 3, none, ⟨[], []⟩, .box 11 (.t 1)⟩,
    ⟨some 4, none, ⟨[], []⟩, .mov (.k (.bool false))⟩] [0, 1, 4] []) (.seq (.reg false [⟨some 5, none, ⟨[], []⟩, .fld (.t 2) 0⟩,
    ⟨some 6, none, ⟨[], []⟩, .ld false none 0 0 (.t 5)⟩,
    ⟨some 7, none, ⟨[], []⟩, .fld (.t 3) 0⟩,
    ⟨some 8, none, ⟨[], []⟩, .ld false none 0 0 (.t 7)⟩,
    ⟨some 9, none, ⟨[], []⟩, .bin 0 .eql (.t 6) (.t 8)⟩,
    ⟨some 10, none, ⟨[], []⟩, .mov (.t 9)⟩,
    ⟨some 11, some (10, true), ⟨[], []⟩, .fld (.t 2) 1⟩,
    ⟨some 12, some (10, true), ⟨[], []⟩, .ld false none 0 0 (.t 11)⟩,
    ⟨some 13, some (10, true), ⟨[], []⟩, .fld (.t 3) 1⟩,
    ⟨some 14, some (10, true), ⟨[], []⟩, .ld false none 0 0 (.t 13)⟩,
    ⟨some 15, some (10, true), ⟨[], []⟩, .bin 0 .eql (.t 12) (.t 14)⟩,
    ⟨some 16, none, ⟨[], []⟩, .pick (.t 10) (.t 15) (.k (.bool false))⟩,
    ⟨some 17, none, ⟨[], []⟩, .mov (.t 16)⟩,
    ⟨some 18, some (17, true), ⟨[], []⟩, .fld (.t 2) 2⟩,
    ⟨some 19, some (17, true), ⟨[], []⟩, .ld false none 0 0 (.t 18)⟩,
    ⟨some 20, some (17, true), ⟨[], []⟩, .fld (.t 3) 2⟩,
    ⟨some 21, some (17, true), ⟨[], []⟩, .ld false none 0 0 (.t 20)⟩,
    ⟨some 22, some (17, true), ⟨[], []⟩, .call (some 4) 12 17 [.t 19, .t 21]⟩,
    ⟨some 23, none, ⟨[], []⟩, .pick (.t 17) (.t 22) (.k (.bool false))⟩,
    ⟨some 4, none, ⟨[], []⟩, .mov (.t 23)⟩] [2, 3, 5, 6, 7, 8, 9, 10, 11, 12, 13, 14, 15, 16, 17, 18, 19, 20, 21, 22, 23] []) (.ret))
set_option maxRecDepth 4000 in
theorem comp24 : (Try.f24.body.bind fun c => compC tab isP chkAll ir24 c) = some ir24 := by kernel_rfl
def fs24 : FS where
  A := Pl2
  args := fun a => [plV a.a.p a.a.L 0, plV a.b.p a.b.L 1]
  mem := fun a => [some (.ro, a.a.L, .ints .i64 a.a.p.xs), some (.ro, a.b.L, .ints .i64 a.b.p.xs)]
  pre := fun a => a.a.p.xs.length ≤ 140737488355328 ∧ a.b.p.xs.length ≤ 140737488355328
  res := fun a _ => .bool (decide (a.a.p.Eq a.b.p))
  out := fun _ _ => []
  new := fun _ _ => []
def inv24 : List SV → Look → Option (Pl2 × List Nat)
  | [v, u], look => match getP look v, getP look u with
    | some (a, g), some (b, g') => some (⟨a, b⟩, g ++ g')
    | _, _ => none
  | _, _ => none
attribute [push_cast] inv24
theorem ok24 : FSOk Try.prog 24 fs24 := by
  refine ⟨⟨_, Try.func24, by kernel_rfl, by kernel_rfl⟩, fun a => ⟨by simp [fs24, push_cast, noMine, argOwn, Chunk.frArg], by simp [fs24, push_cast, outOk, Chunk.ext], fun x => .inl (by simp [fs24, push_cast, frNew, frOut, Chunk.fr])⟩, fun a hp => ?_⟩
  obtain ⟨⟨⟨w, h, xs⟩, L⟩, ⟨⟨w', h', ys⟩, M⟩⟩ := a
  obtain ⟨hp1, hp2⟩ : xs.length ≤ 140737488355328 ∧ ys.length ≤ 140737488355328 := hp
  change Tri Try.prog 24 [plV ⟨w, h, xs⟩ L 0, plV ⟨w', h', ys⟩ M 1] [some (.ro, L, .ints .i64 xs), some (.ro, M, .ints .i64 ys)] (postF fs24 ⟨⟨⟨w, h, xs⟩, L⟩, ⟨⟨w', h', ys⟩, M⟩⟩)
  refine tri_evS (hyp (l := [(17, ent17)]) (lp := []) ⟨e17, trivial⟩ trivial) Try.func24 comp24 (rs := [.tmp 4]) (by rfl) Try.ntmps24 16 ?_
  simp -implicitDefEqProofs only [push_cast, false_implies, reduceCtorEq, Classical.not_not, Nat.reduceAdd, Nat.reduceSub, Nat.reduceMul, Nat.reduceLeDiff, Nat.reduceLT, Nat.reduceEqDiff, Nat.reduceBEq, Nat.reduceBNe, Int.reduceNeg, Int.reduceToNat, Bool.or_false, Bool.false_or, Bool.or_true, Bool.true_or, BEq.rfl, Bool.not_eq_true, Bool.not_eq_false, decide_eq_true_eq, not_true_eq_false, not_false_eq_true, ite_true, ite_false, List.append_nil, and_assoc, Nat.mul_zero, Nat.zero_mul, ir24, fs17, hp1, hp2]
  refine fun X => ⟨fun H => ⟨H.1, H.2, H⟩, ?_⟩
  refine postF.mk' (fun _ => default) [some 0, some 1] ?_
  simp -implicitDefEqProofs only [push_cast, false_implies, reduceCtorEq, Classical.not_not, Nat.reduceAdd, Nat.reduceSub, Nat.reduceMul, Nat.reduceLeDiff, Nat.reduceLT, Nat.reduceEqDiff, Nat.reduceBEq, Nat.reduceBNe, Int.reduceNeg, Int.reduceToNat, Bool.or_false, Bool.false_or, Bool.or_true, Bool.true_or, BEq.rfl, Bool.not_eq_true, Bool.not_eq_false, decide_eq_true_eq, not_true_eq_false, not_false_eq_true, ite_true, ite_false, List.append_nil, and_assoc, Nat.mul_zero, Nat.zero_mul, fs24, Pl.Eq]
def ent24 : Entry := spOf fs24 inv24
theorem e24 : EntryOk Try.prog 24 ent24 := entry_of ok24 inv24
@[push_cast] theorem ent24_app (us : List SV) (look : Look) (x : Nat → Xf.Loc) (k : Nat) : ent24 us look x k = spOf fs24 inv24 us look x k := rfl
def b68_1 : IR :=
  .seq (.reg false [⟨some 19, none, ⟨[], []⟩, .bin 0 .lss (.t 18) (.t 17)⟩] [] []) (.seq (.cond (.t 19) (.skip) (.exit 0)) (.seq (.block 1 (.seq (.reg false [⟨some 20, none, ⟨[], []⟩, .mov (.t 18)⟩,
    ⟨some 11, none, ⟨[], []⟩, .mov (.t 20)⟩] [19, 20] []) (.reg false [⟨some 21, none, ⟨[], []⟩, .mov (.t 10)⟩,
    ⟨some 22, none, ⟨[], []⟩, .mov (.t 11)⟩,
    ⟨some 23, none, ⟨[], []⟩, .mov (.t 0)⟩,
    ⟨some 24, none, ⟨[], []⟩, .nilc (.t 23)⟩,
    ⟨some 25, none, ⟨[], []⟩, .fld (.t 24) 1⟩,
    ⟨some 26, none, ⟨[], []⟩, .ld false none 0 0 (.t 25)⟩,
    ⟨some 27, none, ⟨[], []⟩, .mov (.t 1)⟩,
    ⟨some 28, none, ⟨[], []⟩, .mov (.t 11)⟩,
    ⟨some 29, none, ⟨[], []⟩, .mov (.t 2)⟩,
    ⟨some 30, none, ⟨[], []⟩, .bin 0 .mul (.t 28) (.t 29)⟩,
    ⟨some 31, none, ⟨[], []⟩, .bin 0 .add (.t 27) (.t 30)⟩,
    ⟨some 32, none, ⟨[], []⟩, .idxS (.t 26) (.t 31) 1⟩,
    ⟨some 33, none, ⟨[], []⟩, .ld true none 0 0 (.t 32)⟩,
    ⟨some 34, none, ⟨[], []⟩, .idxS (.t 21) (.t 22) 1⟩,
    ⟨none, none, ⟨[], []⟩, .sto true 1 .i64 (.t 34) (.t 33)⟩] [11, 21, 22, 23, 24, 25, 26, 27, 28, 29, 30, 31, 32, 33, 34] []))) (.reg false [⟨some 35, none, ⟨[], []⟩, .bin 0 .add (.t 18) (.k (.int .i64 1))⟩,
    ⟨some 18, none, ⟨[], []⟩, .mov (.t 35)⟩] [35] [])))
def b68_2 : IR :=
  .seq (.reg false [⟨some 45, none, ⟨[], []⟩, .bin 0 .lss (.t 44) (.t 43)⟩] [] []) (.seq (.cond (.t 45) (.skip) (.exit 2)) (.seq (.block 3 (.seq (.reg false [⟨some 46, none, ⟨[], []⟩, .mov (.t 44)⟩,
    ⟨some 47, none, ⟨[], []⟩, .idxS (.t 42) (.t 44) 1⟩,
    ⟨some 48, none, ⟨[], []⟩, .ld true none 0 0 (.t 47)⟩,
    ⟨some 12, none, ⟨[], []⟩, .mov (.t 46)⟩,
    ⟨some 13, none, ⟨[], []⟩, .mov (.t 48)⟩] [45, 46, 47, 48] []) (.reg false [⟨some 49, none, ⟨[], []⟩, .mov (.t 0)⟩,
    ⟨some 50, none, ⟨[], []⟩, .nilc (.t 49)⟩,
    ⟨some 51, none, ⟨[], []⟩, .fld (.t 50) 1⟩,
    ⟨some 52, none, ⟨[], []⟩, .ld false none 0 0 (.t 51)⟩,
    ⟨some 53, none, ⟨[], []⟩, .mov (.t 1)⟩,
    ⟨some 54, none, ⟨[], []⟩, .mov (.t 12)⟩,
    ⟨some 55, none, ⟨[], []⟩, .mov (.t 2)⟩,
    ⟨some 56, none, ⟨[], []⟩, .bin 0 .mul (.t 54) (.t 55)⟩,
    ⟨some 57, none, ⟨[], []⟩, .bin 0 .add (.t 53) (.t 56)⟩,
    ⟨some 58, none, ⟨[], []⟩, .mov (.t 13)⟩,
    ⟨some 59, none, ⟨[], []⟩, .idxS (.t 52) (.t 57) 1⟩,
    ⟨none, none, ⟨[], []⟩, .sto true 1 .i64 (.t 59) (.t 58)⟩] [12, 13, 49, 50, 51, 52, 53, 54, 55, 56, 57, 58, 59] []))) (.reg false [⟨some 60, none, ⟨[], []⟩, .bin 0 .add (.t 44) (.k (.int .i64 1))⟩,
    ⟨some 44, none, ⟨[], []⟩, .mov (.t 60)⟩] [60] [])))
def r68_3 : IR :=
  .seq (.reg false [⟨some 36, none, ⟨[], []⟩, .mov (.t 4)⟩,
    ⟨some 37, none, ⟨[], []⟩, .mov (.t 0)⟩,
    ⟨some 38, none, ⟨[], []⟩, .nilc (.t 37)⟩,
    ⟨some 39, none, ⟨[], []⟩, .fld (.t 38) 2⟩,
    ⟨some 40, none, ⟨[], []⟩, .ld false none 0 0 (.t 39)⟩,
    ⟨some 41, none, ⟨[], []⟩, .mov (.t 10)⟩,
    ⟨some 42, none, ⟨[], []⟩, .callv (some 4) 11 (.t 36) [.t 40, .t 41]⟩,
    ⟨some 43, none, ⟨[], []⟩, .len (.t 42)⟩,
    ⟨some 44, none, ⟨[], []⟩, .mov (.k (.int .i64 0))⟩] [4, 10, 17, 18, 36, 37, 38, 39, 40, 41] []) (.block 2 (.loop b68_2))
def ir68 : IR :=
  .seq (.reg false [⟨some 14, none, ⟨[], []⟩, .mov (.t 3)⟩,
    ⟨some 15, none, ⟨[], []⟩, .mks 10 (.int .i64 0) 8 (.t 14) (.t 14)⟩,
    ⟨some 10, none, ⟨[], []⟩, .mov (.t 15)⟩] [3, 14, 15] []) (.seq (.seq (.reg false [⟨some 16, none, ⟨[], []⟩, .mov (.t 10)⟩,
    ⟨some 17, none, ⟨[], []⟩, .len (.t 16)⟩,
    ⟨some 18, none, ⟨[], []⟩, .mov (.k (.int .i64 0))⟩] [16] []) (.block 0 (.loop b68_1))) (r68_3))
def kp68_1 : List Nat := [0, 1, 2, 4, 10, 17, 18]
def kl68_1 : List Nat := []
attribute [push_cast] kp68_1 kl68_1
def kp68_2 : List Nat := [0, 1, 2, 42, 43, 44]
def kl68_2 : List Nat := []
attribute [push_cast] kp68_2 kl68_2
set_option maxRecDepth 4000 in
theorem comp68 : (Try.f68.body.bind fun c => compC tab isP chkAll ir68 c) = some ir68 := by kernel_rfl
def alS (res ws : List Int) (a b : Int) : Nat → List Int
  | 0 => ws
  | i + 1 => (alS res ws a b i).set (a + i * b).toNat (rd res i)
theorem alS_length (res ws : List Int) (a b : Int) : ∀ i, (alS res ws a b i).length = ws.length
  | 0 => rfl
  | i + 1 => by simp only [alS, List.length_set, alS_length res ws a b i]
structure AlA where
  F : Xf.Loc
  LP : Xf.Loc
  w : Int
  kind : Int
  ws : List Int
  a : Int
  b : Int
  n : Nat
def alG (ws : List Int) (a b : Int) : Nat → Int := fun k => rd ws (a + k * b)
theorem alG_in {ws : List Int} {a b : Int} {n : Nat} {B : Int} (h : AllIn (-B) B ws) (h0 : 0 ≤ B) : AllIn (-B) B (tabl n (alG ws a b)) := by
  rw [allIn_rd]
  intro j hj
  rw [tabl_length] at hj
  rw [rd_tabl hj]
  exact rd_bd h (by omega) h0 _
def fs68f : FS where
  A := AlA
  args := fun a => [.ptr 0 a.F 0 0 0, .int .i64 a.a, .int .i64 a.b, .int .i64 a.n, .fn 38 []]
  mem := fun a => [some (.ro, a.F, .cells [.int .i64 a.w, .sl 1 a.LP 1 0 a.ws.length, .int .i64 a.kind]), some (.lent, a.LP, .ints .i64 a.ws)]
  pre := fun a => (a.kind = 0 ∨ a.kind = 1) ∧ a.ws.length ≤ 8192 ∧ 0 ≤ a.a ∧ 0 ≤ a.b ∧ a.b ≤ 200 ∧ a.n ≤ 200 ∧ (∀ i : Nat, i < a.n → a.a + i * a.b < a.ws.length) ∧ AllIn (-1073741824) 1073741824 a.ws
  res := fun a x => .tup []
  out := fun a _ => [none, some (some (.ints .i64 (alS (lineL a.kind a.n (fun j => rd (tabl a.n (alG a.ws a.a a.b)) j)) a.ws a.a a.b a.n)))]
  new := fun _ _ => []
def inv68f : List SV → Look → Option (AlA × List Nat)
  | [.ptr c _ _ _ _, .int .i64 a, .int .i64 b, .int .i64 n, .fn 38 []], look => match rowC (look c) with
    | some (F, [.int .i64 w, .sl c1 _ 1 0 _, .int .i64 kind]) => match rowI (look c1) with
      | some (LP, .i64, ws) => some (⟨F, LP, w, kind, ws, a, b, n.toNat⟩, [c, c1])
      | _ => none
    | _ => none
  | _, _ => none
attribute [push_cast] inv68f
theorem ok68f : FSOk Try.prog 68 fs68f := by
  refine ⟨⟨_, Try.func68, by kernel_rfl, by kernel_rfl⟩, fun a => ⟨by simp [fs68f, push_cast, noMine, argOwn, Chunk.frArg], by simp [fs68f, push_cast, outOk, Chunk.ext], fun x => .inl (by simp [fs68f, push_cast, frNew, frOut, Chunk.fr])⟩, fun a hp => ?_⟩
  obtain ⟨F, LP, w, kind, ws, a, b, n⟩ := a
  obtain ⟨hk, h1, h2, h3, h4, h5, h6, h7⟩ : (kind = 0 ∨ kind = 1) ∧ ws.length ≤ 8192 ∧ 0 ≤ a ∧ 0 ≤ b ∧ b ≤ 200 ∧ n ≤ 200 ∧ (∀ i : Nat, i < n → a + i * b < ws.length) ∧ AllIn (-1073741824) 1073741824 ws := hp
  change Tri Try.prog 68 [.ptr 0 F 0 0 0, .int .i64 a, .int .i64 b, .int .i64 n, .fn 38 []] [some (.ro, F, .cells [.int .i64 w, .sl 1 LP 1 0 ws.length, .int .i64 kind]), some (.lent, LP, .ints .i64 ws)] (postF fs68f ⟨F, LP, w, kind, ws, a, b, n⟩)
  obtain ⟨g, hg⟩ : ∃ g, alG ws a b = g := ⟨_, rfl⟩
  have hgk : ∀ k : Nat, rd ws (a + k * b) = g k := fun k => by rw [← hg]; rfl
  have hin := alG_in (a := a) (b := b) (n := n) h7 (by omega)
  rw [hg] at hin
  obtain ⟨R, hR⟩ : ∃ R, lineL kind n (fun j => rd (tabl n g) j) = R := ⟨_, rfl⟩
  refine tri_evS (hyp (l := [(38, ent38)]) (lp := []) ⟨e38, trivial⟩ trivial) Try.func68 comp68 (rs := []) (by rfl) Try.ntmps68 15 ?_
  simp -implicitDefEqProofs only [push_cast, false_implies, reduceCtorEq, Classical.not_not, Nat.reduceAdd, Nat.reduceSub, Nat.reduceMul, Nat.reduceLeDiff, Nat.reduceLT, Nat.reduceEqDiff, Nat.reduceBEq, Nat.reduceBNe, Int.reduceNeg, Int.reduceToNat, Bool.or_false, Bool.false_or, Bool.or_true, Bool.true_or, BEq.rfl, Bool.not_eq_true, Bool.not_eq_false, decide_eq_true_eq, not_true_eq_false, not_false_eq_true, ite_true, ite_false, List.append_nil, and_assoc, Nat.mul_zero, Nat.zero_mul, ir68]
  repeat (refine And.intro (by first | omega | trivial | (intros; omega)) ?_)
  intro X
  repeat (refine And.intro (by first | omega | trivial | (intros; omega)) ?_)
  refine evS_loopU (A := Nat) kp68_1 kl68_1 (fun i => [(18, .int .i64 i)]) (fun i => [(10, .mine, X 1 10, .ints .i64 (prt n i g))]) (fun i => i ≤ n) (fun i => n - i) 0 (by omega) (Sub.pt ?_) ?_
  · simp -implicitDefEqProofs only [push_cast, false_implies, reduceCtorEq, Classical.not_not, Nat.reduceAdd, Nat.reduceSub, Nat.reduceMul, Nat.reduceLeDiff, Nat.reduceLT, Nat.reduceEqDiff, Nat.reduceBEq, Nat.reduceBNe, Int.reduceNeg, Int.reduceToNat, Bool.or_false, Bool.false_or, Bool.or_true, Bool.true_or, BEq.rfl, Bool.not_eq_true, Bool.not_eq_false, decide_eq_true_eq, not_true_eq_false, not_false_eq_true, ite_true, ite_false, List.append_nil, and_assoc, Nat.mul_zero, Nat.zero_mul, prt_zero, Int.toNat_natCast]
  intro i (hi : i ≤ n) K hK
  simp -implicitDefEqProofs only [push_cast, false_implies, reduceCtorEq, Classical.not_not, Nat.reduceAdd, Nat.reduceSub, Nat.reduceMul, Nat.reduceLeDiff, Nat.reduceLT, Nat.reduceEqDiff, Nat.reduceBEq, Nat.reduceBNe, Int.reduceNeg, Int.reduceToNat, Bool.or_false, Bool.false_or, Bool.or_true, Bool.true_or, BEq.rfl, Bool.not_eq_true, Bool.not_eq_false, decide_eq_true_eq, not_true_eq_false, not_false_eq_true, ite_true, ite_false, List.append_nil, and_assoc, Nat.mul_zero, Nat.zero_mul, b68_1, r68_3, fs38]
  refine ⟨fun hl => ?_, fun hl => ?_⟩
  · have hi' : i < n := by omega
    have hib := mul_bd (a := (i : Int)) (b := b) (A := 200) (B := 200) (by omega) (by omega) h3 h4
    have hlt := h6 i hi'
    have lP := prt_length hi g
    have q : (prt n i g).set i (g i) = prt n (i + 1) g := prt_set hi' _
    repeat (refine And.intro (by first | omega | trivial | (intros; omega)) ?_)
    refine hK (i + 1) (by omega) (by omega) _ _ (Sub.pt ?_)
    simp -implicitDefEqProofs only [push_cast, false_implies, reduceCtorEq, Classical.not_not, Nat.reduceAdd, Nat.reduceSub, Nat.reduceMul, Nat.reduceLeDiff, Nat.reduceLT, Nat.reduceEqDiff, Nat.reduceBEq, Nat.reduceBNe, Int.reduceNeg, Int.reduceToNat, Bool.or_false, Bool.false_or, Bool.or_true, Bool.true_or, BEq.rfl, Bool.not_eq_true, Bool.not_eq_false, decide_eq_true_eq, not_true_eq_false, not_false_eq_true, ite_true, ite_false, List.append_nil, and_assoc, Nat.mul_zero, Nat.zero_mul, Int.toNat_natCast, hgk, q]
  · obtain rfl : i = n := by omega
    clear hK
    rw [prt_all]
    simp only [Int.toNat_natCast, tabl_length, hR]
    intro X1
    repeat (refine And.intro (by first | omega | trivial | (intros; omega)) ?_)
    have hRl : R.length = i := by rw [← hR, lineL_length]
    refine evS_loopU (A := Nat) kp68_2 kl68_2 (fun j => [(44, .int .i64 j)]) (fun j => [(1, .lent, LP, .ints .i64 (alS R ws a b j))]) (fun j => j ≤ i) (fun j => i - j) 0 (by omega) (Sub.pt ?_) ?_
    · simp -implicitDefEqProofs only [push_cast, false_implies, reduceCtorEq, Classical.not_not, Nat.reduceAdd, Nat.reduceSub, Nat.reduceMul, Nat.reduceLeDiff, Nat.reduceLT, Nat.reduceEqDiff, Nat.reduceBEq, Nat.reduceBNe, Int.reduceNeg, Int.reduceToNat, Bool.or_false, Bool.false_or, Bool.or_true, Bool.true_or, BEq.rfl, Bool.not_eq_true, Bool.not_eq_false, decide_eq_true_eq, not_true_eq_false, not_false_eq_true, ite_true, ite_false, List.append_nil, and_assoc, Nat.mul_zero, Nat.zero_mul, alS]
    intro j (hj : j ≤ i) K hK
    simp -implicitDefEqProofs only [push_cast, false_implies, reduceCtorEq, Classical.not_not, Nat.reduceAdd, Nat.reduceSub, Nat.reduceMul, Nat.reduceLeDiff, Nat.reduceLT, Nat.reduceEqDiff, Nat.reduceBEq, Nat.reduceBNe, Int.reduceNeg, Int.reduceToNat, Bool.or_false, Bool.false_or, Bool.or_true, Bool.true_or, BEq.rfl, Bool.not_eq_true, Bool.not_eq_false, decide_eq_true_eq, not_true_eq_false, not_false_eq_true, ite_true, ite_false, List.append_nil, and_assoc, Nat.mul_zero, Nat.zero_mul, b68_2]
    refine ⟨fun hl => ?_, fun hl => ?_⟩
    · have hj' : j < i := by omega
      have hib := mul_bd (a := (j : Int)) (b := b) (A := 200) (B := 200) (by omega) (by omega) h3 h4
      have hlt := h6 j hj'
      simp only [alS_length, hRl]
      repeat (refine And.intro (by first | omega | trivial | (intros; omega)) ?_)
      refine hK (j + 1) (by omega) (by omega) _ _ (Sub.pt ?_)
      simp -implicitDefEqProofs only [push_cast, false_implies, reduceCtorEq, Classical.not_not, Nat.reduceAdd, Nat.reduceSub, Nat.reduceMul, Nat.reduceLeDiff, Nat.reduceLT, Nat.reduceEqDiff, Nat.reduceBEq, Nat.reduceBNe, Int.reduceNeg, Int.reduceToNat, Bool.or_false, Bool.false_or, Bool.or_true, Bool.true_or, BEq.rfl, Bool.not_eq_true, Bool.not_eq_false, decide_eq_true_eq, not_true_eq_false, not_false_eq_true, ite_true, ite_false, List.append_nil, and_assoc, Nat.mul_zero, Nat.zero_mul, alS]
    · obtain rfl : j = i := by omega
      refine postF.mk' (fun _ => default) [some 0, some 1] ?_
      simp -implicitDefEqProofs only [push_cast, false_implies, reduceCtorEq, Classical.not_not, Nat.reduceAdd, Nat.reduceSub, Nat.reduceMul, Nat.reduceLeDiff, Nat.reduceLT, Nat.reduceEqDiff, Nat.reduceBEq, Nat.reduceBNe, Int.reduceNeg, Int.reduceToNat, Bool.or_false, Bool.false_or, Bool.or_true, Bool.true_or, BEq.rfl, Bool.not_eq_true, Bool.not_eq_false, decide_eq_true_eq, not_true_eq_false, not_false_eq_true, ite_true, ite_false, List.append_nil, and_assoc, Nat.mul_zero, Nat.zero_mul, fs68f, hg, hR]
def ent68f : Entry := spOf fs68f inv68f
theorem e68f : EntryOk Try.prog 68 ent68f := entry_of ok68f inv68f
@[push_cast] theorem ent68f_app (us : List SV) (look : Look) (x : Nat → Xf.Loc) (k : Nat) : ent68f us look x k = spOf fs68f inv68f us look x k := rfl
def fs68u : FS where
  A := AlA
  args := fun a => [.ptr 0 a.F 0 0 0, .int .i64 a.a, .int .i64 a.b, .int .i64 a.n, .fn 39 []]
  mem := fun a => [some (.ro, a.F, .cells [.int .i64 a.w, .sl 1 a.LP 1 0 a.ws.length, .int .i64 a.kind]), some (.lent, a.LP, .ints .i64 a.ws)]
  pre := fun a => (a.kind = 0 ∨ a.kind = 1) ∧ a.ws.length ≤ 8192 ∧ 0 ≤ a.a ∧ 0 ≤ a.b ∧ a.b ≤ 200 ∧ a.n ≤ 200 ∧ (∀ i : Nat, i < a.n → a.a + i * a.b < a.ws.length) ∧ AllIn (-1125899906842624) 1125899906842624 a.ws
  res := fun a x => .tup []
  out := fun a _ => [none, some (some (.ints .i64 (alS (unL a.kind a.n (fun j => rd (tabl a.n (alG a.ws a.a a.b)) j)) a.ws a.a a.b a.n)))]
  new := fun _ _ => []
def inv68u : List SV → Look → Option (AlA × List Nat)
  | [.ptr c _ _ _ _, .int .i64 a, .int .i64 b, .int .i64 n, .fn 39 []], look => match rowC (look c) with
    | some (F, [.int .i64 w, .sl c1 _ 1 0 _, .int .i64 kind]) => match rowI (look c1) with
      | some (LP, .i64, ws) => some (⟨F, LP, w, kind, ws, a, b, n.toNat⟩, [c, c1])
      | _ => none
    | _ => none
  | _, _ => none
attribute [push_cast] inv68u
theorem ok68u : FSOk Try.prog 68 fs68u := by
  refine ⟨⟨_, Try.func68, by kernel_rfl, by kernel_rfl⟩, fun a => ⟨by simp [fs68u, push_cast, noMine, argOwn, Chunk.frArg], by simp [fs68u, push_cast, outOk, Chunk.ext], fun x => .inl (by simp [fs68u, push_cast, frNew, frOut, Chunk.fr])⟩, fun a hp => ?_⟩
  obtain ⟨F, LP, w, kind, ws, a, b, n⟩ := a
  obtain ⟨hk, h1, h2, h3, h4, h5, h6, h7⟩ : (kind = 0 ∨ kind = 1) ∧ ws.length ≤ 8192 ∧ 0 ≤ a ∧ 0 ≤ b ∧ b ≤ 200 ∧ n ≤ 200 ∧ (∀ i : Nat, i < n → a + i * b < ws.length) ∧ AllIn (-1125899906842624) 1125899906842624 ws := hp
  change Tri Try.prog 68 [.ptr 0 F 0 0 0, .int .i64 a, .int .i64 b, .int .i64 n, .fn 39 []] [some (.ro, F, .cells [.int .i64 w, .sl 1 LP 1 0 ws.length, .int .i64 kind]), some (.lent, LP, .ints .i64 ws)] (postF fs68u ⟨F, LP, w, kind, ws, a, b, n⟩)
  obtain ⟨g, hg⟩ : ∃ g, alG ws a b = g := ⟨_, rfl⟩
  have hgk : ∀ k : Nat, rd ws (a + k * b) = g k := fun k => by rw [← hg]; rfl
  have hin := alG_in (a := a) (b := b) (n := n) h7 (by omega)
  rw [hg] at hin
  obtain ⟨R, hR⟩ : ∃ R, unL kind n (fun j => rd (tabl n g) j) = R := ⟨_, rfl⟩
  refine tri_evS (hyp (l := [(39, ent39)]) (lp := []) ⟨e39, trivial⟩ trivial) Try.func68 comp68 (rs := []) (by rfl) Try.ntmps68 15 ?_
  simp -implicitDefEqProofs only [push_cast, false_implies, reduceCtorEq, Classical.not_not, Nat.reduceAdd, Nat.reduceSub, Nat.reduceMul, Nat.reduceLeDiff, Nat.reduceLT, Nat.reduceEqDiff, Nat.reduceBEq, Nat.reduceBNe, Int.reduceNeg, Int.reduceToNat, Bool.or_false, Bool.false_or, Bool.or_true, Bool.true_or, BEq.rfl, Bool.not_eq_true, Bool.not_eq_false, decide_eq_true_eq, not_true_eq_false, not_false_eq_true, ite_true, ite_false, List.append_nil, and_assoc, Nat.mul_zero, Nat.zero_mul, ir68]
  repeat (refine And.intro (by first | omega | trivial | (intros; omega)) ?_)
  intro X
  repeat (refine And.intro (by first | omega | trivial | (intros; omega)) ?_)
  refine evS_loopU (A := Nat) kp68_1 kl68_1 (fun i => [(18, .int .i64 i)]) (fun i => [(10, .mine, X 1 10, .ints .i64 (prt n i g))]) (fun i => i ≤ n) (fun i => n - i) 0 (by omega) (Sub.pt ?_) ?_
  · simp -implicitDefEqProofs only [push_cast, false_implies, reduceCtorEq, Classical.not_not, Nat.reduceAdd, Nat.reduceSub, Nat.reduceMul, Nat.reduceLeDiff, Nat.reduceLT, Nat.reduceEqDiff, Nat.reduceBEq, Nat.reduceBNe, Int.reduceNeg, Int.reduceToNat, Bool.or_false, Bool.false_or, Bool.or_true, Bool.true_or, BEq.rfl, Bool.not_eq_true, Bool.not_eq_false, decide_eq_true_eq, not_true_eq_false, not_false_eq_true, ite_true, ite_false, List.append_nil, and_assoc, Nat.mul_zero, Nat.zero_mul, prt_zero, Int.toNat_natCast]
  intro i (hi : i ≤ n) K hK
  simp -implicitDefEqProofs only [push_cast, false_implies, reduceCtorEq, Classical.not_not, Nat.reduceAdd, Nat.reduceSub, Nat.reduceMul, Nat.reduceLeDiff, Nat.reduceLT, Nat.reduceEqDiff, Nat.reduceBEq, Nat.reduceBNe, Int.reduceNeg, Int.reduceToNat, Bool.or_false, Bool.false_or, Bool.or_true, Bool.true_or, BEq.rfl, Bool.not_eq_true, Bool.not_eq_false, decide_eq_true_eq, not_true_eq_false, not_false_eq_true, ite_true, ite_false, List.append_nil, and_assoc, Nat.mul_zero, Nat.zero_mul, b68_1, r68_3, fs39]
  refine ⟨fun hl => ?_, fun hl => ?_⟩
  · have hi' : i < n := by omega
    have hib := mul_bd (a := (i : Int)) (b := b) (A := 200) (B := 200) (by omega) (by omega) h3 h4
    have hlt := h6 i hi'
    have lP := prt_length hi g
    have q : (prt n i g).set i (g i) = prt n (i + 1) g := prt_set hi' _
    repeat (refine And.intro (by first | omega | trivial | (intros; omega)) ?_)
    refine hK (i + 1) (by omega) (by omega) _ _ (Sub.pt ?_)
    simp -implicitDefEqProofs only [push_cast, false_implies, reduceCtorEq, Classical.not_not, Nat.reduceAdd, Nat.reduceSub, Nat.reduceMul, Nat.reduceLeDiff, Nat.reduceLT, Nat.reduceEqDiff, Nat.reduceBEq, Nat.reduceBNe, Int.reduceNeg, Int.reduceToNat, Bool.or_false, Bool.false_or, Bool.or_true, Bool.true_or, BEq.rfl, Bool.not_eq_true, Bool.not_eq_false, decide_eq_true_eq, not_true_eq_false, not_false_eq_true, ite_true, ite_false, List.append_nil, and_assoc, Nat.mul_zero, Nat.zero_mul, Int.toNat_natCast, hgk, q]
  · obtain rfl : i = n := by omega
    clear hK
    rw [prt_all]
    simp only [Int.toNat_natCast, tabl_length, hR]
    intro X1
    repeat (refine And.intro (by first | omega | trivial | (intros; omega)) ?_)
    have hRl : R.length = i := by rw [← hR, unL_length]
    refine evS_loopU (A := Nat) kp68_2 kl68_2 (fun j => [(44, .int .i64 j)]) (fun j => [(1, .lent, LP, .ints .i64 (alS R ws a b j))]) (fun j => j ≤ i) (fun j => i - j) 0 (by omega) (Sub.pt ?_) ?_
    · simp -implicitDefEqProofs only [push_cast, false_implies, reduceCtorEq, Classical.not_not, Nat.reduceAdd, Nat.reduceSub, Nat.reduceMul, Nat.reduceLeDiff, Nat.reduceLT, Nat.reduceEqDiff, Nat.reduceBEq, Nat.reduceBNe, Int.reduceNeg, Int.reduceToNat, Bool.or_false, Bool.false_or, Bool.or_true, Bool.true_or, BEq.rfl, Bool.not_eq_true, Bool.not_eq_false, decide_eq_true_eq, not_true_eq_false, not_false_eq_true, ite_true, ite_false, List.append_nil, and_assoc, Nat.mul_zero, Nat.zero_mul, alS]
    intro j (hj : j ≤ i) K hK
    simp -implicitDefEqProofs only [push_cast, false_implies, reduceCtorEq, Classical.not_not, Nat.reduceAdd, Nat.reduceSub, Nat.reduceMul, Nat.reduceLeDiff, Nat.reduceLT, Nat.reduceEqDiff, Nat.reduceBEq, Nat.reduceBNe, Int.reduceNeg, Int.reduceToNat, Bool.or_false, Bool.false_or, Bool.or_true, Bool.true_or, BEq.rfl, Bool.not_eq_true, Bool.not_eq_false, decide_eq_true_eq, not_true_eq_false, not_false_eq_true, ite_true, ite_false, List.append_nil, and_assoc, Nat.mul_zero, Nat.zero_mul, b68_2]
    refine ⟨fun hl => ?_, fun hl => ?_⟩
    · have hj' : j < i := by omega
      have hib := mul_bd (a := (j : Int)) (b := b) (A := 200) (B := 200) (by omega) (by omega) h3 h4
      have hlt := h6 j hj'
      simp only [alS_length, hRl]
      repeat (refine And.intro (by first | omega | trivial | (intros; omega)) ?_)
      refine hK (j + 1) (by omega) (by omega) _ _ (Sub.pt ?_)
      simp -implicitDefEqProofs only [push_cast, false_implies, reduceCtorEq, Classical.not_not, Nat.reduceAdd, Nat.reduceSub, Nat.reduceMul, Nat.reduceLeDiff, Nat.reduceLT, Nat.reduceEqDiff, Nat.reduceBEq, Nat.reduceBNe, Int.reduceNeg, Int.reduceToNat, Bool.or_false, Bool.false_or, Bool.or_true, Bool.true_or, BEq.rfl, Bool.not_eq_true, Bool.not_eq_false, decide_eq_true_eq, not_true_eq_false, not_false_eq_true, ite_true, ite_false, List.append_nil, and_assoc, Nat.mul_zero, Nat.zero_mul, alS]
    · obtain rfl : j = i := by omega
      refine postF.mk' (fun _ => default) [some 0, some 1] ?_
      simp -implicitDefEqProofs only [push_cast, false_implies, reduceCtorEq, Classical.not_not, Nat.reduceAdd, Nat.reduceSub, Nat.reduceMul, Nat.reduceLeDiff, Nat.reduceLT, Nat.reduceEqDiff, Nat.reduceBEq, Nat.reduceBNe, Int.reduceNeg, Int.reduceToNat, Bool.or_false, Bool.false_or, Bool.or_true, Bool.true_or, BEq.rfl, Bool.not_eq_true, Bool.not_eq_false, decide_eq_true_eq, not_true_eq_false, not_false_eq_true, ite_true, ite_false, List.append_nil, and_assoc, Nat.mul_zero, Nat.zero_mul, fs68u, hg, hR]
def ent68u : Entry := spOf fs68u inv68u
theorem e68u : EntryOk Try.prog 68 ent68u := entry_of ok68u inv68u
@[push_cast] theorem ent68u_app (us : List SV) (look : Look) (x : Nat → Xf.Loc) (k : Nat) : ent68u us look x k = spOf fs68u inv68u us look x k := rfl
theorem rd_set_nat {xs : List Int} {i : Nat} (v : Int) (k : Nat) : rd (xs.set i v) (k : Int) = if i = k ∧ k < xs.length then v else rd xs (k : Int) := by
  unfold rd
  simp only [Int.toNat_natCast, List.getD_eq_getElem?_getD, List.getElem?_set]
  by_cases e : i = k
  · subst e
    by_cases h : i < xs.length
    · simp [h]
    · simp [h]
  · simp [e]
theorem alS_miss {res ws : List Int} {a b : Int} {k : Nat} : ∀ {n : Nat}, (∀ i : Nat, i < n → (a + i * b).toNat ≠ k) → rd (alS res ws a b n) (k : Int) = rd ws (k : Int)
  | 0, _ => rfl
  | n + 1, h => by
    rw [alS, rd_set_nat, if_neg (fun e => h n (by omega) e.1), alS_miss fun i hi => h i (by omega)]
theorem alS_hit {res ws : List Int} {a b : Int} (ha : 0 ≤ a) (hb : 1 ≤ b) {i : Nat} (hl : (a + i * b).toNat < ws.length) : ∀ {n : Nat}, i < n → rd (alS res ws a b n) (((a + i * b).toNat : Nat) : Int) = rd res i
  | 0, h => by omega
  | n + 1, h => by
    rw [alS, rd_set_nat, alS_length]
    by_cases e : i = n
    · subst e; rw [if_pos ⟨rfl, hl⟩]
    · rw [if_neg, alS_hit ha hb hl (by omega)]
      rintro ⟨q, _⟩
      have h1 : (0 : Int) ≤ i * b := Int.mul_nonneg (by omega) (by omega)
      have h2 : ((i : Int) + 1) * b ≤ n * b := Int.mul_le_mul_of_nonneg_right (by omega) (by omega)
      rw [Int.add_mul] at h2
      omega
abbrev LT := Int → Nat → (Int → Int) → List Int
/-- The numbers of a row or column, as a line. -/
def rowF (ws : List Int) (a b : Int) (n : Nat) : Int → Int := fun j => rd (tabl n (alG ws a b)) j
def alL (T : LT) (kind : Int) (ws : List Int) (a b : Int) (n : Nat) : List Int := alS (T kind n (rowF ws a b n)) ws a b n
theorem alL_length (T : LT) (kind : Int) (ws : List Int) (a b : Int) (n : Nat) : (alL T kind ws a b n).length = ws.length := alS_length ..
theorem rowF_congr {ws vs : List Int} {a b : Int} {n : Nat} (h : ∀ i : Nat, i < n → rd ws (a + i * b) = rd vs (a + i * b)) : rowF ws a b n = rowF vs a b n := by
  unfold rowF
  rw [tabl_congr (f := alG ws a b) (g := alG vs a b) fun j hj => h j hj]
theorem rowF_at {ws : List Int} {a b : Int} {n j : Nat} (h : j < n) : rowF ws a b n j = rd ws (a + j * b) := by
  unfold rowF; rw [rd_tabl h]; rfl
theorem rowF_bd {ws : List Int} {a b : Int} {n : Nat} {B : Int} (h : AllIn (-B) B ws) (h0 : 0 ≤ B) : BdF B (rowF ws a b n) := BdF.rd0 (alG_in h h0) h0
structure Trn (T : LT) : Prop where
  len : ∀ k n f, (T k n f).length = n
  bd : ∀ k n f B, BdF B f → 0 ≤ B → AllIn (-(3 * B + 1)) (3 * B + 1) (T k n f)
  congr : ∀ k (n : Nat) f g, (∀ j : Nat, j < n → f j = g j) → T k n f = T k n g
theorem lineL_congr (kind : Int) (n : Nat) (f g : Int → Int) (h : ∀ j : Nat, j < n → f j = g j) : lineL kind n f = lineL kind n g := by
  have h1 : hiL kind n f = hiL kind n g := by
    unfold hiL
    refine tabl_congr fun j hj => ?_
    have e0 := h (2 * j) (by omega)
    have e1 := h (2 * j + 1) (by omega)
    simp only [Int.natCast_add, Int.natCast_mul, Int.cast_ofNat_Int] at e0 e1
    unfold hiF nxt
    rw [e0, e1]
    by_cases c : 2 * (j : Int) + 2 < n
    · have e2 := h (2 * j + 2) (by omega)
      simp only [Int.natCast_add, Int.natCast_mul, Int.cast_ofNat_Int] at e2
      rw [e2]
    · rw [if_neg c, if_neg c]
  unfold lineL
  rw [h1]
  congr 1
  refine tabl_congr fun j hj => ?_
  have e0 := h (2 * j) (by omega)
  simp only [Int.natCast_mul, Int.cast_ofNat_Int] at e0
  unfold loF
  rw [h1, e0]
theorem evF_congr {kind : Int} {n : Nat} {f g : Int → Int} (h : ∀ j : Nat, j < n → f j = g j) {i : Nat} (hi : i < n - n / 2) : evF kind n f i = evF kind n g i := by
  unfold evF
  rw [h i (by omega)]
  rw [liftG_congr (g' := fun j => g ((n : Int) - (n / 2 : Nat) + j)) ?_ (by omega) (by omega) (by omega)]
  intro j h0 h1
  have := h (n - n / 2 + j.toNat) (by omega)
  rw [show ((n - n / 2 + j.toNat : Nat) : Int) = (n : Int) - (n / 2 : Nat) + j by omega] at this
  exact this
theorem unL_congr (kind : Int) (n : Nat) (f g : Int → Int) (h : ∀ j : Nat, j < n → f j = g j) : unL kind n f = unL kind n g := by
  unfold unL
  refine tabl_congr fun k hk => ?_
  unfold unF2
  by_cases c : k % 2 = 0
  · rw [if_pos c, if_pos c, evF_congr h (by omega)]
  · rw [if_neg c, if_neg c]
    by_cases d : k / 2 < n / 2
    · rw [if_pos d, if_pos d]
      have e1 := h (n - n / 2 + k / 2) (by omega)
      rw [show ((n - n / 2 + k / 2 : Nat) : Int) = (n : Int) - (n / 2 : Nat) + (k / 2 : Nat) by omega] at e1
      unfold odF
      rw [e1, evF_congr h (by omega)]
      by_cases q : 2 * (k / 2) + 2 < n
      · rw [if_pos q, if_pos q, evF_congr h (by omega)]
      · rw [if_neg q, if_neg q]
    · rw [if_neg d, if_neg d]
theorem trn_line : Trn lineL := ⟨lineL_length, fun k n f B h h0 => line_bd h h0, lineL_congr⟩
theorem trn_unline : Trn unL := by
  refine ⟨unL_length, fun k n f B h h0 => ?_, unL_congr⟩
  rw [allIn_rd]
  intro j hj
  rw [unL_length] at hj
  unfold unL
  rw [rd_tabl hj]
  have key : ∀ i : Nat, -(2 * B + 1) ≤ evF k n f i ∧ evF k n f i ≤ 2 * B + 1 := evF_bd h h0
  unfold unF2
  have k1 := key (j / 2)
  have k2 := key (j / 2 + 1)
  have k3 := h ((n : Int) - (n / 2 : Nat) + (j / 2 : Nat))
  split
  · omega
  · split
    · unfold odF
      split
      · omega
      · split <;> omega
    · omega
def rwL (T : LT) (kind : Int) (W : Nat) (w : Nat) (ws : List Int) : Nat → List Int
  | 0 => ws
  | y + 1 => alL T kind (rwL T kind W w ws y) ((y : Int) * W) 1 w
def clL (T : LT) (kind : Int) (W : Nat) (h : Nat) (ws : List Int) : Nat → List Int
  | 0 => ws
  | x + 1 => alL T kind (clL T kind W h ws x) x W h
theorem rwL_length (T : LT) (kind : Int) (W w : Nat) (ws : List Int) : ∀ m, (rwL T kind W w ws m).length = ws.length
  | 0 => rfl
  | m + 1 => by rw [rwL, alL_length, rwL_length T kind W w ws m]
theorem clL_length (T : LT) (kind : Int) (W h : Nat) (ws : List Int) : ∀ m, (clL T kind W h ws m).length = ws.length
  | 0 => rfl
  | m + 1 => by rw [clL, alL_length, clL_length T kind W h ws m]
/-- Where a number stands: row and column. -/
theorem place {W k : Nat} : k = k / W * W + k % W := by
  have := Nat.div_add_mod k W
  rw [Nat.mul_comm] at this; exact this.symm
theorem row_le {W k m : Nat} (h : k / W < m) (h2 : k % W < W) : k < m * W := by
  have e := place (W := W) (k := k)
  have : (k / W + 1) * W ≤ m * W := Nat.mul_le_mul_right _ h
  rw [Nat.add_mul] at this
  omega
theorem rwL_at {T : LT} (hT : Trn T) {kind : Int} {W w : Nat} (hw : w ≤ W) (ws : List Int) : ∀ (m : Nat), m * W ≤ ws.length → ∀ k : Nat,
    rd (rwL T kind W w ws m) (k : Int) = if k / W < m ∧ k % W < w then rd (T kind w (rowF ws (((k / W * W : Nat)) : Int) 1 w)) ((k % W : Nat) : Int) else rd ws (k : Int)
  | 0, _, k => by rw [if_neg (fun q => absurd q.1 (Nat.not_lt_zero _))]; rfl
  | m + 1, hm, k => by
    have hm' : m * W + W ≤ ws.length := by rw [Nat.add_mul] at hm; omega
    have ih := rwL_at hT (kind := kind) hw ws m (by omega)
    have eR : rowF (rwL T kind W w ws m) ((m : Int) * W) 1 w = rowF ws ((m * W : Nat) : Int) 1 w := by
      have ec : ((m * W : Nat) : Int) = (m : Int) * W := by simp
      rw [ec]
      refine rowF_congr fun i hi => ?_
      have e : (m : Int) * W + i * 1 = ((m * W + i : Nat) : Int) := by simp
      rw [e, ih, if_neg]
      rintro ⟨q, _⟩
      have : (m * W + i) / W = m := by
        rw [Nat.mul_comm, Nat.mul_add_div (by omega), Nat.div_eq_of_lt (by omega), Nat.add_zero]
      omega
    rw [rwL, alL, eR]
    by_cases hh : k / W = m ∧ k % W < w
    · obtain ⟨h1, h2⟩ := hh
      have ep := place (W := W) (k := k)
      rw [h1] at ep
      have e : ((m : Int) * W + ((k % W : Nat) : Int) * 1).toNat = k := by
        have : ((m * W : Nat) : Int) = (m : Int) * W := by simp
        omega
      have hkl : k < ws.length := by omega
      have hp : (0 : Int) ≤ (m : Int) * W := Int.mul_nonneg (by omega) (by omega)
      have := alS_hit (res := T kind w (rowF ws ((m * W : Nat) : Int) 1 w)) (ws := rwL T kind W w ws m) (a := (m : Int) * W) (b := 1) hp (by omega) (i := k % W) (by rw [e, rwL_length]; exact hkl) (n := w) h2
      rw [e] at this
      rw [this, if_pos ⟨by omega, h2⟩, h1]
    · rw [alS_miss, ih]
      · by_cases c : k / W < m ∧ k % W < w
        · rw [if_pos c, if_pos ⟨by omega, c.2⟩]
        · rw [if_neg c, if_neg]
          rintro ⟨q1, q2⟩
          by_cases e : k / W = m
          · exact hh ⟨e, q2⟩
          · exact c ⟨by omega, q2⟩
      · intro i hi e
        have : ((m * W : Nat) : Int) = (m : Int) * W := by simp
        have ek : k = m * W + i := by omega
        apply hh
        have hd : (m * W + i) / W = m := by
          rw [Nat.mul_comm, Nat.mul_add_div (by omega), Nat.div_eq_of_lt (by omega), Nat.add_zero]
        have hr : (m * W + i) % W = i := by
          rw [Nat.mul_comm, Nat.mul_add_mod, Nat.mod_eq_of_lt (by omega)]
        rw [ek]
        exact ⟨hd, by omega⟩
theorem clL_at {T : LT} (hT : Trn T) {kind : Int} {W h : Nat} (ws : List Int) (hh : h * W ≤ ws.length) : ∀ (m : Nat), m ≤ W → ∀ k : Nat,
    rd (clL T kind W h ws m) (k : Int) = if k % W < m ∧ k / W < h then rd (T kind h (rowF ws ((k % W : Nat) : Int) W h)) ((k / W : Nat) : Int) else rd ws (k : Int)
  | 0, _, k => by rw [if_neg (fun q => absurd q.1 (Nat.not_lt_zero _))]; rfl
  | m + 1, hm, k => by
    have ih := clL_at hT (kind := kind) ws hh m (by omega)
    have hd : ∀ i : Nat, (m + i * W) / W = i ∧ (m + i * W) % W = m := fun i => by
      rw [Nat.add_mul_div_right _ _ (by omega), Nat.div_eq_of_lt (by omega), Nat.zero_add, Nat.add_mul_mod_self_right, Nat.mod_eq_of_lt (by omega)]
      exact ⟨rfl, rfl⟩
    have eR : rowF (clL T kind W h ws m) (m : Int) W h = rowF ws ((m : Nat) : Int) W h := by
      refine rowF_congr fun i hi => ?_
      have e : (m : Int) + i * W = ((m + i * W : Nat) : Int) := by simp
      rw [e, ih, if_neg]
      rintro ⟨q, _⟩
      rw [(hd i).2] at q
      omega
    rw [clL, alL, eR]
    by_cases hc : k % W = m ∧ k / W < h
    · obtain ⟨h1, h2⟩ := hc
      have ep := place (W := W) (k := k)
      rw [h1] at ep
      have e : ((m : Int) + ((k / W : Nat) : Int) * W).toNat = k := by
        have : ((k / W * W : Nat) : Int) = ((k / W : Nat) : Int) * W := by simp
        omega
      have hkl : k < ws.length := Nat.lt_of_lt_of_le (row_le h2 (by omega)) hh
      have := alS_hit (res := T kind h (rowF ws ((m : Nat) : Int) W h)) (ws := clL T kind W h ws m) (a := (m : Int)) (b := W) (by omega) (by omega) (i := k / W) (by rw [e, clL_length]; exact hkl) (n := h) h2
      rw [e] at this
      rw [this, if_pos ⟨by omega, h2⟩, h1]
    · rw [alS_miss, ih]
      · by_cases c : k % W < m ∧ k / W < h
        · rw [if_pos c, if_pos ⟨by omega, c.2⟩]
        · rw [if_neg c, if_neg]
          rintro ⟨q1, q2⟩
          by_cases e : k % W = m
          · exact hc ⟨e, q2⟩
          · exact c ⟨by omega, q2⟩
      · intro i hi e
        have ek : k = m + i * W := by
          have : ((i * W : Nat) : Int) = (i : Int) * W := by simp
          omega
        apply hc
        rw [ek]
        exact ⟨(hd i).2, by rw [(hd i).1]; exact hi⟩
theorem rwL_bd {T : LT} (hT : Trn T) {kind : Int} {W w : Nat} (hw : w ≤ W) {ws : List Int} {m : Nat} (hm : m * W ≤ ws.length) {B : Int} (hB : AllIn (-B) B ws) (h0 : 0 ≤ B) : AllIn (-(3 * B + 1)) (3 * B + 1) (rwL T kind W w ws m) := by
  rw [allIn_rd]
  intro k hk
  rw [rwL_at hT hw ws m hm]
  split
  · exact rd_bd (hT.bd _ _ _ B (rowF_bd hB h0) h0) (by omega) (by omega) _
  · have := rd_bd hB (by omega) h0 (k : Int); omega
theorem clL_bd {T : LT} (hT : Trn T) {kind : Int} {W h : Nat} {ws : List Int} (hh : h * W ≤ ws.length) {m : Nat} (hm : m ≤ W) {B : Int} (hB : AllIn (-B) B ws) (h0 : 0 ≤ B) : AllIn (-(3 * B + 1)) (3 * B + 1) (clL T kind W h ws m) := by
  rw [allIn_rd]
  intro k hk
  rw [clL_at hT ws hh m hm]
  split
  · exact rd_bd (hT.bd _ _ _ B (rowF_bd hB h0) h0) (by omega) (by omega) _
  · have := rd_bd hB (by omega) h0 (k : Int); omega
/-- A level forward; one back. -/
def stF (T : LT) (kind : Int) (W : Nat) (ws : List Int) (w h : Nat) : List Int := clL T kind W h (rwL T kind W w ws h) w
def stI (T : LT) (kind : Int) (W : Nat) (ws : List Int) (w h : Nat) : List Int := rwL T kind W w (clL T kind W h ws w) h
def hlf (w : Nat) : Nat → Nat
  | 0 => w
  | i + 1 => (hlf w i + 1) / 2
theorem hlf_le (w : Nat) : ∀ i, hlf w i ≤ w
  | 0 => Nat.le_refl _
  | i + 1 => by have := hlf_le w i; simp only [hlf]; omega
def fwd (T : LT) (kind : Int) (W h : Nat) (ws : List Int) : Nat → List Int
  | 0 => ws
  | i + 1 => stF T kind W (fwd T kind W h ws i) (hlf W i) (hlf h i)
def bwd (T : LT) (kind : Int) (W h n : Nat) (ws : List Int) : Nat → List Int
  | 0 => ws
  | i + 1 => stI T kind W (bwd T kind W h n ws i) (hlf W (n - 1 - i)) (hlf h (n - 1 - i))
theorem stF_length (T : LT) (kind : Int) (W : Nat) (ws : List Int) (w h : Nat) : (stF T kind W ws w h).length = ws.length := by rw [stF, clL_length, rwL_length]
theorem stI_length (T : LT) (kind : Int) (W : Nat) (ws : List Int) (w h : Nat) : (stI T kind W ws w h).length = ws.length := by rw [stI, rwL_length, clL_length]
theorem fwd_length (T : LT) (kind : Int) (W h : Nat) (ws : List Int) : ∀ i, (fwd T kind W h ws i).length = ws.length
  | 0 => rfl
  | i + 1 => by rw [fwd, stF_length, fwd_length T kind W h ws i]
theorem bwd_length (T : LT) (kind : Int) (W h n : Nat) (ws : List Int) : ∀ i, (bwd T kind W h n ws i).length = ws.length
  | 0 => rfl
  | i + 1 => by rw [bwd, stI_length, bwd_length T kind W h n ws i]
theorem stF_bd {T : LT} (hT : Trn T) {kind : Int} {W w h : Nat} (hw : w ≤ W) {ws : List Int} (hh : h * W ≤ ws.length) {B : Int} (hB : AllIn (-B) B ws) (h0 : 0 ≤ B) : AllIn (-(9 * B + 4)) (9 * B + 4) (stF T kind W ws w h) := by
  have h1 := clL_bd hT (kind := kind) (by rw [rwL_length]; exact hh) hw (rwL_bd hT (kind := kind) hw hh hB h0) (by omega)
  unfold stF
  rw [show 9 * B + 4 = 3 * (3 * B + 1) + 1 by omega]; exact h1
theorem stI_bd {T : LT} (hT : Trn T) {kind : Int} {W w h : Nat} (hw : w ≤ W) {ws : List Int} (hh : h * W ≤ ws.length) {B : Int} (hB : AllIn (-B) B ws) (h0 : 0 ≤ B) : AllIn (-(9 * B + 4)) (9 * B + 4) (stI T kind W ws w h) := by
  have h1 := rwL_bd hT (kind := kind) hw (by rw [clL_length]; exact hh) (clL_bd hT (kind := kind) hh hw hB h0) (by omega)
  unfold stI
  rw [show 9 * B + 4 = 3 * (3 * B + 1) + 1 by omega]; exact h1
def bnd (B : Int) : Nat → Int
  | 0 => B
  | i + 1 => 9 * bnd B i + 4
theorem bnd_pos {B : Int} (h : 0 ≤ B) : ∀ i, 0 ≤ bnd B i
  | 0 => h
  | i + 1 => by have := bnd_pos h i; simp only [bnd]; omega
theorem hh_len {W h n : Nat} (hn : h * W ≤ n) (i : Nat) : hlf h i * W ≤ n := Nat.le_trans (Nat.mul_le_mul_right _ (hlf_le h i)) hn
theorem fwd_bd {T : LT} (hT : Trn T) {kind : Int} {W h : Nat} {ws : List Int} (hh : h * W ≤ ws.length) {B : Int} (hB : AllIn (-B) B ws) (h0 : 0 ≤ B) : ∀ i, AllIn (-(bnd B i)) (bnd B i) (fwd T kind W h ws i)
  | 0 => hB
  | i + 1 => stF_bd hT (hlf_le W i) (by rw [fwd_length]; exact hh_len hh i) (fwd_bd hT hh hB h0 i) (bnd_pos h0 i)
theorem bwd_bd {T : LT} (hT : Trn T) {kind : Int} {W h n : Nat} {ws : List Int} (hh : h * W ≤ ws.length) {B : Int} (hB : AllIn (-B) B ws) (h0 : 0 ≤ B) : ∀ i, AllIn (-(bnd B i)) (bnd B i) (bwd T kind W h n ws i)
  | 0 => hB
  | i + 1 => stI_bd hT (hlf_le W _) (by rw [bwd_length]; exact hh_len hh _) (bwd_bd hT hh hB h0 i) (bnd_pos h0 i)
def b53_1 : IR :=
  .seq (.reg false [⟨some 11, none, ⟨[], []⟩, .bin 0 .lss (.t 10) (.t 9)⟩] [] []) (.seq (.cond (.t 11) (.skip) (.exit 0)) (.seq (.block 1 (.seq (.reg false [⟨some 12, none, ⟨[], []⟩, .mov (.t 10)⟩,
    ⟨some 8, none, ⟨[], []⟩, .mov (.t 12)⟩] [11, 12] []) (.reg false [⟨some 13, none, ⟨[], []⟩, .mov (.t 0)⟩,
    ⟨some 14, none, ⟨[], []⟩, .mov (.t 8)⟩,
    ⟨some 15, none, ⟨[], []⟩, .mov (.t 0)⟩,
    ⟨some 16, none, ⟨[], []⟩, .nilc (.t 15)⟩,
    ⟨some 17, none, ⟨[], []⟩, .fld (.t 16) 0⟩,
    ⟨some 18, none, ⟨[], []⟩, .ld false none 0 0 (.t 17)⟩,
    ⟨some 19, none, ⟨[], []⟩, .bin 0 .mul (.t 14) (.t 18)⟩,
    ⟨some 20, none, ⟨[], []⟩, .mov (.t 1)⟩,
    ⟨some 21, none, ⟨[], []⟩, .mov (.t 3)⟩,
    ⟨some 22, none, ⟨[], []⟩, .call none 10 68 [.t 13, .t 19, .k (.int .i64 1), .t 20, .t 21]⟩] [8, 13, 14, 15, 16, 17, 18, 19, 20, 21, 22] []))) (.reg false [⟨some 23, none, ⟨[], []⟩, .bin 0 .add (.t 10) (.k (.int .i64 1))⟩,
    ⟨some 10, none, ⟨[], []⟩, .mov (.t 23)⟩] [23] [])))
def ir53 : IR :=
  .seq (.reg false [⟨some 9, none, ⟨[], []⟩, .mov (.t 2)⟩,
    ⟨some 10, none, ⟨[], []⟩, .mov (.k (.int .i64 0))⟩] [2] []) (.block 0 (.loop b53_1))
def kp53_1 : List Nat := [0, 1, 3, 9, 10]
def kl53_1 : List Nat := [10, 11, 12, 13]
attribute [push_cast] kp53_1 kl53_1
set_option maxRecDepth 4000 in
theorem comp53 : (Try.f53.body.bind fun c => compC tab isP chkAll ir53 c) = some ir53 := by kernel_rfl
def b54_1 : IR :=
  .seq (.reg false [⟨some 11, none, ⟨[], []⟩, .bin 0 .lss (.t 10) (.t 9)⟩] [] []) (.seq (.cond (.t 11) (.skip) (.exit 0)) (.seq (.block 1 (.seq (.reg false [⟨some 12, none, ⟨[], []⟩, .mov (.t 10)⟩,
    ⟨some 8, none, ⟨[], []⟩, .mov (.t 12)⟩] [11, 12] []) (.reg false [⟨some 13, none, ⟨[], []⟩, .mov (.t 0)⟩,
    ⟨some 14, none, ⟨[], []⟩, .mov (.t 8)⟩,
    ⟨some 15, none, ⟨[], []⟩, .mov (.t 0)⟩,
    ⟨some 16, none, ⟨[], []⟩, .nilc (.t 15)⟩,
    ⟨some 17, none, ⟨[], []⟩, .fld (.t 16) 0⟩,
    ⟨some 18, none, ⟨[], []⟩, .ld false none 0 0 (.t 17)⟩,
    ⟨some 19, none, ⟨[], []⟩, .mov (.t 2)⟩,
    ⟨some 20, none, ⟨[], []⟩, .mov (.t 3)⟩,
    ⟨some 21, none, ⟨[], []⟩, .call none 10 68 [.t 13, .t 14, .t 18, .t 19, .t 20]⟩] [8, 13, 14, 15, 16, 17, 18, 19, 20, 21] []))) (.reg false [⟨some 22, none, ⟨[], []⟩, .bin 0 .add (.t 10) (.k (.int .i64 1))⟩,
    ⟨some 10, none, ⟨[], []⟩, .mov (.t 22)⟩] [22] [])))
def ir54 : IR :=
  .seq (.reg false [⟨some 9, none, ⟨[], []⟩, .mov (.t 1)⟩,
    ⟨some 10, none, ⟨[], []⟩, .mov (.k (.int .i64 0))⟩] [1] []) (.block 0 (.loop b54_1))
def kp54_1 : List Nat := [0, 2, 3, 9, 10]
def kl54_1 : List Nat := [10, 11, 12, 13]
attribute [push_cast] kp54_1 kl54_1
set_option maxRecDepth 4000 in
theorem comp54 : (Try.f54.body.bind fun c => compC tab isP chkAll ir54 c) = some ir54 := by kernel_rfl
structure RwA where
  F : Xf.Loc
  LP : Xf.Loc
  W : Nat
  kind : Int
  ws : List Int
  w : Nat
  h : Nat
def fs53f : FS where
  A := RwA
  args := fun a => [.ptr 0 a.F 0 0 0, .int .i64 a.w, .int .i64 a.h, .fn 38 []]
  mem := fun a => [some (.ro, a.F, .cells [.int .i64 a.W, .sl 1 a.LP 1 0 a.ws.length, .int .i64 a.kind]), some (.lent, a.LP, .ints .i64 a.ws)]
  pre := fun a => (a.kind = 0 ∨ a.kind = 1) ∧ a.ws.length ≤ 8192 ∧ a.W ≤ 200 ∧ a.w ≤ a.W ∧ a.h ≤ 200 ∧ a.h * a.W ≤ a.ws.length ∧ AllIn (-357913941) 357913941 a.ws
  res := fun a x => .tup []
  out := fun a _ => [none, some (some (.ints .i64 (rwL lineL a.kind a.W a.w a.ws a.h)))]
  new := fun _ _ => []
def inv53f : List SV → Look → Option (RwA × List Nat)
  | [.ptr c _ _ _ _, .int .i64 w, .int .i64 h, .fn 38 []], look => match rowC (look c) with
    | some (F, [.int .i64 W, .sl c1 _ 1 0 _, .int .i64 kind]) => match rowI (look c1) with
      | some (LP, .i64, ws) => some (⟨F, LP, W.toNat, kind, ws, w.toNat, h.toNat⟩, [c, c1])
      | _ => none
    | _ => none
  | _, _ => none
attribute [push_cast] inv53f
theorem ok53f : FSOk Try.prog 53 fs53f := by
  refine ⟨⟨_, Try.func53, by kernel_rfl, by kernel_rfl⟩, fun a => ⟨by simp [fs53f, push_cast, noMine, argOwn, Chunk.frArg], by simp [fs53f, push_cast, outOk, Chunk.ext], fun x => .inl (by simp [fs53f, push_cast, frNew, frOut, Chunk.fr])⟩, fun a hp => ?_⟩
  obtain ⟨F, LP, W, kind, ws, w, h⟩ := a
  obtain ⟨hk, h1, h2, h3, h4, h5, h6⟩ : (kind = 0 ∨ kind = 1) ∧ ws.length ≤ 8192 ∧ W ≤ 200 ∧ w ≤ W ∧ h ≤ 200 ∧ h * W ≤ ws.length ∧ AllIn (-357913941) 357913941 ws := hp
  change Tri Try.prog 53 [.ptr 0 F 0 0 0, .int .i64 w, .int .i64 h, .fn 38 []] [some (.ro, F, .cells [.int .i64 W, .sl 1 LP 1 0 ws.length, .int .i64 kind]), some (.lent, LP, .ints .i64 ws)] (postF fs53f ⟨F, LP, W, kind, ws, w, h⟩)
  refine tri_evS (hyp (l := [(68, ent68f)]) (lp := []) ⟨e68f, trivial⟩ trivial) Try.func53 comp53 (rs := []) (by rfl) Try.ntmps53 14 ?_
  simp -implicitDefEqProofs only [push_cast, false_implies, reduceCtorEq, Classical.not_not, Nat.reduceAdd, Nat.reduceSub, Nat.reduceMul, Nat.reduceLeDiff, Nat.reduceLT, Nat.reduceEqDiff, Nat.reduceBEq, Nat.reduceBNe, Int.reduceNeg, Int.reduceToNat, Bool.or_false, Bool.false_or, Bool.or_true, Bool.true_or, BEq.rfl, Bool.not_eq_true, Bool.not_eq_false, decide_eq_true_eq, not_true_eq_false, not_false_eq_true, ite_true, ite_false, List.append_nil, and_assoc, Nat.mul_zero, Nat.zero_mul, ir53]
  refine evS_loopU (A := Nat) kp53_1 kl53_1 (fun y => [(10, .int .i64 y)]) (fun y => [(1, .lent, LP, .ints .i64 (rwL lineL kind W w ws y))]) (fun y => y ≤ h) (fun y => h - y) 0 (by omega) (Sub.pt ?_) ?_
  · simp -implicitDefEqProofs only [push_cast, false_implies, reduceCtorEq, Classical.not_not, Nat.reduceAdd, Nat.reduceSub, Nat.reduceMul, Nat.reduceLeDiff, Nat.reduceLT, Nat.reduceEqDiff, Nat.reduceBEq, Nat.reduceBNe, Int.reduceNeg, Int.reduceToNat, Bool.or_false, Bool.false_or, Bool.or_true, Bool.true_or, BEq.rfl, Bool.not_eq_true, Bool.not_eq_false, decide_eq_true_eq, not_true_eq_false, not_false_eq_true, ite_true, ite_false, List.append_nil, and_assoc, Nat.mul_zero, Nat.zero_mul, rwL]
  intro y (hy : y ≤ h) K hK
  have lQ : (rwL lineL kind W w ws y).length = ws.length := rwL_length ..
  have hB := rwL_bd trn_line (kind := kind) h3 (m := y) (Nat.le_trans (Nat.mul_le_mul_right _ hy) h5) h6 (by omega)
  rw [show (3 * 357913941 + 1 : Int) = 1073741824 by decide] at hB
  simp -implicitDefEqProofs only [push_cast, false_implies, reduceCtorEq, Classical.not_not, Nat.reduceAdd, Nat.reduceSub, Nat.reduceMul, Nat.reduceLeDiff, Nat.reduceLT, Nat.reduceEqDiff, Nat.reduceBEq, Nat.reduceBNe, Int.reduceNeg, Int.reduceToNat, Bool.or_false, Bool.false_or, Bool.or_true, Bool.true_or, BEq.rfl, Bool.not_eq_true, Bool.not_eq_false, decide_eq_true_eq, not_true_eq_false, not_false_eq_true, ite_true, ite_false, List.append_nil, and_assoc, Nat.mul_zero, Nat.zero_mul, b53_1, fs68f, lQ]
  refine ⟨fun hl => ?_, fun hl => ?_⟩
  · have hy' : y < h := by omega
    have hm := mul_bd (a := (y : Int)) (b := (W : Int)) (A := 200) (B := 200) (by omega) (by omega) (by omega) (by omega)
    have hyW : ((y : Int) + 1) * W ≤ ws.length := by
      have h7 : (y + 1) * W ≤ ws.length := Nat.le_trans (Nat.mul_le_mul_right _ hy') h5
      have h8 : (((y + 1) * W : Nat) : Int) = ((y : Int) + 1) * W := by simp
      omega
    rw [Int.add_mul] at hyW
    have q : alS (lineL kind w (fun j => rd (tabl w (alG (rwL lineL kind W w ws y) ((y : Int) * W) 1)) j)) (rwL lineL kind W w ws y) ((y : Int) * W) 1 w = rwL lineL kind W w ws (y + 1) := rfl
    simp only [Int.toNat_natCast, q]
    repeat (refine And.intro (by first | omega | trivial | (intros; omega)) ?_)
    refine hK (y + 1) (by omega) (by omega) _ _ (Sub.pt ?_)
    simp -implicitDefEqProofs only [push_cast, false_implies, reduceCtorEq, Classical.not_not, Nat.reduceAdd, Nat.reduceSub, Nat.reduceMul, Nat.reduceLeDiff, Nat.reduceLT, Nat.reduceEqDiff, Nat.reduceBEq, Nat.reduceBNe, Int.reduceNeg, Int.reduceToNat, Bool.or_false, Bool.false_or, Bool.or_true, Bool.true_or, BEq.rfl, Bool.not_eq_true, Bool.not_eq_false, decide_eq_true_eq, not_true_eq_false, not_false_eq_true, ite_true, ite_false, List.append_nil, and_assoc, Nat.mul_zero, Nat.zero_mul]
  · obtain rfl : y = h := by omega
    refine postF.mk' (fun _ => default) [some 0, some 1] ?_
    simp -implicitDefEqProofs only [push_cast, false_implies, reduceCtorEq, Classical.not_not, Nat.reduceAdd, Nat.reduceSub, Nat.reduceMul, Nat.reduceLeDiff, Nat.reduceLT, Nat.reduceEqDiff, Nat.reduceBEq, Nat.reduceBNe, Int.reduceNeg, Int.reduceToNat, Bool.or_false, Bool.false_or, Bool.or_true, Bool.true_or, BEq.rfl, Bool.not_eq_true, Bool.not_eq_false, decide_eq_true_eq, not_true_eq_false, not_false_eq_true, ite_true, ite_false, List.append_nil, and_assoc, Nat.mul_zero, Nat.zero_mul, fs53f]
def ent53f : Entry := spOf fs53f inv53f
theorem e53f : EntryOk Try.prog 53 ent53f := entry_of ok53f inv53f
@[push_cast] theorem ent53f_app (us : List SV) (look : Look) (x : Nat → Xf.Loc) (k : Nat) : ent53f us look x k = spOf fs53f inv53f us look x k := rfl
def fs53u : FS where
  A := RwA
  args := fun a => [.ptr 0 a.F 0 0 0, .int .i64 a.w, .int .i64 a.h, .fn 39 []]
  mem := fun a => [some (.ro, a.F, .cells [.int .i64 a.W, .sl 1 a.LP 1 0 a.ws.length, .int .i64 a.kind]), some (.lent, a.LP, .ints .i64 a.ws)]
  pre := fun a => (a.kind = 0 ∨ a.kind = 1) ∧ a.ws.length ≤ 8192 ∧ a.W ≤ 200 ∧ a.w ≤ a.W ∧ a.h ≤ 200 ∧ a.h * a.W ≤ a.ws.length ∧ AllIn (-375299968947541) 375299968947541 a.ws
  res := fun a x => .tup []
  out := fun a _ => [none, some (some (.ints .i64 (rwL unL a.kind a.W a.w a.ws a.h)))]
  new := fun _ _ => []
def inv53u : List SV → Look → Option (RwA × List Nat)
  | [.ptr c _ _ _ _, .int .i64 w, .int .i64 h, .fn 39 []], look => match rowC (look c) with
    | some (F, [.int .i64 W, .sl c1 _ 1 0 _, .int .i64 kind]) => match rowI (look c1) with
      | some (LP, .i64, ws) => some (⟨F, LP, W.toNat, kind, ws, w.toNat, h.toNat⟩, [c, c1])
      | _ => none
    | _ => none
  | _, _ => none
attribute [push_cast] inv53u
theorem ok53u : FSOk Try.prog 53 fs53u := by
  refine ⟨⟨_, Try.func53, by kernel_rfl, by kernel_rfl⟩, fun a => ⟨by simp [fs53u, push_cast, noMine, argOwn, Chunk.frArg], by simp [fs53u, push_cast, outOk, Chunk.ext], fun x => .inl (by simp [fs53u, push_cast, frNew, frOut, Chunk.fr])⟩, fun a hp => ?_⟩
  obtain ⟨F, LP, W, kind, ws, w, h⟩ := a
  obtain ⟨hk, h1, h2, h3, h4, h5, h6⟩ : (kind = 0 ∨ kind = 1) ∧ ws.length ≤ 8192 ∧ W ≤ 200 ∧ w ≤ W ∧ h ≤ 200 ∧ h * W ≤ ws.length ∧ AllIn (-375299968947541) 375299968947541 ws := hp
  change Tri Try.prog 53 [.ptr 0 F 0 0 0, .int .i64 w, .int .i64 h, .fn 39 []] [some (.ro, F, .cells [.int .i64 W, .sl 1 LP 1 0 ws.length, .int .i64 kind]), some (.lent, LP, .ints .i64 ws)] (postF fs53u ⟨F, LP, W, kind, ws, w, h⟩)
  refine tri_evS (hyp (l := [(68, ent68u)]) (lp := []) ⟨e68u, trivial⟩ trivial) Try.func53 comp53 (rs := []) (by rfl) Try.ntmps53 14 ?_
  simp -implicitDefEqProofs only [push_cast, false_implies, reduceCtorEq, Classical.not_not, Nat.reduceAdd, Nat.reduceSub, Nat.reduceMul, Nat.reduceLeDiff, Nat.reduceLT, Nat.reduceEqDiff, Nat.reduceBEq, Nat.reduceBNe, Int.reduceNeg, Int.reduceToNat, Bool.or_false, Bool.false_or, Bool.or_true, Bool.true_or, BEq.rfl, Bool.not_eq_true, Bool.not_eq_false, decide_eq_true_eq, not_true_eq_false, not_false_eq_true, ite_true, ite_false, List.append_nil, and_assoc, Nat.mul_zero, Nat.zero_mul, ir53]
  refine evS_loopU (A := Nat) kp53_1 kl53_1 (fun y => [(10, .int .i64 y)]) (fun y => [(1, .lent, LP, .ints .i64 (rwL unL kind W w ws y))]) (fun y => y ≤ h) (fun y => h - y) 0 (by omega) (Sub.pt ?_) ?_
  · simp -implicitDefEqProofs only [push_cast, false_implies, reduceCtorEq, Classical.not_not, Nat.reduceAdd, Nat.reduceSub, Nat.reduceMul, Nat.reduceLeDiff, Nat.reduceLT, Nat.reduceEqDiff, Nat.reduceBEq, Nat.reduceBNe, Int.reduceNeg, Int.reduceToNat, Bool.or_false, Bool.false_or, Bool.or_true, Bool.true_or, BEq.rfl, Bool.not_eq_true, Bool.not_eq_false, decide_eq_true_eq, not_true_eq_false, not_false_eq_true, ite_true, ite_false, List.append_nil, and_assoc, Nat.mul_zero, Nat.zero_mul, rwL]
  intro y (hy : y ≤ h) K hK
  have lQ : (rwL unL kind W w ws y).length = ws.length := rwL_length ..
  have hB := rwL_bd trn_unline (kind := kind) h3 (m := y) (Nat.le_trans (Nat.mul_le_mul_right _ hy) h5) h6 (by omega)
  rw [show (3 * 375299968947541 + 1 : Int) = 1125899906842624 by decide] at hB
  simp -implicitDefEqProofs only [push_cast, false_implies, reduceCtorEq, Classical.not_not, Nat.reduceAdd, Nat.reduceSub, Nat.reduceMul, Nat.reduceLeDiff, Nat.reduceLT, Nat.reduceEqDiff, Nat.reduceBEq, Nat.reduceBNe, Int.reduceNeg, Int.reduceToNat, Bool.or_false, Bool.false_or, Bool.or_true, Bool.true_or, BEq.rfl, Bool.not_eq_true, Bool.not_eq_false, decide_eq_true_eq, not_true_eq_false, not_false_eq_true, ite_true, ite_false, List.append_nil, and_assoc, Nat.mul_zero, Nat.zero_mul, b53_1, fs68u, lQ]
  refine ⟨fun hl => ?_, fun hl => ?_⟩
  · have hy' : y < h := by omega
    have hm := mul_bd (a := (y : Int)) (b := (W : Int)) (A := 200) (B := 200) (by omega) (by omega) (by omega) (by omega)
    have hyW : ((y : Int) + 1) * W ≤ ws.length := by
      have h7 : (y + 1) * W ≤ ws.length := Nat.le_trans (Nat.mul_le_mul_right _ hy') h5
      have h8 : (((y + 1) * W : Nat) : Int) = ((y : Int) + 1) * W := by simp
      omega
    rw [Int.add_mul] at hyW
    have q : alS (unL kind w (fun j => rd (tabl w (alG (rwL unL kind W w ws y) ((y : Int) * W) 1)) j)) (rwL unL kind W w ws y) ((y : Int) * W) 1 w = rwL unL kind W w ws (y + 1) := rfl
    simp only [Int.toNat_natCast, q]
    repeat (refine And.intro (by first | omega | trivial | (intros; omega)) ?_)
    refine hK (y + 1) (by omega) (by omega) _ _ (Sub.pt ?_)
    simp -implicitDefEqProofs only [push_cast, false_implies, reduceCtorEq, Classical.not_not, Nat.reduceAdd, Nat.reduceSub, Nat.reduceMul, Nat.reduceLeDiff, Nat.reduceLT, Nat.reduceEqDiff, Nat.reduceBEq, Nat.reduceBNe, Int.reduceNeg, Int.reduceToNat, Bool.or_false, Bool.false_or, Bool.or_true, Bool.true_or, BEq.rfl, Bool.not_eq_true, Bool.not_eq_false, decide_eq_true_eq, not_true_eq_false, not_false_eq_true, ite_true, ite_false, List.append_nil, and_assoc, Nat.mul_zero, Nat.zero_mul]
  · obtain rfl : y = h := by omega
    refine postF.mk' (fun _ => default) [some 0, some 1] ?_
    simp -implicitDefEqProofs only [push_cast, false_implies, reduceCtorEq, Classical.not_not, Nat.reduceAdd, Nat.reduceSub, Nat.reduceMul, Nat.reduceLeDiff, Nat.reduceLT, Nat.reduceEqDiff, Nat.reduceBEq, Nat.reduceBNe, Int.reduceNeg, Int.reduceToNat, Bool.or_false, Bool.false_or, Bool.or_true, Bool.true_or, BEq.rfl, Bool.not_eq_true, Bool.not_eq_false, decide_eq_true_eq, not_true_eq_false, not_false_eq_true, ite_true, ite_false, List.append_nil, and_assoc, Nat.mul_zero, Nat.zero_mul, fs53u]
def ent53u : Entry := spOf fs53u inv53u
theorem e53u : EntryOk Try.prog 53 ent53u := entry_of ok53u inv53u
@[push_cast] theorem ent53u_app (us : List SV) (look : Look) (x : Nat → Xf.Loc) (k : Nat) : ent53u us look x k = spOf fs53u inv53u us look x k := rfl
def fs54f : FS where
  A := RwA
  args := fun a => [.ptr 0 a.F 0 0 0, .int .i64 a.w, .int .i64 a.h, .fn 38 []]
  mem := fun a => [some (.ro, a.F, .cells [.int .i64 a.W, .sl 1 a.LP 1 0 a.ws.length, .int .i64 a.kind]), some (.lent, a.LP, .ints .i64 a.ws)]
  pre := fun a => (a.kind = 0 ∨ a.kind = 1) ∧ a.ws.length ≤ 8192 ∧ a.W ≤ 200 ∧ a.w ≤ a.W ∧ a.h ≤ 200 ∧ a.h * a.W ≤ a.ws.length ∧ AllIn (-357913941) 357913941 a.ws
  res := fun a x => .tup []
  out := fun a _ => [none, some (some (.ints .i64 (clL lineL a.kind a.W a.h a.ws a.w)))]
  new := fun _ _ => []
def inv54f : List SV → Look → Option (RwA × List Nat)
  | [.ptr c _ _ _ _, .int .i64 w, .int .i64 h, .fn 38 []], look => match rowC (look c) with
    | some (F, [.int .i64 W, .sl c1 _ 1 0 _, .int .i64 kind]) => match rowI (look c1) with
      | some (LP, .i64, ws) => some (⟨F, LP, W.toNat, kind, ws, w.toNat, h.toNat⟩, [c, c1])
      | _ => none
    | _ => none
  | _, _ => none
attribute [push_cast] inv54f
theorem ok54f : FSOk Try.prog 54 fs54f := by
  refine ⟨⟨_, Try.func54, by kernel_rfl, by kernel_rfl⟩, fun a => ⟨by simp [fs54f, push_cast, noMine, argOwn, Chunk.frArg], by simp [fs54f, push_cast, outOk, Chunk.ext], fun x => .inl (by simp [fs54f, push_cast, frNew, frOut, Chunk.fr])⟩, fun a hp => ?_⟩
  obtain ⟨F, LP, W, kind, ws, w, h⟩ := a
  obtain ⟨hk, h1, h2, h3, h4, h5, h6⟩ : (kind = 0 ∨ kind = 1) ∧ ws.length ≤ 8192 ∧ W ≤ 200 ∧ w ≤ W ∧ h ≤ 200 ∧ h * W ≤ ws.length ∧ AllIn (-357913941) 357913941 ws := hp
  change Tri Try.prog 54 [.ptr 0 F 0 0 0, .int .i64 w, .int .i64 h, .fn 38 []] [some (.ro, F, .cells [.int .i64 W, .sl 1 LP 1 0 ws.length, .int .i64 kind]), some (.lent, LP, .ints .i64 ws)] (postF fs54f ⟨F, LP, W, kind, ws, w, h⟩)
  refine tri_evS (hyp (l := [(68, ent68f)]) (lp := []) ⟨e68f, trivial⟩ trivial) Try.func54 comp54 (rs := []) (by rfl) Try.ntmps54 14 ?_
  simp -implicitDefEqProofs only [push_cast, false_implies, reduceCtorEq, Classical.not_not, Nat.reduceAdd, Nat.reduceSub, Nat.reduceMul, Nat.reduceLeDiff, Nat.reduceLT, Nat.reduceEqDiff, Nat.reduceBEq, Nat.reduceBNe, Int.reduceNeg, Int.reduceToNat, Bool.or_false, Bool.false_or, Bool.or_true, Bool.true_or, BEq.rfl, Bool.not_eq_true, Bool.not_eq_false, decide_eq_true_eq, not_true_eq_false, not_false_eq_true, ite_true, ite_false, List.append_nil, and_assoc, Nat.mul_zero, Nat.zero_mul, ir54]
  refine evS_loopU (A := Nat) kp54_1 kl54_1 (fun y => [(10, .int .i64 y)]) (fun y => [(1, .lent, LP, .ints .i64 (clL lineL kind W h ws y))]) (fun y => y ≤ w) (fun y => w - y) 0 (by omega) (Sub.pt ?_) ?_
  · simp -implicitDefEqProofs only [push_cast, false_implies, reduceCtorEq, Classical.not_not, Nat.reduceAdd, Nat.reduceSub, Nat.reduceMul, Nat.reduceLeDiff, Nat.reduceLT, Nat.reduceEqDiff, Nat.reduceBEq, Nat.reduceBNe, Int.reduceNeg, Int.reduceToNat, Bool.or_false, Bool.false_or, Bool.or_true, Bool.true_or, BEq.rfl, Bool.not_eq_true, Bool.not_eq_false, decide_eq_true_eq, not_true_eq_false, not_false_eq_true, ite_true, ite_false, List.append_nil, and_assoc, Nat.mul_zero, Nat.zero_mul, clL]
  intro y (hy : y ≤ w) K hK
  have lQ : (clL lineL kind W h ws y).length = ws.length := clL_length ..
  have hB := clL_bd trn_line (kind := kind) h5 (m := y) (Nat.le_trans hy h3) h6 (by omega)
  rw [show (3 * 357913941 + 1 : Int) = 1073741824 by decide] at hB
  simp -implicitDefEqProofs only [push_cast, false_implies, reduceCtorEq, Classical.not_not, Nat.reduceAdd, Nat.reduceSub, Nat.reduceMul, Nat.reduceLeDiff, Nat.reduceLT, Nat.reduceEqDiff, Nat.reduceBEq, Nat.reduceBNe, Int.reduceNeg, Int.reduceToNat, Bool.or_false, Bool.false_or, Bool.or_true, Bool.true_or, BEq.rfl, Bool.not_eq_true, Bool.not_eq_false, decide_eq_true_eq, not_true_eq_false, not_false_eq_true, ite_true, ite_false, List.append_nil, and_assoc, Nat.mul_zero, Nat.zero_mul, b54_1, fs68f, lQ]
  refine ⟨fun hl => ?_, fun hl => ?_⟩
  · have hy' : y < w := by omega
    have hin : ∀ i : Nat, i < h → (y : Int) + i * W < ws.length := fun i hi => by
      have h7 : (i + 1) * W ≤ ws.length := Nat.le_trans (Nat.mul_le_mul_right _ hi) h5
      have h8 : (((i + 1) * W : Nat) : Int) = (i : Int) * W + W := by rw [Nat.add_mul]; simp
      omega
    have q : alS (lineL kind h (fun j => rd (tabl h (alG (clL lineL kind W h ws y) (y : Int) W)) j)) (clL lineL kind W h ws y) (y : Int) W h = clL lineL kind W h ws (y + 1) := rfl
    simp only [Int.toNat_natCast, q]
    repeat (refine And.intro (by first | omega | trivial | (intros; omega)) ?_)
    refine hK (y + 1) (by omega) (by omega) _ _ (Sub.pt ?_)
    simp -implicitDefEqProofs only [push_cast, false_implies, reduceCtorEq, Classical.not_not, Nat.reduceAdd, Nat.reduceSub, Nat.reduceMul, Nat.reduceLeDiff, Nat.reduceLT, Nat.reduceEqDiff, Nat.reduceBEq, Nat.reduceBNe, Int.reduceNeg, Int.reduceToNat, Bool.or_false, Bool.false_or, Bool.or_true, Bool.true_or, BEq.rfl, Bool.not_eq_true, Bool.not_eq_false, decide_eq_true_eq, not_true_eq_false, not_false_eq_true, ite_true, ite_false, List.append_nil, and_assoc, Nat.mul_zero, Nat.zero_mul]
  · obtain rfl : y = w := by omega
    refine postF.mk' (fun _ => default) [some 0, some 1] ?_
    simp -implicitDefEqProofs only [push_cast, false_implies, reduceCtorEq, Classical.not_not, Nat.reduceAdd, Nat.reduceSub, Nat.reduceMul, Nat.reduceLeDiff, Nat.reduceLT, Nat.reduceEqDiff, Nat.reduceBEq, Nat.reduceBNe, Int.reduceNeg, Int.reduceToNat, Bool.or_false, Bool.false_or, Bool.or_true, Bool.true_or, BEq.rfl, Bool.not_eq_true, Bool.not_eq_false, decide_eq_true_eq, not_true_eq_false, not_false_eq_true, ite_true, ite_false, List.append_nil, and_assoc, Nat.mul_zero, Nat.zero_mul, fs54f]
def ent54f : Entry := spOf fs54f inv54f
theorem e54f : EntryOk Try.prog 54 ent54f := entry_of ok54f inv54f
@[push_cast] theorem ent54f_app (us : List SV) (look : Look) (x : Nat → Xf.Loc) (k : Nat) : ent54f us look x k = spOf fs54f inv54f us look x k := rfl
def fs54u : FS where
  A := RwA
  args := fun a => [.ptr 0 a.F 0 0 0, .int .i64 a.w, .int .i64 a.h, .fn 39 []]
  mem := fun a => [some (.ro, a.F, .cells [.int .i64 a.W, .sl 1 a.LP 1 0 a.ws.length, .int .i64 a.kind]), some (.lent, a.LP, .ints .i64 a.ws)]
  pre := fun a => (a.kind = 0 ∨ a.kind = 1) ∧ a.ws.length ≤ 8192 ∧ a.W ≤ 200 ∧ a.w ≤ a.W ∧ a.h ≤ 200 ∧ a.h * a.W ≤ a.ws.length ∧ AllIn (-375299968947541) 375299968947541 a.ws
  res := fun a x => .tup []
  out := fun a _ => [none, some (some (.ints .i64 (clL unL a.kind a.W a.h a.ws a.w)))]
  new := fun _ _ => []
def inv54u : List SV → Look → Option (RwA × List Nat)
  | [.ptr c _ _ _ _, .int .i64 w, .int .i64 h, .fn 39 []], look => match rowC (look c) with
    | some (F, [.int .i64 W, .sl c1 _ 1 0 _, .int .i64 kind]) => match rowI (look c1) with
      | some (LP, .i64, ws) => some (⟨F, LP, W.toNat, kind, ws, w.toNat, h.toNat⟩, [c, c1])
      | _ => none
    | _ => none
  | _, _ => none
attribute [push_cast] inv54u
theorem ok54u : FSOk Try.prog 54 fs54u := by
  refine ⟨⟨_, Try.func54, by kernel_rfl, by kernel_rfl⟩, fun a => ⟨by simp [fs54u, push_cast, noMine, argOwn, Chunk.frArg], by simp [fs54u, push_cast, outOk, Chunk.ext], fun x => .inl (by simp [fs54u, push_cast, frNew, frOut, Chunk.fr])⟩, fun a hp => ?_⟩
  obtain ⟨F, LP, W, kind, ws, w, h⟩ := a
  obtain ⟨hk, h1, h2, h3, h4, h5, h6⟩ : (kind = 0 ∨ kind = 1) ∧ ws.length ≤ 8192 ∧ W ≤ 200 ∧ w ≤ W ∧ h ≤ 200 ∧ h * W ≤ ws.length ∧ AllIn (-375299968947541) 375299968947541 ws := hp
  change Tri Try.prog 54 [.ptr 0 F 0 0 0, .int .i64 w, .int .i64 h, .fn 39 []] [some (.ro, F, .cells [.int .i64 W, .sl 1 LP 1 0 ws.length, .int .i64 kind]), some (.lent, LP, .ints .i64 ws)] (postF fs54u ⟨F, LP, W, kind, ws, w, h⟩)
  refine tri_evS (hyp (l := [(68, ent68u)]) (lp := []) ⟨e68u, trivial⟩ trivial) Try.func54 comp54 (rs := []) (by rfl) Try.ntmps54 14 ?_
  simp -implicitDefEqProofs only [push_cast, false_implies, reduceCtorEq, Classical.not_not, Nat.reduceAdd, Nat.reduceSub, Nat.reduceMul, Nat.reduceLeDiff, Nat.reduceLT, Nat.reduceEqDiff, Nat.reduceBEq, Nat.reduceBNe, Int.reduceNeg, Int.reduceToNat, Bool.or_false, Bool.false_or, Bool.or_true, Bool.true_or, BEq.rfl, Bool.not_eq_true, Bool.not_eq_false, decide_eq_true_eq, not_true_eq_false, not_false_eq_true, ite_true, ite_false, List.append_nil, and_assoc, Nat.mul_zero, Nat.zero_mul, ir54]
  refine evS_loopU (A := Nat) kp54_1 kl54_1 (fun y => [(10, .int .i64 y)]) (fun y => [(1, .lent, LP, .ints .i64 (clL unL kind W h ws y))]) (fun y => y ≤ w) (fun y => w - y) 0 (by omega) (Sub.pt ?_) ?_
  · simp -implicitDefEqProofs only [push_cast, false_implies, reduceCtorEq, Classical.not_not, Nat.reduceAdd, Nat.reduceSub, Nat.reduceMul, Nat.reduceLeDiff, Nat.reduceLT, Nat.reduceEqDiff, Nat.reduceBEq, Nat.reduceBNe, Int.reduceNeg, Int.reduceToNat, Bool.or_false, Bool.false_or, Bool.or_true, Bool.true_or, BEq.rfl, Bool.not_eq_true, Bool.not_eq_false, decide_eq_true_eq, not_true_eq_false, not_false_eq_true, ite_true, ite_false, List.append_nil, and_assoc, Nat.mul_zero, Nat.zero_mul, clL]
  intro y (hy : y ≤ w) K hK
  have lQ : (clL unL kind W h ws y).length = ws.length := clL_length ..
  have hB := clL_bd trn_unline (kind := kind) h5 (m := y) (Nat.le_trans hy h3) h6 (by omega)
  rw [show (3 * 375299968947541 + 1 : Int) = 1125899906842624 by decide] at hB
  simp -implicitDefEqProofs only [push_cast, false_implies, reduceCtorEq, Classical.not_not, Nat.reduceAdd, Nat.reduceSub, Nat.reduceMul, Nat.reduceLeDiff, Nat.reduceLT, Nat.reduceEqDiff, Nat.reduceBEq, Nat.reduceBNe, Int.reduceNeg, Int.reduceToNat, Bool.or_false, Bool.false_or, Bool.or_true, Bool.true_or, BEq.rfl, Bool.not_eq_true, Bool.not_eq_false, decide_eq_true_eq, not_true_eq_false, not_false_eq_true, ite_true, ite_false, List.append_nil, and_assoc, Nat.mul_zero, Nat.zero_mul, b54_1, fs68u, lQ]
  refine ⟨fun hl => ?_, fun hl => ?_⟩
  · have hy' : y < w := by omega
    have hin : ∀ i : Nat, i < h → (y : Int) + i * W < ws.length := fun i hi => by
      have h7 : (i + 1) * W ≤ ws.length := Nat.le_trans (Nat.mul_le_mul_right _ hi) h5
      have h8 : (((i + 1) * W : Nat) : Int) = (i : Int) * W + W := by rw [Nat.add_mul]; simp
      omega
    have q : alS (unL kind h (fun j => rd (tabl h (alG (clL unL kind W h ws y) (y : Int) W)) j)) (clL unL kind W h ws y) (y : Int) W h = clL unL kind W h ws (y + 1) := rfl
    simp only [Int.toNat_natCast, q]
    repeat (refine And.intro (by first | omega | trivial | (intros; omega)) ?_)
    refine hK (y + 1) (by omega) (by omega) _ _ (Sub.pt ?_)
    simp -implicitDefEqProofs only [push_cast, false_implies, reduceCtorEq, Classical.not_not, Nat.reduceAdd, Nat.reduceSub, Nat.reduceMul, Nat.reduceLeDiff, Nat.reduceLT, Nat.reduceEqDiff, Nat.reduceBEq, Nat.reduceBNe, Int.reduceNeg, Int.reduceToNat, Bool.or_false, Bool.false_or, Bool.or_true, Bool.true_or, BEq.rfl, Bool.not_eq_true, Bool.not_eq_false, decide_eq_true_eq, not_true_eq_false, not_false_eq_true, ite_true, ite_false, List.append_nil, and_assoc, Nat.mul_zero, Nat.zero_mul]
  · obtain rfl : y = w := by omega
    refine postF.mk' (fun _ => default) [some 0, some 1] ?_
    simp -implicitDefEqProofs only [push_cast, false_implies, reduceCtorEq, Classical.not_not, Nat.reduceAdd, Nat.reduceSub, Nat.reduceMul, Nat.reduceLeDiff, Nat.reduceLT, Nat.reduceEqDiff, Nat.reduceBEq, Nat.reduceBNe, Int.reduceNeg, Int.reduceToNat, Bool.or_false, Bool.false_or, Bool.or_true, Bool.true_or, BEq.rfl, Bool.not_eq_true, Bool.not_eq_false, decide_eq_true_eq, not_true_eq_false, not_false_eq_true, ite_true, ite_false, List.append_nil, and_assoc, Nat.mul_zero, Nat.zero_mul, fs54u]
def ent54u : Entry := spOf fs54u inv54u
theorem e54u : EntryOk Try.prog 54 ent54u := entry_of ok54u inv54u
@[push_cast] theorem ent54u_app (us : List SV) (look : Look) (x : Nat → Xf.Loc) (k : Nat) : ent54u us look x k = spOf fs54u inv54u us look x k := rfl
def b47_1 : IR :=
  .seq (.reg false [⟨some 10, none, ⟨[], []⟩, .bin 0 .lss (.t 9) (.t 8)⟩] [] []) (.seq (.cond (.t 10) (.skip) (.exit 0)) (.seq (.block 1 (.seq (.reg false [⟨some 11, none, ⟨[], []⟩, .mov (.t 7)⟩,
    ⟨some 12, none, ⟨[], []⟩, .mov (.t 0)⟩,
    ⟨some 13, none, ⟨[], []⟩, .mov (.t 1)⟩,
    ⟨some 14, none, ⟨[], []⟩, .build [.int .i64 0, .int .i64 0] [(0, 1, .t 12), (1, 1, .t 13)]⟩,
    ⟨some 15, none, ⟨[], []⟩, .brecs 10 2 .i64 [.t 14]⟩,
    ⟨some 16, none, ⟨[], []⟩, .app 11 2 16 (.t 11) (.t 15)⟩,
    ⟨some 7, none, ⟨[], []⟩, .mov (.t 16)⟩] [10, 11, 12, 13, 14, 15, 16] []) (.reg false [⟨some 17, none, ⟨[], []⟩, .mov (.t 0)⟩,
    ⟨some 18, none, ⟨[], []⟩, .bin 0 .add (.t 17) (.k (.int .i64 1))⟩,
    ⟨some 19, none, ⟨[], []⟩, .bin 0 .quo (.t 18) (.k (.int .i64 2))⟩,
    ⟨some 20, none, ⟨[], []⟩, .mov (.t 1)⟩,
    ⟨some 21, none, ⟨[], []⟩, .bin 0 .add (.t 20) (.k (.int .i64 1))⟩,
    ⟨some 22, none, ⟨[], []⟩, .bin 0 .quo (.t 21) (.k (.int .i64 2))⟩,
    ⟨some 0, none, ⟨[], []⟩, .mov (.t 19)⟩,
    ⟨some 1, none, ⟨[], []⟩, .mov (.t 22)⟩] [17, 18, 19, 20, 21, 22] []))) (.reg false [⟨some 23, none, ⟨[], []⟩, .bin 0 .add (.t 9) (.k (.int .i64 1))⟩,
    ⟨some 9, none, ⟨[], []⟩, .mov (.t 23)⟩] [23] [])))
def r47_2 : IR :=
  .seq (.reg false [⟨some 24, none, ⟨[], []⟩, .mov (.t 7)⟩,
    ⟨some 6, none, ⟨[], []⟩, .mov (.t 24)⟩] [0, 1, 7, 8, 9, 24] []) (.ret)
def ir47 : IR :=
  .seq (.reg false [⟨some 6, none, ⟨[], []⟩, .mov (.k nilSV)⟩] [6] []) (.seq (.reg false [⟨some 7, none, ⟨[], []⟩, .mov (.k nilSV)⟩] [] []) (.seq (.seq (.reg false [⟨some 8, none, ⟨[], []⟩, .mov (.t 2)⟩,
    ⟨some 9, none, ⟨[], []⟩, .mov (.k (.int .i64 0))⟩] [2] []) (.block 0 (.loop b47_1))) (r47_2)))
def kp47_1 : List Nat := [0, 1, 7, 8, 9]
def kl47_1 : List Nat := [10, 11]
attribute [push_cast] kp47_1 kl47_1
set_option maxRecDepth 4000 in
theorem comp47 : (Try.f47.body.bind fun c => compC tab isP chkAll ir47 c) = some ir47 := by kernel_rfl
/-- Records by their places. -/
def tabR (n : Nat) (g : Nat → List RC) : List (List RC) := (List.range n).map g
theorem tabR_length (n : Nat) (g : Nat → List RC) : (tabR n g).length = n := by simp [tabR]
theorem tabR_zero (g : Nat → List RC) : tabR 0 g = [] := rfl
theorem tabR_snoc (n : Nat) (g : Nat → List RC) : tabR n g ++ [g n] = tabR (n + 1) g := by simp [tabR, List.range_succ]
theorem recAt_tabR {n i : Nat} (h : i < n) (g : Nat → List RC) (z : List RC) : recAt (i : Int) z (tabR n g) = g i := by
  simp [recAt, tabR, h]
/-- How many cells an element of a slice has that is nil at first. -/
def esz (s : Nat) : Nat → Nat
  | 0 => 1
  | _ + 1 => s
theorem esz_pos {s n : Nat} (h : 0 < n) : esz s n = s := by cases n; omega; rfl
def sdR (w h : Nat) (i : Nat) : List RC := [.int .i64 (hlf w i), .int .i64 (hlf h i)]
structure SdA where
  w : Nat
  h : Nat
  n : Nat
def fs47 : FS where
  A := SdA
  args := fun a => [.int .i64 a.w, .int .i64 a.h, .int .i64 a.n]
  mem := fun _ => []
  pre := fun a => a.w ≤ 200 ∧ a.h ≤ 200 ∧ a.n ≤ 7
  res := fun a x => .sl 0 (lx (0 < a.n) x 0) (esz 2 a.n) 0 a.n
  out := fun _ _ => []
  new := fun a x => [(lx (0 < a.n) x 0, .recs 2 true [] (tabR a.n (sdR a.w a.h)))]
def inv47 : List SV → Look → Option (SdA × List Nat)
  | [.int .i64 w, .int .i64 h, .int .i64 n], look => some (⟨w.toNat, h.toNat, n.toNat⟩, [])
  | _, _ => none
attribute [push_cast] inv47
theorem hlf_succ (w i : Nat) : ((hlf w i : Int) + 1) / 2 = (hlf w (i + 1) : Int) := by simp only [hlf]; omega
theorem ok47 : FSOk Try.prog 47 fs47 := by
  refine ⟨⟨_, Try.func47, by kernel_rfl, by kernel_rfl⟩, fun a => ⟨by simp [fs47, push_cast, noMine, argOwn, Chunk.frArg], by simp [fs47, push_cast, outOk, Chunk.ext], fun x => .inl (by simp [fs47, push_cast, frNew, frOut, Chunk.fr])⟩, fun a hp => ?_⟩
  obtain ⟨w, h, n⟩ := a
  obtain ⟨h1, h2, h3⟩ : w ≤ 200 ∧ h ≤ 200 ∧ n ≤ 7 := hp
  change Tri Try.prog 47 [.int .i64 w, .int .i64 h, .int .i64 n] [] (postF fs47 ⟨w, h, n⟩)
  refine tri_evS (hyp (l := []) (lp := []) trivial trivial) Try.func47 comp47 (rs := [.tmp 6]) (by rfl) Try.ntmps47 12 ?_
  simp -implicitDefEqProofs only [push_cast, false_implies, reduceCtorEq, Classical.not_not, Nat.reduceAdd, Nat.reduceSub, Nat.reduceMul, Nat.reduceLeDiff, Nat.reduceLT, Nat.reduceEqDiff, Nat.reduceBEq, Nat.reduceBNe, Int.reduceNeg, Int.reduceToNat, Bool.or_false, Bool.false_or, Bool.or_true, Bool.true_or, BEq.rfl, Bool.not_eq_true, Bool.not_eq_false, decide_eq_true_eq, not_true_eq_false, not_false_eq_true, ite_true, ite_false, List.append_nil, and_assoc, Nat.mul_zero, Nat.zero_mul, ir47]
  refine evS_loopU (A := Nat × Xf.Loc) kp47_1 kl47_1 (fun y => [(0, .int .i64 (hlf w y.1)), (1, .int .i64 (hlf h y.1)), (7, .sl 11 y.2 (esz 2 y.1) 0 y.1), (9, .int .i64 y.1)]) (fun y => [(11, .mine, y.2, .recs 2 true [] (tabR y.1 (sdR w h)))])
    (fun y => y.1 ≤ n ∧ (y.1 = 0 → y.2 = nilLoc)) (fun y => n - y.1) (0, nilLoc) ⟨Nat.zero_le _, fun _ => rfl⟩ (Sub.pt ?_) ?_
  · simp -implicitDefEqProofs only [push_cast, false_implies, reduceCtorEq, Classical.not_not, Nat.reduceAdd, Nat.reduceSub, Nat.reduceMul, Nat.reduceLeDiff, Nat.reduceLT, Nat.reduceEqDiff, Nat.reduceBEq, Nat.reduceBNe, Int.reduceNeg, Int.reduceToNat, Bool.or_false, Bool.false_or, Bool.or_true, Bool.true_or, BEq.rfl, Bool.not_eq_true, Bool.not_eq_false, decide_eq_true_eq, not_true_eq_false, not_false_eq_true, ite_true, ite_false, List.append_nil, and_assoc, Nat.mul_zero, Nat.zero_mul, hlf, esz, tabR_zero]
  intro ⟨i, N⟩ ⟨(hi : i ≤ n), (hN : i = 0 → N = nilLoc)⟩ K hK
  simp -implicitDefEqProofs only [push_cast, false_implies, reduceCtorEq, Classical.not_not, Nat.reduceAdd, Nat.reduceSub, Nat.reduceMul, Nat.reduceLeDiff, Nat.reduceLT, Nat.reduceEqDiff, Nat.reduceBEq, Nat.reduceBNe, Int.reduceNeg, Int.reduceToNat, Bool.or_false, Bool.false_or, Bool.or_true, Bool.true_or, BEq.rfl, Bool.not_eq_true, Bool.not_eq_false, decide_eq_true_eq, not_true_eq_false, not_false_eq_true, ite_true, ite_false, List.append_nil, and_assoc, Nat.mul_zero, Nat.zero_mul, b47_1, r47_2]
  have b1 := hlf_le w i
  have b2 := hlf_le h i
  have b3 := hlf_succ w i
  have b4 := hlf_succ h i
  refine ⟨fun hl => ?_, fun hl => ?_⟩
  · simp only [tabR_length]
    intro X
    repeat (refine And.intro (by first | omega | trivial | (intros; omega)) ?_)
    rw [b3, b4]
    refine hK (i + 1, X 5 11) ⟨show i + 1 ≤ n by omega, fun q => absurd q (Nat.succ_ne_zero i)⟩ (show n - (i + 1) < n - i by omega) _ _ (Sub.pt ?_)
    have q : tabR i (sdR w h) ++ [[.int .i64 (hlf w i), .int .i64 (hlf h i)]] = tabR (i + 1) (sdR w h) := tabR_snoc i (sdR w h)
    simp -implicitDefEqProofs only [push_cast, false_implies, reduceCtorEq, Classical.not_not, Nat.reduceAdd, Nat.reduceSub, Nat.reduceMul, Nat.reduceLeDiff, Nat.reduceLT, Nat.reduceEqDiff, Nat.reduceBEq, Nat.reduceBNe, Int.reduceNeg, Int.reduceToNat, Bool.or_false, Bool.false_or, Bool.or_true, Bool.true_or, BEq.rfl, Bool.not_eq_true, Bool.not_eq_false, decide_eq_true_eq, not_true_eq_false, not_false_eq_true, ite_true, ite_false, List.append_nil, and_assoc, Nat.mul_zero, Nat.zero_mul, esz, q]
  · obtain rfl : i = n := by omega
    refine postF.mk' (fun _ => N) [some 11] ?_
    by_cases h0 : 0 < i
    · simp -implicitDefEqProofs only [push_cast, false_implies, reduceCtorEq, Classical.not_not, Nat.reduceAdd, Nat.reduceSub, Nat.reduceMul, Nat.reduceLeDiff, Nat.reduceLT, Nat.reduceEqDiff, Nat.reduceBEq, Nat.reduceBNe, Int.reduceNeg, Int.reduceToNat, Bool.or_false, Bool.false_or, Bool.or_true, Bool.true_or, BEq.rfl, Bool.not_eq_true, Bool.not_eq_false, decide_eq_true_eq, not_true_eq_false, not_false_eq_true, ite_true, ite_false, List.append_nil, and_assoc, Nat.mul_zero, Nat.zero_mul, fs47, h0, if_true, lx]
    · obtain rfl : i = 0 := by omega
      obtain rfl := hN rfl
      simp -implicitDefEqProofs only [push_cast, false_implies, reduceCtorEq, Classical.not_not, Nat.reduceAdd, Nat.reduceSub, Nat.reduceMul, Nat.reduceLeDiff, Nat.reduceLT, Nat.reduceEqDiff, Nat.reduceBEq, Nat.reduceBNe, Int.reduceNeg, Int.reduceToNat, Bool.or_false, Bool.false_or, Bool.or_true, Bool.true_or, BEq.rfl, Bool.not_eq_true, Bool.not_eq_false, decide_eq_true_eq, not_true_eq_false, not_false_eq_true, ite_true, ite_false, List.append_nil, and_assoc, Nat.mul_zero, Nat.zero_mul, fs47, h0, if_false, lx]
def ent47 : Entry := spOf fs47 inv47
theorem e47 : EntryOk Try.prog 47 ent47 := entry_of ok47 inv47
@[push_cast] theorem ent47_app (us : List SV) (look : Look) (x : Nat → Xf.Loc) (k : Nat) : ent47 us look x k = spOf fs47 inv47 us look x k := rfl
def ir51 : IR :=
  .seq (.reg false [⟨some 3, none, ⟨[], []⟩, .box 10 (.t 0)⟩,
    ⟨some 6, none, ⟨[], []⟩, .mov (.k (.int .i64 0))⟩] [0, 6] []) (.seq (.block 0 (.seq (.reg false [⟨some 8, none, ⟨[], []⟩, .ld false (some 3) 0 0 (.t 3)⟩,
    ⟨some 9, none, ⟨[], []⟩, .call (some 4) 11 60 [.t 8]⟩,
    ⟨some 10, none, ⟨[], []⟩, .not (.t 9)⟩,
    ⟨some 7, none, ⟨[], []⟩, .mov (.t 10)⟩] [3, 8, 9, 10] []) (.cond (.t 7) (.seq (.reg false [⟨some 6, none, ⟨[], []⟩, .mov (.k (.int .i64 70))⟩] [1, 2, 7] []) (.ret)) (.seq (.reg false [⟨some 12, none, ⟨[], []⟩, .mov (.t 1)⟩,
    ⟨some 13, none, ⟨[], []⟩, .callp 36 [.t 12]⟩,
    ⟨some 14, none, ⟨[], []⟩, .not (.t 13)⟩,
    ⟨some 15, none, ⟨[], []⟩, .mov (.t 14)⟩,
    ⟨some 16, some (15, false), ⟨[], []⟩, .mov (.t 2)⟩,
    ⟨some 17, some (15, false), ⟨[], []⟩, .bin 0 .lss (.t 16) (.k (.int .i64 0))⟩,
    ⟨some 18, none, ⟨[], []⟩, .pick (.t 15) (.k (.bool true)) (.t 17)⟩,
    ⟨some 19, none, ⟨[], []⟩, .mov (.t 18)⟩,
    ⟨some 20, some (19, false), ⟨[], []⟩, .mov (.t 2)⟩,
    ⟨some 21, some (19, false), ⟨[], []⟩, .bin 0 .gtr (.t 20) (.k (.int .i64 6))⟩,
    ⟨some 22, none, ⟨[], []⟩, .pick (.t 19) (.k (.bool true)) (.t 21)⟩,
    ⟨some 11, none, ⟨[], []⟩, .mov (.t 22)⟩] [1, 2, 7, 12, 13, 14, 15, 16, 17, 18, 19, 20, 21, 22] []) (.cond (.t 11) (.seq (.reg false [⟨some 6, none, ⟨[], []⟩, .mov (.k (.int .i64 2))⟩] [11] []) (.ret)) (.skip)))))) (.seq (.reg false [⟨some 6, none, ⟨[], []⟩, .mov (.k (.int .i64 0))⟩] [11] []) (.ret)))
set_option maxRecDepth 4000 in
theorem comp51 : (Try.f51.body.bind fun c => compC tab isP chkAll ir51 c) = some ir51 := by kernel_rfl
def b28_1 : IR :=
  .seq (.reg false [⟨some 41, none, ⟨[], []⟩, .bin 0 .lss (.t 40) (.t 39)⟩] [] []) (.seq (.cond (.t 41) (.skip) (.exit 0)) (.seq (.block 1 (.seq (.reg false [⟨some 42, none, ⟨[], []⟩, .idxS (.t 38) (.t 40) 2⟩,
    ⟨some 43, none, ⟨[], []⟩, .ld true (some 2) 0 0 (.t 42)⟩,
    ⟨some 11, none, ⟨[], []⟩, .allocI 29 .i64 2⟩,
    ⟨none, none, ⟨[], []⟩, .sto true 2 .i64 (.t 11) (.t 43)⟩] [41, 42, 43] []) (.seq (.reg false [⟨some 44, none, ⟨[], []⟩, .mov (.t 9)⟩,
    ⟨some 45, none, ⟨[], []⟩, .idxP (.t 11) (.k (.int .i64 0)) 2 1⟩,
    ⟨some 46, none, ⟨[], []⟩, .ld true none 0 0 (.t 45)⟩,
    ⟨some 47, none, ⟨[], []⟩, .idxP (.t 11) (.k (.int .i64 1)) 2 1⟩,
    ⟨some 48, none, ⟨[], []⟩, .ld true none 0 0 (.t 47)⟩,
    ⟨some 49, none, ⟨[], []⟩, .call none 30 53 [.t 44, .t 46, .t 48, .k (.fn 38 [])]⟩] [44, 45, 46, 47, 48, 49] []) (.reg false [⟨some 50, none, ⟨[], []⟩, .mov (.t 9)⟩,
    ⟨some 51, none, ⟨[], []⟩, .idxP (.t 11) (.k (.int .i64 0)) 2 1⟩,
    ⟨some 52, none, ⟨[], []⟩, .ld true none 0 0 (.t 51)⟩,
    ⟨some 53, none, ⟨[], []⟩, .idxP (.t 11) (.k (.int .i64 1)) 2 1⟩,
    ⟨some 54, none, ⟨[], []⟩, .ld true none 0 0 (.t 53)⟩,
    ⟨some 55, none, ⟨[], []⟩, .call none 34 54 [.t 50, .t 52, .t 54, .k (.fn 38 [])]⟩] [11, 50, 51, 52, 53, 54, 55] [])))) (.reg false [⟨some 56, none, ⟨[], []⟩, .bin 0 .add (.t 40) (.k (.int .i64 1))⟩,
    ⟨some 40, none, ⟨[], []⟩, .mov (.t 56)⟩] [56] [])))
def r28_2 : IR :=
  .seq (.reg true [⟨some 57, none, ⟨[], []⟩, .fld (.t 3) 0⟩,
    ⟨some 58, none, ⟨[], []⟩, .ld false none 0 0 (.t 57)⟩,
    ⟨some 59, none, ⟨[], []⟩, .fld (.t 3) 1⟩,
    ⟨some 60, none, ⟨[], []⟩, .ld false none 0 0 (.t 59)⟩,
    ⟨some 61, none, ⟨[], []⟩, .mov (.t 9)⟩,
    ⟨some 62, none, ⟨[], []⟩, .nilc (.t 61)⟩,
    ⟨some 63, none, ⟨[], []⟩, .fld (.t 62) 1⟩,
    ⟨some 64, none, ⟨[], []⟩, .ld false none 0 0 (.t 63)⟩,
    ⟨some 65, none, ⟨[], []⟩, .build [.int .i64 0, .int .i64 0, nilSV] [(0, 1, .t 58), (1, 1, .t 60), (2, 1, .t 64)]⟩,
    ⟨none, none, ⟨[], []⟩, .sto false 3 .i64 (.t 6) (.t 65)⟩,
    ⟨some 7, none, ⟨[], []⟩, .mov (.k (.int .i64 0))⟩] [3, 9, 38, 39, 40, 57, 58, 59, 60, 61, 62, 63, 64, 65] []) (.ret)
def ir28 : IR :=
  .seq (.reg false [⟨some 3, none, ⟨[], []⟩, .box 10 (.t 0)⟩,
    ⟨some 6, none, ⟨[], []⟩, .alloc 11 [.int .i64 0, .int .i64 0, nilSV]⟩,
    ⟨some 7, none, ⟨[], []⟩, .mov (.k (.int .i64 0))⟩] [0, 7] []) (.seq (.seq (.reg false [⟨some 12, none, ⟨[], []⟩, .ld false (some 3) 0 0 (.t 3)⟩,
    ⟨some 13, none, ⟨[], []⟩, .mov (.t 1)⟩,
    ⟨some 14, none, ⟨[], []⟩, .mov (.t 2)⟩,
    ⟨some 15, none, ⟨[], []⟩, .call (some 4) 12 51 [.t 12, .t 13, .t 14]⟩,
    ⟨some 8, none, ⟨[], []⟩, .mov (.t 15)⟩] [12, 13, 14, 15] []) (.seq (.reg false [⟨some 16, none, ⟨[], []⟩, .mov (.t 8)⟩,
    ⟨some 17, none, ⟨[], []⟩, .bin 0 .neq (.t 16) (.k (.int .i64 0))⟩] [16] []) (.cond (.t 17) (.seq (.reg false [⟨some 18, none, ⟨[], []⟩, .build [.int .i64 0, .int .i64 0, nilSV] []⟩,
    ⟨some 19, none, ⟨[], []⟩, .mov (.t 8)⟩,
    ⟨none, none, ⟨[], []⟩, .sto false 3 .i64 (.t 6) (.t 18)⟩,
    ⟨some 7, none, ⟨[], []⟩, .mov (.t 19)⟩] [1, 2, 3, 8, 17, 18, 19] []) (.ret)) (.skip)))) (.seq (.seq (.reg false [⟨some 20, none, ⟨[], []⟩, .fld (.t 3) 2⟩,
    ⟨some 21, none, ⟨[], []⟩, .ld false none 0 0 (.t 20)⟩,
    ⟨some 22, none, ⟨[], []⟩, .call (some 4) 16 37 [.t 21, .k (.int .i64 1024)]⟩,
    ⟨some 23, none, ⟨[], []⟩, .not (.t 22)⟩] [7, 8, 17, 20, 21, 22] []) (.cond (.t 23) (.seq (.reg false [⟨some 24, none, ⟨[], []⟩, .build [.int .i64 0, .int .i64 0, nilSV] []⟩,
    ⟨none, none, ⟨[], []⟩, .sto false 3 .i64 (.t 6) (.t 24)⟩,
    ⟨some 7, none, ⟨[], []⟩, .mov (.k (.int .i64 2))⟩] [1, 2, 3, 23, 24] []) (.ret)) (.skip))) (.seq (.reg true [⟨some 25, none, ⟨[], []⟩, .fld (.t 3) 0⟩,
    ⟨some 26, none, ⟨[20, 21, 22, 23], []⟩, .ld false none 0 0 (.t 25)⟩,
    ⟨some 27, none, ⟨[], []⟩, .fld (.t 3) 2⟩,
    ⟨some 28, none, ⟨[], []⟩, .ld false none 0 0 (.t 27)⟩,
    ⟨some 29, none, ⟨[], []⟩, .call (some 4) 20 52 [.t 28]⟩,
    ⟨some 30, none, ⟨[], []⟩, .mov (.t 1)⟩,
    ⟨some 31, none, ⟨[], []⟩, .build [.int .i64 0, nilSV, .int .i64 0] [(0, 1, .t 26), (1, 1, .t 29), (2, 1, .t 30)]⟩,
    ⟨some 32, none, ⟨[], []⟩, .box 24 (.t 31)⟩,
    ⟨some 9, none, ⟨[], []⟩, .mov (.t 32)⟩] [1, 7, 23, 25, 26, 27, 28, 29, 30, 31, 32] []) (.seq (.seq (.reg false [⟨some 33, none, ⟨[], []⟩, .fld (.t 3) 0⟩,
    ⟨some 34, none, ⟨[], []⟩, .ld false none 0 0 (.t 33)⟩,
    ⟨some 35, none, ⟨[], []⟩, .fld (.t 3) 1⟩,
    ⟨some 36, none, ⟨[], []⟩, .ld false none 0 0 (.t 35)⟩,
    ⟨some 37, none, ⟨[], []⟩, .mov (.t 2)⟩,
    ⟨some 38, none, ⟨[], []⟩, .call (some 4) 25 47 [.t 34, .t 36, .t 37]⟩,
    ⟨some 39, none, ⟨[], []⟩, .len (.t 38)⟩,
    ⟨some 40, none, ⟨[], []⟩, .mov (.k (.int .i64 0))⟩] [2, 33, 34, 35, 36, 37] []) (.block 0 (.loop b28_1))) (r28_2)))))
def kp28_1 : List Nat := [3, 6, 9, 38, 39, 40]
def kl28_1 : List Nat := [29, 30, 31, 32, 33, 34, 35, 36, 37]
attribute [push_cast] kp28_1 kl28_1
set_option maxRecDepth 4000 in
theorem comp28 : (Try.f28.body.bind fun c => compC tab isP chkAll ir28 c) = some ir28 := by kernel_rfl
def stOk (kind n : Int) : Prop := (kind = 0 ∨ kind = 1) ∧ 0 ≤ n ∧ n ≤ 6
instance (kind n : Int) : Decidable (stOk kind n) := by unfold stOk; infer_instance
structure AskA where
  a : PlA
  kind : Int
  n : Int
def askE (p : Pl) (kind n : Int) : Int := if p.Ok then if stOk kind n then 0 else 2 else 70
def fs51 : FS where
  A := AskA
  args := fun a => [plV a.a.p a.a.L 0, .int .i64 a.kind, .int .i64 a.n]
  mem := fun a => [some (.ro, a.a.L, .ints .i64 a.a.p.xs)]
  pre := fun a => a.a.p.xs.length ≤ 140737488355328
  res := fun a x => .int .i64 (askE a.a.p a.kind a.n)
  out := fun _ _ => []
  new := fun _ _ => []
def inv51 : List SV → Look → Option (AskA × List Nat)
  | [v, .int .i64 k, .int .i64 n], look => match getP look v with
    | some (a, g) => some (⟨a, k, n⟩, g)
    | _ => none
  | _, _ => none
attribute [push_cast] inv51
theorem ok51 : FSOk Try.prog 51 fs51 := by
  refine ⟨⟨_, Try.func51, by kernel_rfl, by kernel_rfl⟩, fun a => ⟨by simp [fs51, push_cast, noMine, argOwn, Chunk.frArg], by simp [fs51, push_cast, outOk, Chunk.ext], fun x => .inl (by simp [fs51, push_cast, frNew, frOut, Chunk.fr])⟩, fun a hp => ?_⟩
  obtain ⟨⟨⟨w, h, xs⟩, L⟩, kind, n⟩ := a
  change xs.length ≤ 140737488355328 at hp
  change Tri Try.prog 51 [plV ⟨w, h, xs⟩ L 0, .int .i64 kind, .int .i64 n] [some (.ro, L, .ints .i64 xs)] (postF fs51 ⟨⟨⟨w, h, xs⟩, L⟩, kind, n⟩)
  refine tri_evS (hyp (l := [(60, ent60)]) (lp := [(36, kindF)]) ⟨e60, trivial⟩ ⟨p36, trivial⟩) Try.func51 comp51 (rs := [.tmp 6]) (by rfl) Try.ntmps51 15 ?_
  simp -implicitDefEqProofs only [push_cast, false_implies, reduceCtorEq, Classical.not_not, Nat.reduceAdd, Nat.reduceSub, Nat.reduceMul, Nat.reduceLeDiff, Nat.reduceLT, Nat.reduceEqDiff, Nat.reduceBEq, Nat.reduceBNe, Int.reduceNeg, Int.reduceToNat, Bool.or_false, Bool.false_or, Bool.or_true, Bool.true_or, BEq.rfl, Bool.not_eq_true, Bool.not_eq_false, decide_eq_true_eq, not_true_eq_false, not_false_eq_true, ite_true, ite_false, List.append_nil, and_assoc, Nat.mul_zero, Nat.zero_mul, ir51, fs60]
  refine fun X => ⟨hp, fun hn => ?_, fun hy => ⟨fun hb => ?_, fun hg => ?_⟩⟩
  · refine postF.mk' (fun _ => default) [some 0] ?_
    simp -implicitDefEqProofs only [push_cast, false_implies, reduceCtorEq, Classical.not_not, Nat.reduceAdd, Nat.reduceSub, Nat.reduceMul, Nat.reduceLeDiff, Nat.reduceLT, Nat.reduceEqDiff, Nat.reduceBEq, Nat.reduceBNe, Int.reduceNeg, Int.reduceToNat, Bool.or_false, Bool.false_or, Bool.or_true, Bool.true_or, BEq.rfl, Bool.not_eq_true, Bool.not_eq_false, decide_eq_true_eq, not_true_eq_false, not_false_eq_true, ite_true, ite_false, List.append_nil, and_assoc, Nat.mul_zero, Nat.zero_mul, fs51, askE, hn, if_false]
  · have e : ¬ stOk kind n := fun H => by obtain ⟨q1, q2, q3⟩ := H; simp [q1] at hb; omega
    refine postF.mk' (fun _ => default) [some 0] ?_
    simp -implicitDefEqProofs only [push_cast, false_implies, reduceCtorEq, Classical.not_not, Nat.reduceAdd, Nat.reduceSub, Nat.reduceMul, Nat.reduceLeDiff, Nat.reduceLT, Nat.reduceEqDiff, Nat.reduceBEq, Nat.reduceBNe, Int.reduceNeg, Int.reduceToNat, Bool.or_false, Bool.false_or, Bool.or_true, Bool.true_or, BEq.rfl, Bool.not_eq_true, Bool.not_eq_false, decide_eq_true_eq, not_true_eq_false, not_false_eq_true, ite_true, ite_false, List.append_nil, and_assoc, Nat.mul_zero, Nat.zero_mul, fs51, askE, hy, e, if_false, if_true]
  · have e : stOk kind n := ⟨Classical.byContradiction fun q => hg (.inl (.inl q)), Classical.byContradiction fun q => hg (.inl (.inr (by omega))), Classical.byContradiction fun q => hg (.inr (by omega))⟩
    refine postF.mk' (fun _ => default) [some 0] ?_
    simp -implicitDefEqProofs only [push_cast, false_implies, reduceCtorEq, Classical.not_not, Nat.reduceAdd, Nat.reduceSub, Nat.reduceMul, Nat.reduceLeDiff, Nat.reduceLT, Nat.reduceEqDiff, Nat.reduceBEq, Nat.reduceBNe, Int.reduceNeg, Int.reduceToNat, Bool.or_false, Bool.false_or, Bool.or_true, Bool.true_or, BEq.rfl, Bool.not_eq_true, Bool.not_eq_false, decide_eq_true_eq, not_true_eq_false, not_false_eq_true, ite_true, ite_false, List.append_nil, and_assoc, Nat.mul_zero, Nat.zero_mul, fs51, askE, hy, e, if_true]
def ent51 : Entry := spOf fs51 inv51
theorem e51 : EntryOk Try.prog 51 ent51 := entry_of ok51 inv51
@[push_cast] theorem ent51_app (us : List SV) (look : Look) (x : Nat → Xf.Loc) (k : Nat) : ent51 us look x k = spOf fs51 inv51 us look x k := rfl
def fwOk (p : Pl) (kind n : Int) : Prop := p.Ok ∧ stOk kind n ∧ AllIn (-1024) 1024 p.xs
instance (p : Pl) (kind n : Int) : Decidable (fwOk p kind n) := by unfold fwOk; infer_instance
def fwP (p : Pl) (kind n : Int) : Pl := if fwOk p kind n then ⟨p.w, p.h, fwd lineL kind p.w.toNat p.h.toNat p.xs n.toNat⟩ else pl0
def fwE (p : Pl) (kind n : Int) : Int := if fwOk p kind n then 0 else if p.Ok then 2 else 70
/-- The sides, as natural numbers. -/
theorem Pl.nat {w h : Int} {xs : List Int} (hs : SidesOk w h) (hl : (xs.length : Int) = w * h) : ∃ W H : Nat, w = W ∧ h = H ∧ W ≤ 200 ∧ H ≤ 200 ∧ xs.length = H * W ∧ xs.length ≤ 8192 := by
  obtain ⟨a1, a2, a3, a4, a5⟩ := id hs
  obtain ⟨W, rfl⟩ : ∃ n : Nat, w = (n : Int) := ⟨w.toNat, by omega⟩
  obtain ⟨H, rfl⟩ : ∃ n : Nat, h = (n : Int) := ⟨h.toNat, by omega⟩
  refine ⟨W, H, rfl, rfl, by omega, by omega, ?_, by omega⟩
  rw [Nat.mul_comm, ← Int.ofNat_inj]; simp only [Int.natCast_mul]; exact hl
theorem fwd_bd6 {kind : Int} {W H : Nat} {xs : List Int} (hl : xs.length = H * W) (h : AllIn (-1024) 1024 xs) {i : Nat} (hi : i ≤ 5) : AllIn (-357913941) 357913941 (fwd lineL kind W H xs i) ∧
    ∀ (w h : Nat), w ≤ W → h ≤ H → AllIn (-357913941) 357913941 (rwL lineL kind W w (fwd lineL kind W H xs i) h) := by
  have hB := fwd_bd trn_line (kind := kind) (W := W) (h := H) (by omega) h (by omega) i
  have h0 : (0 : Int) ≤ bnd 1024 i := bnd_pos (by omega) i
  have key : ∀ i : Nat, i ≤ 5 → 3 * bnd 1024 i + 1 ≤ 357913941 := by
    intro i hi
    have : i = 0 ∨ i = 1 ∨ i = 2 ∨ i = 3 ∨ i = 4 ∨ i = 5 := by omega
    rcases this with rfl | rfl | rfl | rfl | rfl | rfl <;> decide
  have k := key i hi
  have up : ∀ (B : Int) (ys : List Int), B ≤ 357913941 → AllIn (-B) B ys → AllIn (-357913941) 357913941 ys := fun B ys hB h n hn => by have := h n hn; omega
  refine ⟨up _ _ (by omega) hB, fun w h hw hh => up _ _ k (rwL_bd trn_line hw (by rw [fwd_length, hl]; exact Nat.mul_le_mul_right _ hh) hB h0)⟩
end Go.Proofs.Ytefggfjblhniaaa
