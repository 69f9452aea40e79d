import Derived.Test.YtefggfjblhniaaaKc
import Derived.Test.YtefggfjblhniaaaProg
import Derived.Test.YtefggfjblhniaaaChecked
set_option linter.unusedVariables false
set_option linter.unusedSimpArgs false
set_option maxRecDepth 1000
namespace Go.Proofs.Ytefggfjblhniaaa
open Xf
def tab : Tab := fun t => match t with
  | 2 => some ⟨1, 8, [.int .i64 0], .int .i64, none⟩
  | 3 => some ⟨1, 8, [.int .i64 0], .int .i64, none⟩
  | 4 => some ⟨1, 1, [.bool false], .bool, none⟩
  | 5 => some ⟨1, 1, [.int .u8 0], .int .u8, none⟩
  | 6 => some ⟨1, 1, [.int .u8 0], .int .u8, none⟩
  | 7 => some ⟨4, 24, [.int .i64 0, .int .i64 0, .bool false, .int .u8 0], .struct [(0, 2), (1, 3), (2, 4), (3, 6)], (some [true, true, false, true])⟩
  | 8 => some ⟨4, 24, [.int .i64 0, .int .i64 0, .bool false, .int .u8 0], .struct [(0, 2), (1, 3), (2, 4), (3, 6)], (some [true, true, false, true])⟩
  | 12 => some ⟨1, 8, [.int .u64 0], .int .u64, none⟩
  | 15 => some ⟨1, 8, [.val (.pointer none)], .pointer, none⟩
  | 16 => some ⟨1, 8, [.val (.pointer none)], .pointer, none⟩
  | 17 => some ⟨1, 8, [.val (.pointer none)], .pointer, none⟩
  | 18 => some ⟨1, 8, [.val (.pointer none)], .struct [(0, 17)], none⟩
  | 19 => some ⟨1, 8, [.val (.pointer none)], .struct [(0, 17)], none⟩
  | 21 => some ⟨1, 4, [.int .i32 0], .int .i32, none⟩
  | 22 => some ⟨1, 24, [nilSV], .slice 3, none⟩
  | 24 => some ⟨1, 8, [.int .i64 0], .int .i64, none⟩
  | 30 => some ⟨3, 40, [.int .i64 0, .int .i64 0, nilSV], .struct [(0, 3), (1, 3), (2, 22)], none⟩
  | 31 => some ⟨3, 40, [.int .i64 0, .int .i64 0, nilSV], .struct [(0, 3), (1, 3), (2, 22)], none⟩
  | 37 => some ⟨1, 24, [nilSV], .slice 42, none⟩
  | 40 => some ⟨1, 24, [nilSV], .slice 4, none⟩
  | 41 => some ⟨6, 48, [.int .i64 0, .int .i64 0, .int .i64 0, .int .i64 0, .int .i64 0, .int .i64 0], .struct [(0, 3), (1, 3), (2, 3), (3, 3), (4, 3), (5, 3)], (some [true, true, true, true, true, true])⟩
  | 42 => some ⟨6, 48, [.int .i64 0, .int .i64 0, .int .i64 0, .int .i64 0, .int .i64 0, .int .i64 0], .struct [(0, 3), (1, 3), (2, 3), (3, 3), (4, 3), (5, 3)], (some [true, true, true, true, true, true])⟩
  | 48 => some ⟨5, 88, [.int .i64 0, .int .i64 0, nilSV, nilSV, nilSV], .struct [(0, 3), (1, 3), (2, 22), (3, 22), (4, 22)], none⟩
  | 49 => some ⟨5, 88, [.int .i64 0, .int .i64 0, nilSV, nilSV, nilSV], .struct [(0, 3), (1, 3), (2, 22), (3, 22), (4, 22)], none⟩
  | 52 => some ⟨9, 120, [.int .i64 0, .int .i64 0, nilSV, .int .i64 0, .int .i64 0, nilSV, .int .i64 0, .int .i64 0, nilSV], .array 3 31, none⟩
  | 53 => some ⟨1, 24, [nilSV], .slice 31, none⟩
  | 65 => some ⟨1, 24, [nilSV], .slice 67, none⟩
  | 67 => some ⟨2, 16, [.int .i64 0, .int .i64 0], .array 2 3, (some [true, true])⟩
  | 73 => some ⟨1, 8, [.val (.pointer none)], .pointer, none⟩
  | 75 => some ⟨3, 40, [.int .i64 0, nilSV, .int .i64 0], .struct [(0, 3), (1, 22), (2, 3)], none⟩
  | 76 => some ⟨3, 40, [.int .i64 0, nilSV, .int .i64 0], .struct [(0, 3), (1, 22), (2, 3)], none⟩
  | 85 => some ⟨1, 8, [.int .u64 0], .int .u64, none⟩
  | 87 => some ⟨1, 8, [.val (.pointer none)], .pointer, none⟩
  | 98 => some ⟨0, 0, [], .array 0 16, none⟩
  | 99 => some ⟨0, 0, [], .struct [(0, 98)], none⟩
  | 100 => some ⟨0, 0, [], .struct [(0, 98)], none⟩
  | 102 => some ⟨1, 4, [.int .u32 0], .int .u32, none⟩
  | 103 => some ⟨1, 1, [.int .u8 0], .int .u8, none⟩
  | 104 => some ⟨1, 1, [.int .u8 0], .int .u8, none⟩
  | 106 => some ⟨1, 8, [.val (.pointer none)], .pointer, none⟩
  | 107 => some ⟨1, 4, [.int .i32 0], .int .i32, none⟩
  | 108 => some ⟨1, 4, [.int .i32 0], .int .i32, none⟩
  | 109 => some ⟨11, 48, [.int .u64 0, .int .u64 0, .int .u32 0, .int .u8 0, .int .u8 0, .int .u8 0, .int .u8 0, .val .nilFunc, .val (.pointer none), .int .i32 0, .int .i32 0], .struct [(0, 12), (1, 12), (2, 102), (3, 103), (4, 5), (5, 5), (6, 104), (7, 105), (8, 106), (9, 107), (10, 108)], none⟩
  | 110 => some ⟨11, 48, [.int .u64 0, .int .u64 0, .int .u32 0, .int .u8 0, .int .u8 0, .int .u8 0, .int .u8 0, .val .nilFunc, .val (.pointer none), .int .i32 0, .int .i32 0], .struct [(0, 12), (1, 12), (2, 102), (3, 103), (4, 5), (5, 5), (6, 104), (7, 105), (8, 106), (9, 107), (10, 108)], none⟩
  | _ => none
theorem tt2 : TtOk Try.prog 2 ⟨1, 8, [.int .i64 0], .int .i64, none⟩ := TtOk.of (z := .int .i64 0) (by kernel_rfl) (by kernel_rfl) (by simp [Dens, Den, nilSV, nilLoc0, Value.cells]) (by simp [TT.agg, Value.cells]) Try.underlying2 (by first | exact ⟨_, rfl, rfl⟩ | rfl | exact ⟨_, rfl⟩) (by first | rfl | kernel_rfl) rfl
theorem tt3 : TtOk Try.prog 3 ⟨1, 8, [.int .i64 0], .int .i64, none⟩ := TtOk.of (z := .int .i64 0) (by kernel_rfl) (by kernel_rfl) (by simp [Dens, Den, nilSV, nilLoc0, Value.cells]) (by simp [TT.agg, Value.cells]) Try.underlying3 (by first | exact ⟨_, rfl, rfl⟩ | rfl | exact ⟨_, rfl⟩) (by first | rfl | kernel_rfl) rfl
theorem tt4 : TtOk Try.prog 4 ⟨1, 1, [.bool false], .bool, none⟩ := TtOk.of (z := .bool false) (by kernel_rfl) (by kernel_rfl) (by simp [Dens, Den, nilSV, nilLoc0, Value.cells]) (by simp [TT.agg, Value.cells]) Try.underlying4 (by first | exact ⟨_, rfl, rfl⟩ | rfl | exact ⟨_, rfl⟩) (by first | rfl | kernel_rfl) rfl
theorem tt5 : TtOk Try.prog 5 ⟨1, 1, [.int .u8 0], .int .u8, none⟩ := TtOk.of (z := .int .u8 0) (by kernel_rfl) (by kernel_rfl) (by simp [Dens, Den, nilSV, nilLoc0, Value.cells]) (by simp [TT.agg, Value.cells]) Try.underlying5 (by first | exact ⟨_, rfl, rfl⟩ | rfl | exact ⟨_, rfl⟩) (by first | rfl | kernel_rfl) rfl
theorem tt6 : TtOk Try.prog 6 ⟨1, 1, [.int .u8 0], .int .u8, none⟩ := TtOk.of (z := .int .u8 0) (by kernel_rfl) (by kernel_rfl) (by simp [Dens, Den, nilSV, nilLoc0, Value.cells]) (by simp [TT.agg, Value.cells]) Try.underlying6 (by first | exact ⟨_, rfl, rfl⟩ | rfl | exact ⟨_, rfl⟩) (by first | rfl | kernel_rfl) rfl
theorem tt7 : TtOk Try.prog 7 ⟨4, 24, [.int .i64 0, .int .i64 0, .bool false, .int .u8 0], .struct [(0, 2), (1, 3), (2, 4), (3, 6)], (some [true, true, false, true])⟩ := TtOk.of (z := .agg #[.int .i64 0, .int .i64 0, .bool false, .int .u8 0]) (by kernel_rfl) (by kernel_rfl) (by simp [Dens, Den, nilSV, nilLoc0, Value.cells]) (by simp [TT.agg, Value.cells]) Try.underlying7 (by first | exact ⟨_, rfl, rfl⟩ | rfl | exact ⟨_, rfl⟩) (by first | rfl | kernel_rfl) rfl
theorem tt8 : TtOk Try.prog 8 ⟨4, 24, [.int .i64 0, .int .i64 0, .bool false, .int .u8 0], .struct [(0, 2), (1, 3), (2, 4), (3, 6)], (some [true, true, false, true])⟩ := TtOk.of (z := .agg #[.int .i64 0, .int .i64 0, .bool false, .int .u8 0]) (by kernel_rfl) (by kernel_rfl) (by simp [Dens, Den, nilSV, nilLoc0, Value.cells]) (by simp [TT.agg, Value.cells]) Try.underlying8 (by first | exact ⟨_, rfl, rfl⟩ | rfl | exact ⟨_, rfl⟩) (by first | rfl | kernel_rfl) rfl
theorem tt12 : TtOk Try.prog 12 ⟨1, 8, [.int .u64 0], .int .u64, none⟩ := TtOk.of (z := .int .u64 0) (by kernel_rfl) (by kernel_rfl) (by simp [Dens, Den, nilSV, nilLoc0, Value.cells]) (by simp [TT.agg, Value.cells]) Try.underlying12 (by first | exact ⟨_, rfl, rfl⟩ | rfl | exact ⟨_, rfl⟩) (by first | rfl | kernel_rfl) rfl
theorem tt15 : TtOk Try.prog 15 ⟨1, 8, [.val (.pointer none)], .pointer, none⟩ := TtOk.of (z := .pointer none) (by kernel_rfl) (by kernel_rfl) (by simp [Dens, Den, nilSV, nilLoc0, Value.cells]) (by simp [TT.agg, Value.cells]) Try.underlying15 (by first | exact ⟨_, rfl, rfl⟩ | rfl | exact ⟨_, rfl⟩) (by first | rfl | kernel_rfl) rfl
theorem tt16 : TtOk Try.prog 16 ⟨1, 8, [.val (.pointer none)], .pointer, none⟩ := TtOk.of (z := .pointer none) (by kernel_rfl) (by kernel_rfl) (by simp [Dens, Den, nilSV, nilLoc0, Value.cells]) (by simp [TT.agg, Value.cells]) Try.underlying16 (by first | exact ⟨_, rfl, rfl⟩ | rfl | exact ⟨_, rfl⟩) (by first | rfl | kernel_rfl) rfl
theorem tt17 : TtOk Try.prog 17 ⟨1, 8, [.val (.pointer none)], .pointer, none⟩ := TtOk.of (z := .pointer none) (by kernel_rfl) (by kernel_rfl) (by simp [Dens, Den, nilSV, nilLoc0, Value.cells]) (by simp [TT.agg, Value.cells]) Try.underlying17 (by first | exact ⟨_, rfl, rfl⟩ | rfl | exact ⟨_, rfl⟩) (by first | rfl | kernel_rfl) rfl
theorem tt18 : TtOk Try.prog 18 ⟨1, 8, [.val (.pointer none)], .struct [(0, 17)], none⟩ := TtOk.of (z := .agg #[.pointer none]) (by kernel_rfl) (by kernel_rfl) (by simp [Dens, Den, nilSV, nilLoc0, Value.cells]) (by simp [TT.agg, Value.cells]) Try.underlying18 (by first | exact ⟨_, rfl, rfl⟩ | rfl | exact ⟨_, rfl⟩) (by first | rfl | kernel_rfl) rfl
theorem tt19 : TtOk Try.prog 19 ⟨1, 8, [.val (.pointer none)], .struct [(0, 17)], none⟩ := TtOk.of (z := .agg #[.pointer none]) (by kernel_rfl) (by kernel_rfl) (by simp [Dens, Den, nilSV, nilLoc0, Value.cells]) (by simp [TT.agg, Value.cells]) Try.underlying19 (by first | exact ⟨_, rfl, rfl⟩ | rfl | exact ⟨_, rfl⟩) (by first | rfl | kernel_rfl) rfl
theorem tt21 : TtOk Try.prog 21 ⟨1, 4, [.int .i32 0], .int .i32, none⟩ := TtOk.of (z := .int .i32 0) (by kernel_rfl) (by kernel_rfl) (by simp [Dens, Den, nilSV, nilLoc0, Value.cells]) (by simp [TT.agg, Value.cells]) Try.underlying21 (by first | exact ⟨_, rfl, rfl⟩ | rfl | exact ⟨_, rfl⟩) (by first | rfl | kernel_rfl) rfl
theorem tt22 : TtOk Try.prog 22 ⟨1, 24, [nilSV], .slice 3, none⟩ := TtOk.of (z := .slice none 0 0) (by kernel_rfl) (by kernel_rfl) (by simp [Dens, Den, nilSV, nilLoc0, Value.cells]) (by simp [TT.agg, Value.cells]) Try.underlying22 (by first | exact ⟨_, rfl, rfl⟩ | rfl | exact ⟨_, rfl⟩) (by first | rfl | kernel_rfl) rfl
theorem tt24 : TtOk Try.prog 24 ⟨1, 8, [.int .i64 0], .int .i64, none⟩ := TtOk.of (z := .int .i64 0) (by kernel_rfl) (by kernel_rfl) (by simp [Dens, Den, nilSV, nilLoc0, Value.cells]) (by simp [TT.agg, Value.cells]) Try.underlying24 (by first | exact ⟨_, rfl, rfl⟩ | rfl | exact ⟨_, rfl⟩) (by first | rfl | kernel_rfl) rfl
theorem tt30 : TtOk Try.prog 30 ⟨3, 40, [.int .i64 0, .int .i64 0, nilSV], .struct [(0, 3), (1, 3), (2, 22)], none⟩ := TtOk.of (z := .agg #[.int .i64 0, .int .i64 0, .slice none 0 0]) (by kernel_rfl) (by kernel_rfl) (by simp [Dens, Den, nilSV, nilLoc0, Value.cells]) (by simp [TT.agg, Value.cells]) Try.underlying30 (by first | exact ⟨_, rfl, rfl⟩ | rfl | exact ⟨_, rfl⟩) (by first | rfl | kernel_rfl) rfl
theorem tt31 : TtOk Try.prog 31 ⟨3, 40, [.int .i64 0, .int .i64 0, nilSV], .struct [(0, 3), (1, 3), (2, 22)], none⟩ := TtOk.of (z := .agg #[.int .i64 0, .int .i64 0, .slice none 0 0]) (by kernel_rfl) (by kernel_rfl) (by simp [Dens, Den, nilSV, nilLoc0, Value.cells]) (by simp [TT.agg, Value.cells]) Try.underlying31 (by first | exact ⟨_, rfl, rfl⟩ | rfl | exact ⟨_, rfl⟩) (by first | rfl | kernel_rfl) rfl
theorem tt37 : TtOk Try.prog 37 ⟨1, 24, [nilSV], .slice 42, none⟩ := TtOk.of (z := .slice none 0 0) (by kernel_rfl) (by kernel_rfl) (by simp [Dens, Den, nilSV, nilLoc0, Value.cells]) (by simp [TT.agg, Value.cells]) Try.underlying37 (by first | exact ⟨_, rfl, rfl⟩ | rfl | exact ⟨_, rfl⟩) (by first | rfl | kernel_rfl) rfl
theorem tt40 : TtOk Try.prog 40 ⟨1, 24, [nilSV], .slice 4, none⟩ := TtOk.of (z := .slice none 0 0) (by kernel_rfl) (by kernel_rfl) (by simp [Dens, Den, nilSV, nilLoc0, Value.cells]) (by simp [TT.agg, Value.cells]) Try.underlying40 (by first | exact ⟨_, rfl, rfl⟩ | rfl | exact ⟨_, rfl⟩) (by first | rfl | kernel_rfl) rfl
theorem tt41 : TtOk Try.prog 41 ⟨6, 48, [.int .i64 0, .int .i64 0, .int .i64 0, .int .i64 0, .int .i64 0, .int .i64 0], .struct [(0, 3), (1, 3), (2, 3), (3, 3), (4, 3), (5, 3)], (some [true, true, true, true, true, true])⟩ := TtOk.of (z := .agg #[.int .i64 0, .int .i64 0, .int .i64 0, .int .i64 0, .int .i64 0, .int .i64 0]) (by kernel_rfl) (by kernel_rfl) (by simp [Dens, Den, nilSV, nilLoc0, Value.cells]) (by simp [TT.agg, Value.cells]) Try.underlying41 (by first | exact ⟨_, rfl, rfl⟩ | rfl | exact ⟨_, rfl⟩) (by first | rfl | kernel_rfl) rfl
theorem tt42 : TtOk Try.prog 42 ⟨6, 48, [.int .i64 0, .int .i64 0, .int .i64 0, .int .i64 0, .int .i64 0, .int .i64 0], .struct [(0, 3), (1, 3), (2, 3), (3, 3), (4, 3), (5, 3)], (some [true, true, true, true, true, true])⟩ := TtOk.of (z := .agg #[.int .i64 0, .int .i64 0, .int .i64 0, .int .i64 0, .int .i64 0, .int .i64 0]) (by kernel_rfl) (by kernel_rfl) (by simp [Dens, Den, nilSV, nilLoc0, Value.cells]) (by simp [TT.agg, Value.cells]) Try.underlying42 (by first | exact ⟨_, rfl, rfl⟩ | rfl | exact ⟨_, rfl⟩) (by first | rfl | kernel_rfl) rfl
theorem tt48 : TtOk Try.prog 48 ⟨5, 88, [.int .i64 0, .int .i64 0, nilSV, nilSV, nilSV], .struct [(0, 3), (1, 3), (2, 22), (3, 22), (4, 22)], none⟩ := TtOk.of (z := .agg #[.int .i64 0, .int .i64 0, .slice none 0 0, .slice none 0 0, .slice none 0 0]) (by kernel_rfl) (by kernel_rfl) (by simp [Dens, Den, nilSV, nilLoc0, Value.cells]) (by simp [TT.agg, Value.cells]) Try.underlying48 (by first | exact ⟨_, rfl, rfl⟩ | rfl | exact ⟨_, rfl⟩) (by first | rfl | kernel_rfl) rfl
theorem tt49 : TtOk Try.prog 49 ⟨5, 88, [.int .i64 0, .int .i64 0, nilSV, nilSV, nilSV], .struct [(0, 3), (1, 3), (2, 22), (3, 22), (4, 22)], none⟩ := TtOk.of (z := .agg #[.int .i64 0, .int .i64 0, .slice none 0 0, .slice none 0 0, .slice none 0 0]) (by kernel_rfl) (by kernel_rfl) (by simp [Dens, Den, nilSV, nilLoc0, Value.cells]) (by simp [TT.agg, Value.cells]) Try.underlying49 (by first | exact ⟨_, rfl, rfl⟩ | rfl | exact ⟨_, rfl⟩) (by first | rfl | kernel_rfl) rfl
theorem tt52 : TtOk Try.prog 52 ⟨9, 120, [.int .i64 0, .int .i64 0, nilSV, .int .i64 0, .int .i64 0, nilSV, .int .i64 0, .int .i64 0, nilSV], .array 3 31, none⟩ := TtOk.of (z := .agg #[.int .i64 0, .int .i64 0, .slice none 0 0, .int .i64 0, .int .i64 0, .slice none 0 0, .int .i64 0, .int .i64 0, .slice none 0 0]) (by kernel_rfl) (by kernel_rfl) (by simp [Dens, Den, nilSV, nilLoc0, Value.cells]) (by simp [TT.agg, Value.cells]) Try.underlying52 (by first | exact ⟨_, rfl, rfl⟩ | rfl | exact ⟨_, rfl⟩) (by first | rfl | kernel_rfl) rfl
theorem tt53 : TtOk Try.prog 53 ⟨1, 24, [nilSV], .slice 31, none⟩ := TtOk.of (z := .slice none 0 0) (by kernel_rfl) (by kernel_rfl) (by simp [Dens, Den, nilSV, nilLoc0, Value.cells]) (by simp [TT.agg, Value.cells]) Try.underlying53 (by first | exact ⟨_, rfl, rfl⟩ | rfl | exact ⟨_, rfl⟩) (by first | rfl | kernel_rfl) rfl
theorem tt65 : TtOk Try.prog 65 ⟨1, 24, [nilSV], .slice 67, none⟩ := TtOk.of (z := .slice none 0 0) (by kernel_rfl) (by kernel_rfl) (by simp [Dens, Den, nilSV, nilLoc0, Value.cells]) (by simp [TT.agg, Value.cells]) Try.underlying65 (by first | exact ⟨_, rfl, rfl⟩ | rfl | exact ⟨_, rfl⟩) (by first | rfl | kernel_rfl) rfl
theorem tt67 : TtOk Try.prog 67 ⟨2, 16, [.int .i64 0, .int .i64 0], .array 2 3, (some [true, true])⟩ := TtOk.of (z := .agg #[.int .i64 0, .int .i64 0]) (by kernel_rfl) (by kernel_rfl) (by simp [Dens, Den, nilSV, nilLoc0, Value.cells]) (by simp [TT.agg, Value.cells]) Try.underlying67 (by first | exact ⟨_, rfl, rfl⟩ | rfl | exact ⟨_, rfl⟩) (by first | rfl | kernel_rfl) rfl
theorem tt73 : TtOk Try.prog 73 ⟨1, 8, [.val (.pointer none)], .pointer, none⟩ := TtOk.of (z := .pointer none) (by kernel_rfl) (by kernel_rfl) (by simp [Dens, Den, nilSV, nilLoc0, Value.cells]) (by simp [TT.agg, Value.cells]) Try.underlying73 (by first | exact ⟨_, rfl, rfl⟩ | rfl | exact ⟨_, rfl⟩) (by first | rfl | kernel_rfl) rfl
theorem tt75 : TtOk Try.prog 75 ⟨3, 40, [.int .i64 0, nilSV, .int .i64 0], .struct [(0, 3), (1, 22), (2, 3)], none⟩ := TtOk.of (z := .agg #[.int .i64 0, .slice none 0 0, .int .i64 0]) (by kernel_rfl) (by kernel_rfl) (by simp [Dens, Den, nilSV, nilLoc0, Value.cells]) (by simp [TT.agg, Value.cells]) Try.underlying75 (by first | exact ⟨_, rfl, rfl⟩ | rfl | exact ⟨_, rfl⟩) (by first | rfl | kernel_rfl) rfl
theorem tt76 : TtOk Try.prog 76 ⟨3, 40, [.int .i64 0, nilSV, .int .i64 0], .struct [(0, 3), (1, 22), (2, 3)], none⟩ := TtOk.of (z := .agg #[.int .i64 0, .slice none 0 0, .int .i64 0]) (by kernel_rfl) (by kernel_rfl) (by simp [Dens, Den, nilSV, nilLoc0, Value.cells]) (by simp [TT.agg, Value.cells]) Try.underlying76 (by first | exact ⟨_, rfl, rfl⟩ | rfl | exact ⟨_, rfl⟩) (by first | rfl | kernel_rfl) rfl
theorem tt85 : TtOk Try.prog 85 ⟨1, 8, [.int .u64 0], .int .u64, none⟩ := TtOk.of (z := .int .u64 0) (by kernel_rfl) (by kernel_rfl) (by simp [Dens, Den, nilSV, nilLoc0, Value.cells]) (by simp [TT.agg, Value.cells]) Try.underlying85 (by first | exact ⟨_, rfl, rfl⟩ | rfl | exact ⟨_, rfl⟩) (by first | rfl | kernel_rfl) rfl
theorem tt87 : TtOk Try.prog 87 ⟨1, 8, [.val (.pointer none)], .pointer, none⟩ := TtOk.of (z := .pointer none) (by kernel_rfl) (by kernel_rfl) (by simp [Dens, Den, nilSV, nilLoc0, Value.cells]) (by simp [TT.agg, Value.cells]) Try.underlying87 (by first | exact ⟨_, rfl, rfl⟩ | rfl | exact ⟨_, rfl⟩) (by first | rfl | kernel_rfl) rfl
theorem tt98 : TtOk Try.prog 98 ⟨0, 0, [], .array 0 16, none⟩ := TtOk.of (z := .agg #[]) (by kernel_rfl) (by kernel_rfl) (by simp [Dens, Den, nilSV, nilLoc0, Value.cells]) (by simp [TT.agg, Value.cells]) Try.underlying98 (by first | exact ⟨_, rfl, rfl⟩ | rfl | exact ⟨_, rfl⟩) (by first | rfl | kernel_rfl) rfl
theorem tt99 : TtOk Try.prog 99 ⟨0, 0, [], .struct [(0, 98)], none⟩ := TtOk.of (z := .agg #[]) (by kernel_rfl) (by kernel_rfl) (by simp [Dens, Den, nilSV, nilLoc0, Value.cells]) (by simp [TT.agg, Value.cells]) Try.underlying99 (by first | exact ⟨_, rfl, rfl⟩ | rfl | exact ⟨_, rfl⟩) (by first | rfl | kernel_rfl) rfl
theorem tt100 : TtOk Try.prog 100 ⟨0, 0, [], .struct [(0, 98)], none⟩ := TtOk.of (z := .agg #[]) (by kernel_rfl) (by kernel_rfl) (by simp [Dens, Den, nilSV, nilLoc0, Value.cells]) (by simp [TT.agg, Value.cells]) Try.underlying100 (by first | exact ⟨_, rfl, rfl⟩ | rfl | exact ⟨_, rfl⟩) (by first | rfl | kernel_rfl) rfl
theorem tt102 : TtOk Try.prog 102 ⟨1, 4, [.int .u32 0], .int .u32, none⟩ := TtOk.of (z := .int .u32 0) (by kernel_rfl) (by kernel_rfl) (by simp [Dens, Den, nilSV, nilLoc0, Value.cells]) (by simp [TT.agg, Value.cells]) Try.underlying102 (by first | exact ⟨_, rfl, rfl⟩ | rfl | exact ⟨_, rfl⟩) (by first | rfl | kernel_rfl) rfl
theorem tt103 : TtOk Try.prog 103 ⟨1, 1, [.int .u8 0], .int .u8, none⟩ := TtOk.of (z := .int .u8 0) (by kernel_rfl) (by kernel_rfl) (by simp [Dens, Den, nilSV, nilLoc0, Value.cells]) (by simp [TT.agg, Value.cells]) Try.underlying103 (by first | exact ⟨_, rfl, rfl⟩ | rfl | exact ⟨_, rfl⟩) (by first | rfl | kernel_rfl) rfl
theorem tt104 : TtOk Try.prog 104 ⟨1, 1, [.int .u8 0], .int .u8, none⟩ := TtOk.of (z := .int .u8 0) (by kernel_rfl) (by kernel_rfl) (by simp [Dens, Den, nilSV, nilLoc0, Value.cells]) (by simp [TT.agg, Value.cells]) Try.underlying104 (by first | exact ⟨_, rfl, rfl⟩ | rfl | exact ⟨_, rfl⟩) (by first | rfl | kernel_rfl) rfl
theorem tt106 : TtOk Try.prog 106 ⟨1, 8, [.val (.pointer none)], .pointer, none⟩ := TtOk.of (z := .pointer none) (by kernel_rfl) (by kernel_rfl) (by simp [Dens, Den, nilSV, nilLoc0, Value.cells]) (by simp [TT.agg, Value.cells]) Try.underlying106 (by first | exact ⟨_, rfl, rfl⟩ | rfl | exact ⟨_, rfl⟩) (by first | rfl | kernel_rfl) rfl
theorem tt107 : TtOk Try.prog 107 ⟨1, 4, [.int .i32 0], .int .i32, none⟩ := TtOk.of (z := .int .i32 0) (by kernel_rfl) (by kernel_rfl) (by simp [Dens, Den, nilSV, nilLoc0, Value.cells]) (by simp [TT.agg, Value.cells]) Try.underlying107 (by first | exact ⟨_, rfl, rfl⟩ | rfl | exact ⟨_, rfl⟩) (by first | rfl | kernel_rfl) rfl
theorem tt108 : TtOk Try.prog 108 ⟨1, 4, [.int .i32 0], .int .i32, none⟩ := TtOk.of (z := .int .i32 0) (by kernel_rfl) (by kernel_rfl) (by simp [Dens, Den, nilSV, nilLoc0, Value.cells]) (by simp [TT.agg, Value.cells]) Try.underlying108 (by first | exact ⟨_, rfl, rfl⟩ | rfl | exact ⟨_, rfl⟩) (by first | rfl | kernel_rfl) rfl
theorem tt109 : TtOk Try.prog 109 ⟨11, 48, [.int .u64 0, .int .u64 0, .int .u32 0, .int .u8 0, .int .u8 0, .int .u8 0, .int .u8 0, .val .nilFunc, .val (.pointer none), .int .i32 0, .int .i32 0], .struct [(0, 12), (1, 12), (2, 102), (3, 103), (4, 5), (5, 5), (6, 104), (7, 105), (8, 106), (9, 107), (10, 108)], none⟩ := TtOk.of (z := .agg #[.int .u64 0, .int .u64 0, .int .u32 0, .int .u8 0, .int .u8 0, .int .u8 0, .int .u8 0, .nilFunc, .pointer none, .int .i32 0, .int .i32 0]) (by kernel_rfl) (by kernel_rfl) (by simp [Dens, Den, nilSV, nilLoc0, Value.cells]) (by simp [TT.agg, Value.cells]) Try.underlying109 (by first | exact ⟨_, rfl, rfl⟩ | rfl | exact ⟨_, rfl⟩) (by first | rfl | kernel_rfl) rfl
theorem tt110 : TtOk Try.prog 110 ⟨11, 48, [.int .u64 0, .int .u64 0, .int .u32 0, .int .u8 0, .int .u8 0, .int .u8 0, .int .u8 0, .val .nilFunc, .val (.pointer none), .int .i32 0, .int .i32 0], .struct [(0, 12), (1, 12), (2, 102), (3, 103), (4, 5), (5, 5), (6, 104), (7, 105), (8, 106), (9, 107), (10, 108)], none⟩ := TtOk.of (z := .agg #[.int .u64 0, .int .u64 0, .int .u32 0, .int .u8 0, .int .u8 0, .int .u8 0, .int .u8 0, .nilFunc, .pointer none, .int .i32 0, .int .i32 0]) (by kernel_rfl) (by kernel_rfl) (by simp [Dens, Den, nilSV, nilLoc0, Value.cells]) (by simp [TT.agg, Value.cells]) Try.underlying110 (by first | exact ⟨_, rfl, rfl⟩ | rfl | exact ⟨_, rfl⟩) (by first | rfl | kernel_rfl) rfl
theorem hT : ∀ t tt, tab t = some tt → TtOk Try.prog t tt := by
  intro t tt h
  unfold tab at h
  split at h
  · cases h; exact tt2
  · cases h; exact tt3
  · cases h; exact tt4
  · cases h; exact tt5
  · cases h; exact tt6
  · cases h; exact tt7
  · cases h; exact tt8
  · cases h; exact tt12
  · cases h; exact tt15
  · cases h; exact tt16
  · cases h; exact tt17
  · cases h; exact tt18
  · cases h; exact tt19
  · cases h; exact tt21
  · cases h; exact tt22
  · cases h; exact tt24
  · cases h; exact tt30
  · cases h; exact tt31
  · cases h; exact tt37
  · cases h; exact tt40
  · cases h; exact tt41
  · cases h; exact tt42
  · cases h; exact tt48
  · cases h; exact tt49
  · cases h; exact tt52
  · cases h; exact tt53
  · cases h; exact tt65
  · cases h; exact tt67
  · cases h; exact tt73
  · cases h; exact tt75
  · cases h; exact tt76
  · cases h; exact tt85
  · cases h; exact tt87
  · cases h; exact tt98
  · cases h; exact tt99
  · cases h; exact tt100
  · cases h; exact tt102
  · cases h; exact tt103
  · cases h; exact tt104
  · cases h; exact tt106
  · cases h; exact tt107
  · cases h; exact tt108
  · cases h; exact tt109
  · cases h; exact tt110
  · cases h
def isP : FuncId → Bool := fun f => f == 40 || f == 36 || f == 30 || f == 71 || f == 46 || f == 77 || f == 76 || f == 63
theorem mixed : Try.prog.follows .mixedOrders = true := by kernel_rfl
theorem hyp {l : List (FuncId × Entry)} {lp : List (FuncId × EntryP)} (h : allOk Try.prog l) (hp : allPOk Try.prog lp) : Hyp Try.prog tab isP (spList l) (spPList lp) chkAll :=
  ⟨hT, spPList_ok hp, spList_ok h, draw_ok mixed hT (spPList_ok hp) (spList_ok h)⟩
def SidesOk (w h : Int) : Prop := 0 ≤ w ∧ 0 ≤ h ∧ w ≤ 200 ∧ h ≤ 200 ∧ w * h ≤ 8192
instance (w h : Int) : Decidable (SidesOk w h) := by unfold SidesOk; infer_instance
def ValOk (n : Int) : Prop := 0 ≤ n ∧ n ≤ 255
instance (n : Int) : Decidable (ValOk n) := by unfold ValOk; infer_instance
theorem SidesOk.bd {w h : Int} (H : SidesOk w h) : 0 ≤ w * h ∧ w * h ≤ 8192 := ⟨Int.mul_nonneg H.1 H.2.1, H.2.2.2.2⟩
def b74_1 : IR :=
  .seq (.reg false [⟨some 9, none, ⟨[], []⟩, .bin 0 .lss (.t 8) (.t 7)⟩] [] []) (.seq (.cond (.t 9) (.skip) (.exit 0)) (.seq (.block 1 (.seq (.reg false [⟨some 10, none, ⟨[], []⟩, .mov (.t 8)⟩,
    ⟨some 5, none, ⟨[], []⟩, .mov (.t 10)⟩] [9, 10] []) (.seq (.reg false [⟨some 11, none, ⟨[], []⟩, .mov (.t 1)⟩,
    ⟨some 12, none, ⟨[], []⟩, .mov (.t 0)⟩,
    ⟨some 13, none, ⟨[], []⟩, .mov (.t 5)⟩,
    ⟨some 14, none, ⟨[], []⟩, .idxS (.t 12) (.t 13) 1⟩,
    ⟨some 15, none, ⟨[], []⟩, .ld true none 0 0 (.t 14)⟩,
    ⟨some 16, none, ⟨[], []⟩, .callv (some 4) 10 (.t 11) [.t 15]⟩] [11, 12, 13, 14, 15] []) (.cond (.t 16) (.seq (.reg false [⟨some 17, none, ⟨[], []⟩, .mov (.t 5)⟩,
    ⟨some 4, none, ⟨[], []⟩, .mov (.t 17)⟩] [0, 1, 5, 7, 8, 16, 17] []) (.ret)) (.skip))))) (.reg false [⟨some 18, none, ⟨[], []⟩, .bin 0 .add (.t 8) (.k (.int .i64 1))⟩,
    ⟨some 8, none, ⟨[], []⟩, .mov (.t 18)⟩] [4, 5, 16, 18] [])))
def r74_2 : IR :=
  .seq (.reg false [⟨some 4, none, ⟨[], []⟩, .mov (.k (.int .i64 (-1)))⟩] [0, 1, 7, 8] []) (.ret)
def ir74 : IR :=
  .seq (.reg false [⟨some 4, none, ⟨[], []⟩, .mov (.k (.int .i64 0))⟩] [4] []) (.seq (.seq (.reg false [⟨some 6, none, ⟨[], []⟩, .mov (.t 0)⟩,
    ⟨some 7, none, ⟨[], []⟩, .len (.t 6)⟩,
    ⟨some 8, none, ⟨[], []⟩, .mov (.k (.int .i64 0))⟩] [6] []) (.block 0 (.loop b74_1))) (r74_2))
def kp74_1 : List Nat := [0, 1, 7, 8]
def kl74_1 : List Nat := [10, 11, 12, 13]
attribute [push_cast] kp74_1 kl74_1
set_option maxRecDepth 4000 in
theorem comp74 : (Try.f74.body.bind fun c => compC tab isP chkAll ir74 c) = some ir74 := by kernel_rfl
def ir64 : IR :=
  .seq (.reg false [⟨some 4, none, ⟨[], []⟩, .mov (.k (.bool false))⟩] [4] []) (.seq (.reg false [⟨some 5, none, ⟨[], []⟩, .mov (.t 0)⟩,
    ⟨some 6, none, ⟨[], []⟩, .mov (.t 1)⟩,
    ⟨some 7, none, ⟨[], []⟩, .call (some 4) 10 74 [.t 5, .t 6]⟩,
    ⟨some 8, none, ⟨[], []⟩, .bin 0 .geq (.t 7) (.k (.int .i64 0))⟩,
    ⟨some 4, none, ⟨[], []⟩, .mov (.t 8)⟩] [0, 1, 5, 6, 7, 8] []) (.ret))
set_option maxRecDepth 4000 in
theorem comp64 : (Try.f64.body.bind fun c => compC tab isP chkAll ir64 c) = some ir64 := by kernel_rfl
/-- A row that is only read. -/
structure RowA where
  L : Xf.Loc
  xs : List Int
def AllVal (xs : List Int) : Prop := ∀ n ∈ xs, ValOk n
instance (xs : List Int) : Decidable (AllVal xs) := by unfold AllVal; infer_instance
structure RowN where
  L : Xf.Loc
  xs : List Int
  n : Int
structure Im where
  w : Int
  h : Int
  R : List Int
  G : List Int
  B : List Int
structure ImA where
  i : Im
  L1 : Xf.Loc
  L2 : Xf.Loc
  L3 : Xf.Loc
def Im.Ok (i : Im) : Prop := SidesOk i.w i.h ∧ (i.R.length = i.w * i.h ∧ AllVal i.R) ∧ (i.G.length = i.w * i.h ∧ AllVal i.G) ∧ (i.B.length = i.w * i.h ∧ AllVal i.B)
instance (i : Im) : Decidable i.Ok := by unfold Im.Ok; infer_instance
structure WH where
  w : Int
  h : Int
structure SetA where
  i : Im
  L : Xf.Loc
  L1 : Xf.Loc
  L2 : Xf.Loc
  L3 : Xf.Loc
  k : Int
  r : Int
  g : Int
  b : Int
  n1 : Int
  n2 : Int
  n3 : Int
structure NewA where
  w : Int
  h : Int
  r : Int
  g : Int
  b : Int
def NewA.Ok (a : NewA) : Prop := SidesOk a.w a.h ∧ ValOk a.r ∧ ValOk a.g ∧ ValOk a.b
instance (a : NewA) : Decidable a.Ok := by unfold NewA.Ok; infer_instance
/-- Where a result lies: nowhere, if there is none. -/
def lx (p : Prop) [Decidable p] (x : Nat → Xf.Loc) (k : Nat) : Xf.Loc := if p then x k else nilLoc
theorem allVal_rd {xs : List Int} : AllVal xs ↔ ∀ j : Nat, j < xs.length → ValOk (rd xs j) := by
  unfold AllVal
  constructor
  · intro h j hj; rw [rd_lt xs j hj]; exact h _ (List.getElem_mem hj)
  · intro h x hx
    obtain ⟨j, hj, rfl⟩ := List.getElem_of_mem hx
    have := h j hj
    rwa [rd_lt xs j hj] at this
structure Im2 where
  a : ImA
  b : ImA
structure Pl where
  w : Int
  h : Int
  xs : List Int
theorem Im.Ok.val {i : Im} (h : i.Ok) : i.G.length = i.R.length ∧ i.B.length = i.R.length ∧ ∀ k : Nat, k < i.R.length → (0 ≤ rd i.R (k : Nat) ∧ rd i.R (k : Nat) ≤ 255) ∧ (0 ≤ rd i.G (k : Nat) ∧ rd i.G (k : Nat) ≤ 255) ∧ (0 ≤ rd i.B (k : Nat) ∧ rd i.B (k : Nat) ≤ 255) := by
  obtain ⟨_, ⟨a, x⟩, ⟨b, y⟩, ⟨c, z⟩⟩ := h
  have e1 : i.G.length = i.R.length := by omega
  have e2 : i.B.length = i.R.length := by omega
  exact ⟨e1, e2, fun k hk => ⟨allVal_rd.1 x k hk, allVal_rd.1 y k (by omega), allVal_rd.1 z k (by omega)⟩⟩
structure CutA where
  a : ImA
  x : Int
  y : Int
  w : Int
  h : Int
def CutA.In (c : CutA) : Prop := 0 ≤ c.x ∧ 0 ≤ c.y ∧ 0 ≤ c.w ∧ 0 ≤ c.h ∧ c.x + c.w ≤ c.a.i.w ∧ c.y + c.h ≤ c.a.i.h
instance (c : CutA) : Decidable c.In := by unfold CutA.In; infer_instance
def CutA.Ok (c : CutA) : Prop := c.a.i.Ok ∧ c.In
instance (c : CutA) : Decidable c.Ok := by unfold CutA.Ok; infer_instance
/-- The first number of some kind. -/
def firstB (p : Int → Bool) (xs : List Int) : Int := if xs.findIdx p < xs.length then xs.findIdx p else -1
theorem firstB_at {p : Int → Bool} {xs : List Int} {i : Nat} (h : i < xs.length) (hb : p (rd xs i) = true) (hj : ∀ j, j < i → p (rd xs (j : Nat)) = false) : firstB p xs = i := by
  have : xs.findIdx p = i := by
    rw [List.findIdx_eq h]
    refine ⟨by rw [rd_lt xs i h] at hb; exact hb, fun j hji => ?_⟩
    have := hj j hji
    rw [rd_lt xs j (by omega)] at this
    exact this
  unfold firstB
  rw [this, if_pos h]
theorem firstB_no {p : Int → Bool} {xs : List Int} (hj : ∀ j, j < xs.length → p (rd xs (j : Nat)) = false) : firstB p xs = -1 := by
  unfold firstB
  rw [if_neg]
  intro h
  have := List.findIdx_getElem (w := h)
  have h2 := hj _ h
  rw [rd_lt xs _ h, this] at h2
  cases h2
theorem firstB_iff (p : Int → Bool) (xs : List Int) : 0 ≤ firstB p xs ↔ ∃ n, n ∈ xs ∧ p n = true := by
  unfold firstB
  have h := List.findIdx_lt_length (xs := xs) (p := p)
  by_cases hh : xs.findIdx p < xs.length
  · rw [if_pos hh]
    exact ⟨fun _ => h.1 hh, fun _ => by omega⟩
  · rw [if_neg hh]
    exact ⟨fun h => by omega, fun H => absurd (h.2 H) hh⟩
structure OutA where
  L1 : Xf.Loc
  L2 : Xf.Loc
  n : Int
  lo : Int
  hi : Int
def outB (lo hi n : Int) : Bool := decide (n < lo ∨ hi < n)
structure OutR where
  L : Xf.Loc
  xs : List Int
  L1 : Xf.Loc
  L2 : Xf.Loc
  lo : Int
  hi : Int
def AllIn (lo hi : Int) (xs : List Int) : Prop := ∀ n, n ∈ xs → lo ≤ n ∧ n ≤ hi
instance (lo hi : Int) (xs : List Int) : Decidable (AllIn lo hi xs) := by unfold AllIn; infer_instance
theorem allIn_iff {lo hi : Int} {xs : List Int} : (0 ≤ firstB (outB lo hi) xs) = ¬ AllIn lo hi xs := by
  rw [firstB_iff]
  unfold AllIn outB
  simp only [decide_eq_true_eq, Classical.not_forall, eq_iff_iff]
  constructor
  · rintro ⟨n, h1, h2⟩; exact ⟨n, h1, by omega⟩
  · rintro ⟨n, h1, h2⟩; exact ⟨n, h1, by omega⟩
theorem allIn_rd {lo hi : Int} {xs : List Int} : AllIn lo hi xs ↔ ∀ j : Nat, j < xs.length → lo ≤ rd xs j ∧ rd xs j ≤ hi := by
  unfold AllIn
  constructor
  · intro h j hj; rw [rd_lt xs j hj]; exact h _ (List.getElem_mem hj)
  · intro h n hn
    obtain ⟨j, hj, rfl⟩ := List.mem_iff_getElem.1 hn
    have := h j hj
    rwa [rd_lt xs j hj] at this
def Pl.In (p : Pl) (lo hi : Int) : Prop := SidesOk p.w p.h ∧ p.xs.length = p.w * p.h ∧ AllIn lo hi p.xs
instance (p : Pl) (lo hi : Int) : Decidable (p.In lo hi) := by unfold Pl.In; infer_instance
structure PlA where
  p : Pl
  L : Xf.Loc
structure PlW where
  a : PlA
  lo : Int
  hi : Int
def Pl.Ok (p : Pl) : Prop := p.In (-16777216) 16777216
instance (p : Pl) : Decidable p.Ok := by unfold Pl.Ok; infer_instance
structure Pl2 where
  a : PlA
  b : PlA
structure Bk where
  y : PlA
  u : PlA
  v : PlA
def Bk.planes (b : Bk) : Prop := b.y.p.Ok ∧ b.u.p.Ok ∧ b.v.p.Ok
def Bk.sides (b : Bk) : Prop := b.u.p.w = b.y.p.w ∧ b.u.p.h = b.y.p.h ∧ b.v.p.w = b.y.p.w ∧ b.v.p.h = b.y.p.h
instance (b : Bk) : Decidable b.planes := by unfold Bk.planes; infer_instance
instance (b : Bk) : Decidable b.sides := by unfold Bk.sides; infer_instance
def Bk.Ok (b : Bk) : Prop := b.planes ∧ b.sides
instance (b : Bk) : Decidable b.Ok := by unfold Bk.Ok; infer_instance
theorem Bk.Ok.val {w h w1 h1 w2 h2 : Int} {xs ys ws : List Int} {L1 L2 L3 : Xf.Loc} (H : (⟨⟨⟨w, h, xs⟩, L1⟩, ⟨⟨w1, h1, ys⟩, L2⟩, ⟨⟨w2, h2, ws⟩, L3⟩⟩ : Bk).Ok) :
    SidesOk w h ∧ (xs.length : Int) = w * h ∧ ys.length = xs.length ∧ ws.length = xs.length ∧ w1 = w ∧ h1 = h ∧ w2 = w ∧ h2 = h ∧
      ∀ k : Nat, k < xs.length → (-16777216 ≤ rd xs k ∧ rd xs k ≤ 16777216) ∧ (-16777216 ≤ rd ys k ∧ rd ys k ≤ 16777216) ∧ (-16777216 ≤ rd ws k ∧ rd ws k ≤ 16777216) := by
  obtain ⟨⟨⟨a1, a2, a3⟩, ⟨b1, b2, b3⟩, ⟨c1, c2, c3⟩⟩, d1, d2, d3, d4⟩ := H
  simp only at a1 a2 a3 b1 b2 b3 c1 c2 c3 d1 d2 d3 d4
  subst d1 d2 d3 d4
  have e1 : ys.length = xs.length := by omega
  have e2 : ws.length = xs.length := by omega
  exact ⟨a1, a2, e1, e2, rfl, rfl, rfl, rfl, fun k hk => ⟨allIn_rd.1 a3 k hk, allIn_rd.1 b3 k (by omega), allIn_rd.1 c3 k (by omega)⟩⟩
theorem Dens.mem : ∀ {cs : List SV} {vs : List Value} {c : SV}, Dens cs vs → c ∈ cs → ∃ v, Den c v
  | [], _, _, _, h => by cases h
  | d :: cs, vs, c, hd, h => by
    simp only [Dens] at hd
    obtain ⟨v, vs', _, h1, h2⟩ := hd
    rcases List.mem_cons.1 h with rfl | h
    · exact ⟨v, h1⟩
    · exact Dens.mem h2 h
structure Row2 where
  L : Xf.Loc
  xs : List Int
  M : Xf.Loc
  ys : List Int
theorem rd_bd {lo hi : Int} {xs : List Int} (h : AllIn lo hi xs) (h0 : lo ≤ 0) (h1 : 0 ≤ hi) (k : Int) : lo ≤ rd xs k ∧ rd xs k ≤ hi := by
  by_cases hk : k.toNat < xs.length
  · have e : rd xs k = xs[k.toNat] := by simp [rd, hk]
    rw [e]; exact h _ (List.getElem_mem hk)
  · have e : rd xs k = 0 := by simp [rd, List.getElem?_eq_none (Nat.not_lt.1 hk)]
    rw [e]; exact ⟨h0, h1⟩
structure PlD where
  a : PlA
  w : Int
  h : Int
def PlD.fit (d : PlD) : Prop := SidesOk d.w d.h ∧ d.a.p.w = (d.w + 1) / 2 ∧ d.a.p.h = (d.h + 1) / 2
instance (d : PlD) : Decidable d.fit := by unfold PlD.fit; infer_instance
def PlD.Ok (d : PlD) : Prop := d.a.p.Ok ∧ d.fit
instance (d : PlD) : Decidable d.Ok := by unfold PlD.Ok; infer_instance
structure Bm where
  w : Int
  h : Int
  xs : List Int
structure BmA where
  b : Bm
  L : Xf.Loc
def Bits (xs : List Int) : Prop := ∀ n, n ∈ xs → n ≤ 1
instance (xs : List Int) : Decidable (Bits xs) := by unfold Bits; infer_instance
def Bm.Ok (b : Bm) : Prop := SidesOk b.w b.h ∧ b.xs.length = b.w * b.h ∧ Bits b.xs
instance (b : Bm) : Decidable b.Ok := by unfold Bm.Ok; infer_instance
structure AtA where
  a : BmA
  x : Int
  y : Int
def nearP (n : Int) : Prop := -100000 ≤ n ∧ n ≤ 100000
instance (n : Int) : Decidable (nearP n) := by unfold nearP; infer_instance
structure PaintA where
  a : ImA
  b : BmA
  x : Int
  y : Int
  r : Int
  g : Int
  bl : Int
def PaintA.fit (P : PaintA) : Prop := P.b.b.Ok ∧ nearP P.x ∧ nearP P.y ∧ ValOk P.r ∧ ValOk P.g ∧ ValOk P.bl
instance (P : PaintA) : Decidable P.fit := by unfold PaintA.fit; infer_instance
def PaintA.Ok (P : PaintA) : Prop := P.a.i.Ok ∧ P.fit
instance (P : PaintA) : Decidable P.Ok := by unfold PaintA.Ok; infer_instance
def ir36 : IR :=
  .seq (.reg false [⟨some 2, none, ⟨[], []⟩, .mov (.k (.bool false))⟩] [2] []) (.seq (.reg false [⟨some 3, none, ⟨[], []⟩, .mov (.t 0)⟩,
    ⟨some 4, none, ⟨[], []⟩, .bin 0 .eql (.t 3) (.k (.int .i64 0))⟩,
    ⟨some 5, none, ⟨[], []⟩, .mov (.t 4)⟩,
    ⟨some 6, some (5, false), ⟨[], []⟩, .mov (.t 0)⟩,
    ⟨some 7, some (5, false), ⟨[], []⟩, .bin 0 .eql (.t 6) (.k (.int .i64 1))⟩,
    ⟨some 8, none, ⟨[], []⟩, .pick (.t 5) (.k (.bool true)) (.t 7)⟩,
    ⟨some 2, none, ⟨[], []⟩, .mov (.t 8)⟩] [0, 3, 4, 5, 6, 7, 8] []) (.ret))
set_option maxRecDepth 4000 in
theorem comp36 : (Try.f36.body.bind fun c => compC tab isP chkAll ir36 c) = some ir36 := by kernel_rfl
def b17_1 : IR :=
  .seq (.reg false [⟨some 14, none, ⟨[], []⟩, .bin 0 .lss (.t 13) (.t 12)⟩] [] []) (.seq (.cond (.t 14) (.skip) (.exit 0)) (.seq (.block 1 (.seq (.reg false [⟨some 15, none, ⟨[], []⟩, .mov (.t 13)⟩,
    ⟨some 5, none, ⟨[], []⟩, .mov (.t 15)⟩] [14, 15] []) (.seq (.reg true [⟨some 16, none, ⟨[], []⟩, .mov (.t 0)⟩,
    ⟨some 17, none, ⟨[], []⟩, .mov (.t 5)⟩,
    ⟨some 18, none, ⟨[], []⟩, .idxS (.t 16) (.t 17) 1⟩,
    ⟨some 19, none, ⟨[], []⟩, .ld true none 0 0 (.t 18)⟩,
    ⟨some 20, none, ⟨[], []⟩, .mov (.t 1)⟩,
    ⟨some 21, none, ⟨[], []⟩, .mov (.t 5)⟩,
    ⟨some 22, none, ⟨[], []⟩, .idxS (.t 20) (.t 21) 1⟩,
    ⟨some 23, none, ⟨[], []⟩, .ld true none 0 0 (.t 22)⟩,
    ⟨some 24, none, ⟨[], []⟩, .bin 0 .neq (.t 19) (.t 23)⟩] [5, 16, 17, 18, 19, 20, 21, 22, 23] []) (.cond (.t 24) (.seq (.reg false [⟨some 4, none, ⟨[], []⟩, .mov (.k (.bool false))⟩] [0, 1, 12, 13, 24] []) (.ret)) (.skip))))) (.reg false [⟨some 25, none, ⟨[], []⟩, .bin 0 .add (.t 13) (.k (.int .i64 1))⟩,
    ⟨some 13, none, ⟨[], []⟩, .mov (.t 25)⟩] [4, 24, 25] [])))
def r17_2 : IR :=
  .seq (.reg false [⟨some 4, none, ⟨[], []⟩, .mov (.k (.bool true))⟩] [0, 1, 12, 13] []) (.ret)
def ir17 : IR :=
  .seq (.reg false [⟨some 4, none, ⟨[], []⟩, .mov (.k (.bool false))⟩] [4] []) (.seq (.seq (.reg false [⟨some 6, none, ⟨[], []⟩, .mov (.t 0)⟩,
    ⟨some 7, none, ⟨[], []⟩, .len (.t 6)⟩,
    ⟨some 8, none, ⟨[], []⟩, .mov (.t 1)⟩,
    ⟨some 9, none, ⟨[], []⟩, .len (.t 8)⟩,
    ⟨some 10, none, ⟨[], []⟩, .bin 0 .neq (.t 7) (.t 9)⟩] [6, 7, 8, 9] []) (.cond (.t 10) (.seq (.reg false [⟨some 4, none, ⟨[], []⟩, .mov (.k (.bool false))⟩] [0, 1, 10] []) (.ret)) (.skip))) (.seq (.seq (.reg false [⟨some 11, none, ⟨[], []⟩, .mov (.t 0)⟩,
    ⟨some 12, none, ⟨[], []⟩, .len (.t 11)⟩,
    ⟨some 13, none, ⟨[], []⟩, .mov (.k (.int .i64 0))⟩] [4, 10, 11] []) (.block 0 (.loop b17_1))) (r17_2)))
def kp17_1 : List Nat := [0, 1, 12, 13]
def kl17_1 : List Nat := []
attribute [push_cast] kp17_1 kl17_1
set_option maxRecDepth 4000 in
theorem comp17 : (Try.f17.body.bind fun c => compC tab isP chkAll ir17 c) = some ir17 := by kernel_rfl
def ir65 : IR :=
  .seq (.reg false [⟨some 3, none, ⟨[], []⟩, .mov (.k (.bool false))⟩] [3] []) (.seq (.reg false [⟨some 4, none, ⟨[], []⟩, .mov (.t 0)⟩,
    ⟨some 5, none, ⟨[], []⟩, .ld false none 0 0 (.t 1)⟩,
    ⟨some 6, none, ⟨[], []⟩, .neg 0 (.t 5)⟩,
    ⟨some 7, none, ⟨[], []⟩, .bin 0 .lss (.t 4) (.t 6)⟩,
    ⟨some 8, none, ⟨[], []⟩, .mov (.t 7)⟩,
    ⟨some 9, some (8, false), ⟨[], []⟩, .mov (.t 0)⟩,
    ⟨some 10, some (8, false), ⟨[], []⟩, .ld false none 0 0 (.t 1)⟩,
    ⟨some 11, some (8, false), ⟨[], []⟩, .bin 0 .gtr (.t 9) (.t 10)⟩,
    ⟨some 12, none, ⟨[], []⟩, .pick (.t 8) (.k (.bool true)) (.t 11)⟩,
    ⟨some 3, none, ⟨[], []⟩, .mov (.t 12)⟩] [0, 1, 4, 5, 6, 7, 8, 9, 10, 11, 12] []) (.ret))
set_option maxRecDepth 4000 in
theorem comp65 : (Try.f65.body.bind fun c => compC tab isP chkAll ir65 c) = some ir65 := by kernel_rfl
def ir37 : IR :=
  .seq (.reg false [⟨some 3, none, ⟨[], []⟩, .box 10 (.t 1)⟩,
    ⟨some 4, none, ⟨[], []⟩, .mov (.k (.bool false))⟩] [1, 4] []) (.seq (.reg false [⟨some 5, none, ⟨[], []⟩, .mov (.t 0)⟩,
    ⟨some 6, none, ⟨[], []⟩, .mkf 65 [.t 3]⟩,
    ⟨some 7, none, ⟨[], []⟩, .call (some 4) 11 64 [.t 5, .t 6]⟩,
    ⟨some 8, none, ⟨[], []⟩, .not (.t 7)⟩,
    ⟨some 4, none, ⟨[], []⟩, .mov (.t 8)⟩] [0, 3, 5, 6, 7, 8] []) (.ret))
set_option maxRecDepth 4000 in
theorem comp37 : (Try.f37.body.bind fun c => compC tab isP chkAll ir37 c) = some ir37 := by kernel_rfl
def kindF : EntryP
  | [.int .i64 k] => some (True, .bool (decide (k = 0 ∨ k = 1)))
  | _ => none
attribute [push_cast] kindF
theorem p36 : EntryPOk Try.prog 36 kindF := by
  refine ⟨⟨_, Try.func36, by kernel_rfl, by kernel_rfl⟩, fun us p v h hp => ?_⟩
  unfold kindF at h
  split at h <;> cases h
  refine tri_evS (hyp (l := []) (lp := []) trivial trivial) Try.func36 comp36 (rs := [.tmp 2]) (by rfl) Try.ntmps36 10 ?_
  simp -implicitDefEqProofs only [push_cast, false_implies, reduceCtorEq, Classical.not_not, Nat.reduceAdd, Nat.reduceSub, Nat.reduceMul, Nat.reduceLeDiff, Nat.reduceLT, Nat.reduceEqDiff, Nat.reduceBEq, Nat.reduceBNe, Int.reduceNeg, Int.reduceToNat, Bool.or_false, Bool.false_or, Bool.or_true, Bool.true_or, BEq.rfl, Bool.not_eq_true, Bool.not_eq_false, decide_eq_true_eq, not_true_eq_false, not_false_eq_true, ite_true, ite_false, List.append_nil, and_assoc, Nat.mul_zero, Nat.zero_mul, ir36, kindF]
structure Row2w where
  L : Xf.Loc
  xs : List Int
  M : Xf.Loc
  ys : List Int
def fs17 : FS where
  A := Row2w
  args := fun a => [.sl 0 a.L 1 0 a.xs.length, .sl 1 a.M 1 0 a.ys.length]
  mem := fun a => [some (.ro, a.L, .ints .i64 a.xs), some (.ro, a.M, .ints .i64 a.ys)]
  pre := fun a => a.xs.length ≤ 140737488355328 ∧ a.ys.length ≤ 140737488355328
  res := fun a _ => .bool (decide (a.xs = a.ys))
  out := fun _ _ => []
  new := fun _ _ => []
def inv17 : List SV → Look → Option (Row2w × List Nat)
  | [.sl c _ 1 0 _, .sl d _ 1 0 _], look => match rowI (lkZ look (.ints .i64 []) c), rowI (lkZ look (.ints .i64 []) d) with
    | some (L, .i64, xs), some (M, .i64, ys) => some (⟨L, xs, M, ys⟩, [c, d])
    | _, _ => none
  | _, _ => none
attribute [push_cast] inv17
theorem ok17 : FSOk Try.prog 17 fs17 := by
  refine ⟨⟨_, Try.func17, by kernel_rfl, by kernel_rfl⟩, fun a => ⟨by simp [fs17, push_cast, noMine, argOwn, Chunk.frArg], by simp [fs17, push_cast, outOk, Chunk.ext], fun x => .inl (by simp [fs17, push_cast, frNew, frOut, Chunk.fr])⟩, fun a hp => ?_⟩
  obtain ⟨L, xs, M, ys⟩ := a
  obtain ⟨hp1, hp2⟩ : xs.length ≤ 140737488355328 ∧ ys.length ≤ 140737488355328 := hp
  change Tri Try.prog 17 [.sl 0 L 1 0 xs.length, .sl 1 M 1 0 ys.length] [some (.ro, L, .ints .i64 xs), some (.ro, M, .ints .i64 ys)] (postF fs17 ⟨L, xs, M, ys⟩)
  refine tri_evS (hyp (l := []) (lp := []) trivial trivial) Try.func17 comp17 (rs := [.tmp 4]) (by rfl) Try.ntmps17 10 ?_
  simp -implicitDefEqProofs only [push_cast, false_implies, reduceCtorEq, Classical.not_not, Nat.reduceAdd, Nat.reduceSub, Nat.reduceMul, Nat.reduceLeDiff, Nat.reduceLT, Nat.reduceEqDiff, Nat.reduceBEq, Nat.reduceBNe, Int.reduceNeg, Int.reduceToNat, Bool.or_false, Bool.false_or, Bool.or_true, Bool.true_or, BEq.rfl, Bool.not_eq_true, Bool.not_eq_false, decide_eq_true_eq, not_true_eq_false, not_false_eq_true, ite_true, ite_false, List.append_nil, and_assoc, Nat.mul_zero, Nat.zero_mul, ir17]
  refine ⟨fun hn => ?_, fun hy => ?_⟩
  · have e : ¬ xs = ys := fun H => by subst H; exact hn rfl
    refine postF.mk' (fun _ => default) [some 0, some 1] ?_
    simp -implicitDefEqProofs only [push_cast, false_implies, reduceCtorEq, Classical.not_not, Nat.reduceAdd, Nat.reduceSub, Nat.reduceMul, Nat.reduceLeDiff, Nat.reduceLT, Nat.reduceEqDiff, Nat.reduceBEq, Nat.reduceBNe, Int.reduceNeg, Int.reduceToNat, Bool.or_false, Bool.false_or, Bool.or_true, Bool.true_or, BEq.rfl, Bool.not_eq_true, Bool.not_eq_false, decide_eq_true_eq, not_true_eq_false, not_false_eq_true, ite_true, ite_false, List.append_nil, and_assoc, Nat.mul_zero, Nat.zero_mul, fs17, e, decide_false]
  have hl : xs.length = ys.length := by omega
  refine evS_loopU (A := Nat) kp17_1 kl17_1 (fun i => [(13, .int .i64 i)]) (fun _ => [])
    (fun i => i ≤ xs.length ∧ ∀ j, j < i → rd xs (j : Nat) = rd ys (j : Nat)) (fun i => xs.length - i) 0 ⟨by omega, by omega⟩ (Sub.pt ?_) ?_
  · simp -implicitDefEqProofs only [push_cast, false_implies, reduceCtorEq, Classical.not_not, Nat.reduceAdd, Nat.reduceSub, Nat.reduceMul, Nat.reduceLeDiff, Nat.reduceLT, Nat.reduceEqDiff, Nat.reduceBEq, Nat.reduceBNe, Int.reduceNeg, Int.reduceToNat, Bool.or_false, Bool.false_or, Bool.or_true, Bool.true_or, BEq.rfl, Bool.not_eq_true, Bool.not_eq_false, decide_eq_true_eq, not_true_eq_false, not_false_eq_true, ite_true, ite_false, List.append_nil, and_assoc, Nat.mul_zero, Nat.zero_mul]
  intro i ⟨h1, h2⟩ K hK
  simp -implicitDefEqProofs only [push_cast, false_implies, reduceCtorEq, Classical.not_not, Nat.reduceAdd, Nat.reduceSub, Nat.reduceMul, Nat.reduceLeDiff, Nat.reduceLT, Nat.reduceEqDiff, Nat.reduceBEq, Nat.reduceBNe, Int.reduceNeg, Int.reduceToNat, Bool.or_false, Bool.false_or, Bool.or_true, Bool.true_or, BEq.rfl, Bool.not_eq_true, Bool.not_eq_false, decide_eq_true_eq, not_true_eq_false, not_false_eq_true, ite_true, ite_false, List.append_nil, and_assoc, Nat.mul_zero, Nat.zero_mul, b17_1, r17_2]
  refine ⟨fun h => ?_, fun h => ?_⟩
  · repeat (refine And.intro (by first | omega | trivial | (intros; omega)) ?_)
    refine ⟨fun hb => ?_, fun hg => ⟨by omega, by omega, ?_⟩⟩
    · have e : ¬ xs = ys := fun H => by subst H; exact hb rfl
      refine postF.mk' (fun _ => default) [some 0, some 1] ?_
      simp -implicitDefEqProofs only [push_cast, false_implies, reduceCtorEq, Classical.not_not, Nat.reduceAdd, Nat.reduceSub, Nat.reduceMul, Nat.reduceLeDiff, Nat.reduceLT, Nat.reduceEqDiff, Nat.reduceBEq, Nat.reduceBNe, Int.reduceNeg, Int.reduceToNat, Bool.or_false, Bool.false_or, Bool.or_true, Bool.true_or, BEq.rfl, Bool.not_eq_true, Bool.not_eq_false, decide_eq_true_eq, not_true_eq_false, not_false_eq_true, ite_true, ite_false, List.append_nil, and_assoc, Nat.mul_zero, Nat.zero_mul, fs17, e, decide_false]
    · refine hK (i + 1) ⟨by omega, fun j hj => ?_⟩ (show xs.length - (i + 1) < xs.length - i by omega) _ _ (Sub.pt ?_)
      · by_cases e : j = i
        · subst e; exact hg
        · exact h2 j (by omega)
      · simp -implicitDefEqProofs only [push_cast, false_implies, reduceCtorEq, Classical.not_not, Nat.reduceAdd, Nat.reduceSub, Nat.reduceMul, Nat.reduceLeDiff, Nat.reduceLT, Nat.reduceEqDiff, Nat.reduceBEq, Nat.reduceBNe, Int.reduceNeg, Int.reduceToNat, Bool.or_false, Bool.false_or, Bool.or_true, Bool.true_or, BEq.rfl, Bool.not_eq_true, Bool.not_eq_false, decide_eq_true_eq, not_true_eq_false, not_false_eq_true, ite_true, ite_false, List.append_nil, and_assoc, Nat.mul_zero, Nat.zero_mul]
  · have e : xs = ys := eq_of_rd hl fun j hj => h2 j (by omega)
    refine postF.mk' (fun _ => default) [some 0, some 1] ?_
    simp -implicitDefEqProofs only [push_cast, false_implies, reduceCtorEq, Classical.not_not, Nat.reduceAdd, Nat.reduceSub, Nat.reduceMul, Nat.reduceLeDiff, Nat.reduceLT, Nat.reduceEqDiff, Nat.reduceBEq, Nat.reduceBNe, Int.reduceNeg, Int.reduceToNat, Bool.or_false, Bool.false_or, Bool.or_true, Bool.true_or, BEq.rfl, Bool.not_eq_true, Bool.not_eq_false, decide_eq_true_eq, not_true_eq_false, not_false_eq_true, ite_true, ite_false, List.append_nil, and_assoc, Nat.mul_zero, Nat.zero_mul, fs17, e, decide_true]
def ent17 : Entry := spOf fs17 inv17
theorem e17 : EntryOk Try.prog 17 ent17 := entry_of ok17 inv17
@[push_cast] theorem ent17_app (us : List SV) (look : Look) (x : Nat → Xf.Loc) (k : Nat) : ent17 us look x k = spOf fs17 inv17 us look x k := rfl
structure OutU where
  L1 : Xf.Loc
  n : Int
  m : Int
def fs65 : FS where
  A := OutU
  args := fun a => [.int .i64 a.n, .ptr 0 a.L1 0 0 0]
  mem := fun a => [some (.ro, a.L1, .cells [.int .i64 a.m])]
  pre := fun a => 0 ≤ a.m ∧ a.m ≤ 1099511627776
  res := fun a _ => .bool (outB (-a.m) a.m a.n)
  out := fun _ _ => []
  new := fun _ _ => []
def inv65 : List SV → Look → Option (OutU × List Nat)
  | [.int .i64 n, .ptr c1 _ 0 0 0], look => match rowC (look c1) with
    | some (L1, [.int .i64 m]) => some (⟨L1, n, m⟩, [c1])
    | _ => none
  | _, _ => none
attribute [push_cast] inv65
theorem ok65 : FSOk Try.prog 65 fs65 := by
  refine ⟨⟨_, Try.func65, by kernel_rfl, by kernel_rfl⟩, fun a => ⟨by simp [fs65, push_cast, noMine, argOwn, Chunk.frArg], by simp [fs65, push_cast, outOk, Chunk.ext], fun x => .inl (by simp [fs65, push_cast, frNew, frOut, Chunk.fr])⟩, fun a hp => ?_⟩
  obtain ⟨L1, n, m⟩ := a
  obtain ⟨h1, h2⟩ : 0 ≤ m ∧ m ≤ 1099511627776 := hp
  change Tri Try.prog 65 [.int .i64 n, .ptr 0 L1 0 0 0] [some (.ro, L1, .cells [.int .i64 m])] (postF fs65 ⟨L1, n, m⟩)
  refine tri_evS (hyp (l := []) (lp := []) trivial trivial) Try.func65 comp65 (rs := [.tmp 3]) (by rfl) Try.ntmps65 10 ?_
  simp -implicitDefEqProofs only [push_cast, false_implies, reduceCtorEq, Classical.not_not, Nat.reduceAdd, Nat.reduceSub, Nat.reduceMul, Nat.reduceLeDiff, Nat.reduceLT, Nat.reduceEqDiff, Nat.reduceBEq, Nat.reduceBNe, Int.reduceNeg, Int.reduceToNat, Bool.or_false, Bool.false_or, Bool.or_true, Bool.true_or, BEq.rfl, Bool.not_eq_true, Bool.not_eq_false, decide_eq_true_eq, not_true_eq_false, not_false_eq_true, ite_true, ite_false, List.append_nil, and_assoc, Nat.mul_zero, Nat.zero_mul, ir65]
  repeat (refine And.intro (by first | omega | trivial | (intros; omega)) ?_)
  refine postF.mk' (fun _ => default) [some 0] ?_
  simp -implicitDefEqProofs only [push_cast, false_implies, reduceCtorEq, Classical.not_not, Nat.reduceAdd, Nat.reduceSub, Nat.reduceMul, Nat.reduceLeDiff, Nat.reduceLT, Nat.reduceEqDiff, Nat.reduceBEq, Nat.reduceBNe, Int.reduceNeg, Int.reduceToNat, Bool.or_false, Bool.false_or, Bool.or_true, Bool.true_or, BEq.rfl, Bool.not_eq_true, Bool.not_eq_false, decide_eq_true_eq, not_true_eq_false, not_false_eq_true, ite_true, ite_false, List.append_nil, and_assoc, Nat.mul_zero, Nat.zero_mul, fs65, outB]
def ent65 : Entry := spOf fs65 inv65
theorem e65 : EntryOk Try.prog 65 ent65 := entry_of ok65 inv65
@[push_cast] theorem ent65_app (us : List SV) (look : Look) (x : Nat → Xf.Loc) (k : Nat) : ent65 us look x k = spOf fs65 inv65 us look x k := rfl
structure OutV where
  L : Xf.Loc
  xs : List Int
  L1 : Xf.Loc
  m : Int
def fs74u : FS where
  A := OutV
  args := fun a => [.sl 0 a.L 1 0 a.xs.length, .fn 65 [.ptr 1 a.L1 0 0 0]]
  mem := fun a => [some (.ro, a.L, .ints .i64 a.xs), some (.ro, a.L1, .cells [.int .i64 a.m])]
  pre := fun a => a.xs.length ≤ 140737488355328 ∧ 0 ≤ a.m ∧ a.m ≤ 1099511627776
  res := fun a _ => .int .i64 (firstB (outB (-a.m) a.m) a.xs)
  out := fun _ _ => []
  new := fun _ _ => []
def inv74u : List SV → Look → Option (OutV × List Nat)
  | [.sl c _ 1 0 _, .fn 65 [.ptr c1 _ 0 0 0]], look => match rowI (lkZ look (.ints .i64 []) c), rowC (look c1) with
    | some (L, .i64, xs), some (L1, [.int .i64 m]) => some (⟨L, xs, L1, m⟩, [c, c1])
    | _, _ => none
  | _, _ => none
attribute [push_cast] inv74u
theorem ok74u : FSOk Try.prog 74 fs74u := by
  refine ⟨⟨_, Try.func74, by kernel_rfl, by kernel_rfl⟩, fun a => ⟨by simp [fs74u, push_cast, noMine, argOwn, Chunk.frArg], by simp [fs74u, push_cast, outOk, Chunk.ext], fun x => .inl (by simp [fs74u, push_cast, frNew, frOut, Chunk.fr])⟩, fun a hp => ?_⟩
  obtain ⟨L, xs, L1, m⟩ := a
  obtain ⟨hp, hm1, hm2⟩ : xs.length ≤ 140737488355328 ∧ 0 ≤ m ∧ m ≤ 1099511627776 := hp
  change Tri Try.prog 74 [.sl 0 L 1 0 xs.length, .fn 65 [.ptr 1 L1 0 0 0]] [some (.ro, L, .ints .i64 xs), some (.ro, L1, .cells [.int .i64 m])] (postF fs74u ⟨L, xs, L1, m⟩)
  refine tri_evS (hyp (l := [(65, ent65)]) (lp := []) ⟨e65, trivial⟩ trivial) Try.func74 comp74 (rs := [.tmp 4]) (by rfl) Try.ntmps74 14 ?_
  simp -implicitDefEqProofs only [push_cast, false_implies, reduceCtorEq, Classical.not_not, Nat.reduceAdd, Nat.reduceSub, Nat.reduceMul, Nat.reduceLeDiff, Nat.reduceLT, Nat.reduceEqDiff, Nat.reduceBEq, Nat.reduceBNe, Int.reduceNeg, Int.reduceToNat, Bool.or_false, Bool.false_or, Bool.or_true, Bool.true_or, BEq.rfl, Bool.not_eq_true, Bool.not_eq_false, decide_eq_true_eq, not_true_eq_false, not_false_eq_true, ite_true, ite_false, List.append_nil, and_assoc, Nat.mul_zero, Nat.zero_mul, ir74]
  refine evS_loopU (A := Nat) kp74_1 kl74_1 (fun i => [(8, .int .i64 i)]) (fun _ => [])
    (fun i => i ≤ xs.length ∧ ∀ j, j < i → outB (-m) m (rd xs (j : Nat)) = false) (fun i => xs.length - i) 0 ⟨by omega, by omega⟩ (Sub.pt ?_) ?_
  · simp -implicitDefEqProofs only [push_cast, false_implies, reduceCtorEq, Classical.not_not, Nat.reduceAdd, Nat.reduceSub, Nat.reduceMul, Nat.reduceLeDiff, Nat.reduceLT, Nat.reduceEqDiff, Nat.reduceBEq, Nat.reduceBNe, Int.reduceNeg, Int.reduceToNat, Bool.or_false, Bool.false_or, Bool.or_true, Bool.true_or, BEq.rfl, Bool.not_eq_true, Bool.not_eq_false, decide_eq_true_eq, not_true_eq_false, not_false_eq_true, ite_true, ite_false, List.append_nil, and_assoc, Nat.mul_zero, Nat.zero_mul]
  intro i ⟨h1, h2⟩ K hK
  simp -implicitDefEqProofs only [push_cast, false_implies, reduceCtorEq, Classical.not_not, Nat.reduceAdd, Nat.reduceSub, Nat.reduceMul, Nat.reduceLeDiff, Nat.reduceLT, Nat.reduceEqDiff, Nat.reduceBEq, Nat.reduceBNe, Int.reduceNeg, Int.reduceToNat, Bool.or_false, Bool.false_or, Bool.or_true, Bool.true_or, BEq.rfl, Bool.not_eq_true, Bool.not_eq_false, decide_eq_true_eq, not_true_eq_false, not_false_eq_true, ite_true, ite_false, List.append_nil, and_assoc, Nat.mul_zero, Nat.zero_mul, b74_1, r74_2, fs65]
  refine ⟨fun h => ?_, fun h => ?_⟩
  · repeat (refine And.intro (by first | omega | trivial | (intros; omega)) ?_)
    refine ⟨fun hb => ?_, fun hb => ⟨by omega, by omega, ?_⟩⟩
    · have e := firstB_at (by omega) hb h2
      exact postF.mk' (fun _ => default) [some 0, some 1] (by simp -implicitDefEqProofs only [push_cast, false_implies, reduceCtorEq, Classical.not_not, Nat.reduceAdd, Nat.reduceSub, Nat.reduceMul, Nat.reduceLeDiff, Nat.reduceLT, Nat.reduceEqDiff, Nat.reduceBEq, Nat.reduceBNe, Int.reduceNeg, Int.reduceToNat, Bool.or_false, Bool.false_or, Bool.or_true, Bool.true_or, BEq.rfl, Bool.not_eq_true, Bool.not_eq_false, decide_eq_true_eq, not_true_eq_false, not_false_eq_true, ite_true, ite_false, List.append_nil, and_assoc, Nat.mul_zero, Nat.zero_mul, fs74u, e])
    · refine hK (i + 1) ⟨by omega, ?_⟩ (show xs.length - (i + 1) < xs.length - i by omega) _ _ (Sub.pt ?_)
      · intro j hj
        by_cases e : j = i
        · subst e; exact hb
        · exact h2 j (by omega)
      · simp -implicitDefEqProofs only [push_cast, false_implies, reduceCtorEq, Classical.not_not, Nat.reduceAdd, Nat.reduceSub, Nat.reduceMul, Nat.reduceLeDiff, Nat.reduceLT, Nat.reduceEqDiff, Nat.reduceBEq, Nat.reduceBNe, Int.reduceNeg, Int.reduceToNat, Bool.or_false, Bool.false_or, Bool.or_true, Bool.true_or, BEq.rfl, Bool.not_eq_true, Bool.not_eq_false, decide_eq_true_eq, not_true_eq_false, not_false_eq_true, ite_true, ite_false, List.append_nil, and_assoc, Nat.mul_zero, Nat.zero_mul]
  · have e := firstB_no (p := outB (-m) m) (xs := xs) (fun j hj => h2 j (by omega))
    exact postF.mk' (fun _ => default) [some 0, some 1] (by simp -implicitDefEqProofs only [push_cast, false_implies, reduceCtorEq, Classical.not_not, Nat.reduceAdd, Nat.reduceSub, Nat.reduceMul, Nat.reduceLeDiff, Nat.reduceLT, Nat.reduceEqDiff, Nat.reduceBEq, Nat.reduceBNe, Int.reduceNeg, Int.reduceToNat, Bool.or_false, Bool.false_or, Bool.or_true, Bool.true_or, BEq.rfl, Bool.not_eq_true, Bool.not_eq_false, decide_eq_true_eq, not_true_eq_false, not_false_eq_true, ite_true, ite_false, List.append_nil, and_assoc, Nat.mul_zero, Nat.zero_mul, fs74u, e])
def ent74u : Entry := spOf fs74u inv74u
theorem e74u : EntryOk Try.prog 74 ent74u := entry_of ok74u inv74u
@[push_cast] theorem ent74u_app (us : List SV) (look : Look) (x : Nat → Xf.Loc) (k : Nat) : ent74u us look x k = spOf fs74u inv74u us look x k := rfl
def fs64u : FS := { fs74u with res := fun a _ => .bool (decide (¬ AllIn (-a.m) a.m a.xs)) }
theorem ok64u : FSOk Try.prog 64 fs64u := by
  refine ⟨⟨_, Try.func64, by kernel_rfl, by kernel_rfl⟩, fun a => ⟨by simp [fs64u, fs74u, push_cast, noMine, argOwn, Chunk.frArg], by simp [fs64u, fs74u, push_cast, outOk, Chunk.ext], fun x => .inl (by simp [fs64u, fs74u, push_cast, frNew, frOut, Chunk.fr])⟩, fun a hp => ?_⟩
  obtain ⟨L, xs, L1, m⟩ := a
  change Tri Try.prog 64 [.sl 0 L 1 0 xs.length, .fn 65 [.ptr 1 L1 0 0 0]] [some (.ro, L, .ints .i64 xs), some (.ro, L1, .cells [.int .i64 m])] (postF fs64u ⟨L, xs, L1, m⟩)
  refine tri_evS (hyp (l := [(74, ent74u)]) (lp := []) ⟨e74u, trivial⟩ trivial) Try.func64 comp64 (rs := [.tmp 4]) (by rfl) Try.ntmps64 14 ?_
  obtain ⟨h1, h2, h3⟩ := hp
  simp -implicitDefEqProofs only [push_cast, false_implies, reduceCtorEq, Classical.not_not, Nat.reduceAdd, Nat.reduceSub, Nat.reduceMul, Nat.reduceLeDiff, Nat.reduceLT, Nat.reduceEqDiff, Nat.reduceBEq, Nat.reduceBNe, Int.reduceNeg, Int.reduceToNat, Bool.or_false, Bool.false_or, Bool.or_true, Bool.true_or, BEq.rfl, Bool.not_eq_true, Bool.not_eq_false, decide_eq_true_eq, not_true_eq_false, not_false_eq_true, ite_true, ite_false, List.append_nil, and_assoc, Nat.mul_zero, Nat.zero_mul, ir64, fs74u]
  exact ⟨h1, h2, h3, postF.mk' (fun _ => default) [some 0, some 1] (by simp -implicitDefEqProofs only [push_cast, false_implies, reduceCtorEq, Classical.not_not, Nat.reduceAdd, Nat.reduceSub, Nat.reduceMul, Nat.reduceLeDiff, Nat.reduceLT, Nat.reduceEqDiff, Nat.reduceBEq, Nat.reduceBNe, Int.reduceNeg, Int.reduceToNat, Bool.or_false, Bool.false_or, Bool.or_true, Bool.true_or, BEq.rfl, Bool.not_eq_true, Bool.not_eq_false, decide_eq_true_eq, not_true_eq_false, not_false_eq_true, ite_true, ite_false, List.append_nil, and_assoc, Nat.mul_zero, Nat.zero_mul, fs64u, fs74u, allIn_iff])⟩
def ent64u : Entry := spOf fs64u inv74u
theorem e64u : EntryOk Try.prog 64 ent64u := entry_of ok64u inv74u
@[push_cast] theorem ent64u_app (us : List SV) (look : Look) (x : Nat → Xf.Loc) (k : Nat) : ent64u us look x k = spOf fs64u inv74u us look x k := rfl
structure RowM where
  L : Xf.Loc
  xs : List Int
  m : Int
def fs37 : FS where
  A := RowM
  args := fun a => [.sl 0 a.L 1 0 a.xs.length, .int .i64 a.m]
  mem := fun a => [some (.ro, a.L, .ints .i64 a.xs)]
  pre := fun a => a.xs.length ≤ 140737488355328 ∧ 0 ≤ a.m ∧ a.m ≤ 1099511627776
  res := fun a _ => .bool (decide (AllIn (-a.m) a.m a.xs))
  out := fun _ _ => []
  new := fun _ _ => []
def inv37 : List SV → Look → Option (RowM × List Nat)
  | [.sl c _ 1 0 _, .int .i64 m], look => match rowI (lkZ look (.ints .i64 []) c) with
    | some (L, .i64, xs) => some (⟨L, xs, m⟩, [c])
    | _ => none
  | _, _ => none
attribute [push_cast] inv37
theorem ok37 : FSOk Try.prog 37 fs37 := by
  refine ⟨⟨_, Try.func37, by kernel_rfl, by kernel_rfl⟩, fun a => ⟨by simp [fs37, push_cast, noMine, argOwn, Chunk.frArg], by simp [fs37, push_cast, outOk, Chunk.ext], fun x => .inl (by simp [fs37, push_cast, frNew, frOut, Chunk.fr])⟩, fun a hp => ?_⟩
  obtain ⟨L, xs, m⟩ := a
  obtain ⟨h1, h2, h3⟩ : xs.length ≤ 140737488355328 ∧ 0 ≤ m ∧ m ≤ 1099511627776 := hp
  change Tri Try.prog 37 [.sl 0 L 1 0 xs.length, .int .i64 m] [some (.ro, L, .ints .i64 xs)] (postF fs37 ⟨L, xs, m⟩)
  refine tri_evS (hyp (l := [(64, ent64u)]) (lp := []) ⟨e64u, trivial⟩ trivial) Try.func37 comp37 (rs := [.tmp 4]) (by rfl) Try.ntmps37 14 ?_
  simp -implicitDefEqProofs only [push_cast, false_implies, reduceCtorEq, Classical.not_not, Nat.reduceAdd, Nat.reduceSub, Nat.reduceMul, Nat.reduceLeDiff, Nat.reduceLT, Nat.reduceEqDiff, Nat.reduceBEq, Nat.reduceBNe, Int.reduceNeg, Int.reduceToNat, Bool.or_false, Bool.false_or, Bool.or_true, Bool.true_or, BEq.rfl, Bool.not_eq_true, Bool.not_eq_false, decide_eq_true_eq, not_true_eq_false, not_false_eq_true, ite_true, ite_false, List.append_nil, and_assoc, Nat.mul_zero, Nat.zero_mul, ir37, fs64u, fs74u, h1, h2, h3]
  exact fun X => postF.mk' (fun _ => default) [some 0] (by simp -implicitDefEqProofs only [push_cast, false_implies, reduceCtorEq, Classical.not_not, Nat.reduceAdd, Nat.reduceSub, Nat.reduceMul, Nat.reduceLeDiff, Nat.reduceLT, Nat.reduceEqDiff, Nat.reduceBEq, Nat.reduceBNe, Int.reduceNeg, Int.reduceToNat, Bool.or_false, Bool.false_or, Bool.or_true, Bool.true_or, BEq.rfl, Bool.not_eq_true, Bool.not_eq_false, decide_eq_true_eq, not_true_eq_false, not_false_eq_true, ite_true, ite_false, List.append_nil, and_assoc, Nat.mul_zero, Nat.zero_mul, fs37])
def ent37 : Entry := spOf fs37 inv37
theorem e37 : EntryOk Try.prog 37 ent37 := entry_of ok37 inv37
@[push_cast] theorem ent37_app (us : List SV) (look : Look) (x : Nat → Xf.Loc) (k : Nat) : ent37 us look x k = spOf fs37 inv37 us look x k := rfl
def ir66 : IR :=
  .seq (.reg false [⟨some 6, none, ⟨[], []⟩, .mov (.k (.int .i64 0))⟩] [6] []) (.seq (.block 0 (.seq (.reg false [⟨some 8, none, ⟨[], []⟩, .mov (.t 1)⟩,
    ⟨some 9, none, ⟨[], []⟩, .len (.t 8)⟩,
    ⟨some 10, none, ⟨[], []⟩, .bin 0 .eql (.t 9) (.k (.int .i64 0))⟩,
    ⟨some 11, none, ⟨[], []⟩, .mov (.t 10)⟩,
    ⟨some 12, some (11, false), ⟨[], []⟩, .mov (.t 0)⟩,
    ⟨some 13, some (11, false), ⟨[], []⟩, .bin 0 .eql (.t 12) (.k (.int .i64 1))⟩,
    ⟨some 14, some (11, false), ⟨[], []⟩, .mov (.t 13)⟩,
    ⟨some 15, some (14, true), ⟨[], []⟩, .mov (.t 2)⟩,
    ⟨some 16, some (14, true), ⟨[], []⟩, .mov (.t 1)⟩,
    ⟨some 17, some (14, true), ⟨[], []⟩, .len (.t 16)⟩,
    ⟨some 18, some (14, true), ⟨[], []⟩, .bin 0 .geq (.t 15) (.t 17)⟩,
    ⟨some 19, some (11, false), ⟨[], []⟩, .pick (.t 14) (.t 18) (.k (.bool false))⟩,
    ⟨some 20, none, ⟨[], []⟩, .pick (.t 11) (.k (.bool true)) (.t 19)⟩,
    ⟨some 7, none, ⟨[], []⟩, .mov (.t 20)⟩] [8, 9, 10, 11, 12, 13, 14, 15, 16, 17, 18, 19, 20] []) (.cond (.t 7) (.seq (.reg false [⟨some 6, none, ⟨[], []⟩, .mov (.k (.int .i64 0))⟩] [0, 1, 2, 7] []) (.ret)) (.seq (.reg false [⟨some 22, none, ⟨[], []⟩, .mov (.t 0)⟩,
    ⟨some 23, none, ⟨[], []⟩, .bin 0 .eql (.t 22) (.k (.int .i64 1))⟩,
    ⟨some 21, none, ⟨[], []⟩, .mov (.t 23)⟩] [0, 7, 22, 23] []) (.cond (.t 21) (.seq (.reg false [⟨some 24, none, ⟨[], []⟩, .mov (.t 1)⟩,
    ⟨some 25, none, ⟨[], []⟩, .mov (.t 2)⟩,
    ⟨some 26, none, ⟨[], []⟩, .idxS (.t 24) (.t 25) 1⟩,
    ⟨some 27, none, ⟨[], []⟩, .ld true none 0 0 (.t 26)⟩,
    ⟨some 28, none, ⟨[], []⟩, .bin 0 .shr (.t 27) (.k (.int .u64 1))⟩,
    ⟨some 6, none, ⟨[], []⟩, .mov (.t 28)⟩] [1, 2, 21, 24, 25, 26, 27, 28] []) (.ret)) (.skip)))))) (.seq (.reg true [⟨some 29, none, ⟨[], []⟩, .mov (.t 1)⟩,
    ⟨some 30, none, ⟨[], []⟩, .mov (.t 2)⟩,
    ⟨some 31, none, ⟨[], []⟩, .bin 0 .sub (.t 30) (.k (.int .i64 1))⟩,
    ⟨some 32, none, ⟨[], []⟩, .mx (.t 31) (.k (.int .i64 0))⟩,
    ⟨some 33, none, ⟨[], []⟩, .idxS (.t 29) (.t 32) 1⟩,
    ⟨some 34, none, ⟨[], []⟩, .ld true none 0 0 (.t 33)⟩,
    ⟨some 35, none, ⟨[], []⟩, .mov (.t 1)⟩,
    ⟨some 36, none, ⟨[], []⟩, .mov (.t 2)⟩,
    ⟨some 37, none, ⟨[], []⟩, .mov (.t 1)⟩,
    ⟨some 38, none, ⟨[], []⟩, .len (.t 37)⟩,
    ⟨some 39, none, ⟨[], []⟩, .bin 0 .sub (.t 38) (.k (.int .i64 1))⟩,
    ⟨some 40, none, ⟨[], []⟩, .mn (.t 36) (.t 39)⟩,
    ⟨some 41, none, ⟨[], []⟩, .idxS (.t 35) (.t 40) 1⟩,
    ⟨some 42, none, ⟨[], []⟩, .ld true none 0 0 (.t 41)⟩,
    ⟨some 43, none, ⟨[], []⟩, .bin 0 .add (.t 34) (.t 42)⟩,
    ⟨some 44, none, ⟨[], []⟩, .bin 0 .add (.t 43) (.k (.int .i64 2))⟩,
    ⟨some 45, none, ⟨[], []⟩, .bin 0 .shr (.t 44) (.k (.int .u64 2))⟩,
    ⟨some 6, none, ⟨[], []⟩, .mov (.t 45)⟩] [1, 2, 21, 29, 30, 31, 32, 33, 34, 35, 36, 37, 38, 39, 40, 41, 42, 43, 44, 45] []) (.ret)))
set_option maxRecDepth 4000 in
theorem comp66 : (Try.f66.body.bind fun c => compC tab isP chkAll ir66 c) = some ir66 := by kernel_rfl
def b38_1 : IR :=
  .seq (.reg false [⟨some 22, none, ⟨[], []⟩, .bin 0 .lss (.t 21) (.t 20)⟩] [] []) (.seq (.cond (.t 22) (.skip) (.exit 0)) (.seq (.block 1 (.seq (.reg false [⟨some 23, none, ⟨[], []⟩, .mov (.t 21)⟩,
    ⟨some 8, none, ⟨[], []⟩, .mov (.t 23)⟩] [22, 23] []) (.seq (.reg true [⟨some 24, none, ⟨[], []⟩, .mov (.t 7)⟩,
    ⟨some 25, none, ⟨[], []⟩, .mov (.t 8)⟩,
    ⟨some 26, none, ⟨[], []⟩, .mov (.t 1)⟩,
    ⟨some 27, none, ⟨[], []⟩, .mov (.t 8)⟩,
    ⟨some 28, none, ⟨[], []⟩, .bin 0 .mul (.k (.int .i64 2)) (.t 27)⟩,
    ⟨some 29, none, ⟨[], []⟩, .bin 0 .add (.t 28) (.k (.int .i64 1))⟩,
    ⟨some 30, none, ⟨[], []⟩, .idxS (.t 26) (.t 29) 1⟩,
    ⟨some 31, none, ⟨[], []⟩, .ld true none 0 0 (.t 30)⟩,
    ⟨some 32, none, ⟨[], []⟩, .mov (.t 1)⟩,
    ⟨some 33, none, ⟨[], []⟩, .mov (.t 8)⟩,
    ⟨some 34, none, ⟨[], []⟩, .bin 0 .mul (.k (.int .i64 2)) (.t 33)⟩,
    ⟨some 35, none, ⟨[], []⟩, .idxS (.t 32) (.t 34) 1⟩,
    ⟨some 36, none, ⟨[], []⟩, .ld true none 0 0 (.t 35)⟩,
    ⟨some 37, none, ⟨[], []⟩, .bin 0 .sub (.t 31) (.t 36)⟩,
    ⟨some 38, none, ⟨[], []⟩, .idxS (.t 24) (.t 25) 1⟩,
    ⟨none, none, ⟨[], []⟩, .sto true 1 .i64 (.t 38) (.t 37)⟩] [24, 25, 26, 27, 28, 29, 30, 31, 32, 33, 34, 35, 36, 37, 38] []) (.seq (.reg false [⟨some 39, none, ⟨[], []⟩, .mov (.t 0)⟩,
    ⟨some 40, none, ⟨[], []⟩, .bin 0 .eql (.t 39) (.k (.int .i64 0))⟩] [39] []) (.cond (.t 40) (.seq (.reg false [⟨some 41, none, ⟨[], []⟩, .mov (.t 1)⟩,
    ⟨some 42, none, ⟨[], []⟩, .mov (.t 8)⟩,
    ⟨some 43, none, ⟨[], []⟩, .bin 0 .mul (.k (.int .i64 2)) (.t 42)⟩,
    ⟨some 44, none, ⟨[], []⟩, .idxS (.t 41) (.t 43) 1⟩,
    ⟨some 45, none, ⟨[], []⟩, .ld true none 0 0 (.t 44)⟩,
    ⟨some 9, none, ⟨[], []⟩, .mov (.t 45)⟩] [40, 41, 42, 43, 44, 45] []) (.seq (.seq (.reg false [⟨some 46, none, ⟨[], []⟩, .mov (.t 8)⟩,
    ⟨some 47, none, ⟨[], []⟩, .bin 0 .mul (.k (.int .i64 2)) (.t 46)⟩,
    ⟨some 48, none, ⟨[], []⟩, .bin 0 .add (.t 47) (.k (.int .i64 2))⟩,
    ⟨some 49, none, ⟨[], []⟩, .mov (.t 5)⟩,
    ⟨some 50, none, ⟨[], []⟩, .bin 0 .lss (.t 48) (.t 49)⟩] [46, 47, 48, 49] []) (.cond (.t 50) (.reg false [⟨some 51, none, ⟨[], []⟩, .mov (.t 1)⟩,
    ⟨some 52, none, ⟨[], []⟩, .mov (.t 8)⟩,
    ⟨some 53, none, ⟨[], []⟩, .bin 0 .mul (.k (.int .i64 2)) (.t 52)⟩,
    ⟨some 54, none, ⟨[], []⟩, .bin 0 .add (.t 53) (.k (.int .i64 2))⟩,
    ⟨some 55, none, ⟨[], []⟩, .idxS (.t 51) (.t 54) 1⟩,
    ⟨some 56, none, ⟨[], []⟩, .ld true none 0 0 (.t 55)⟩,
    ⟨some 9, none, ⟨[], []⟩, .mov (.t 56)⟩] [50, 51, 52, 53, 54, 55, 56] []) (.skip))) (.reg true [⟨some 57, none, ⟨[], []⟩, .mov (.t 7)⟩,
    ⟨some 58, none, ⟨[], []⟩, .mov (.t 8)⟩,
    ⟨some 59, none, ⟨[], []⟩, .mov (.t 1)⟩,
    ⟨some 60, none, ⟨[], []⟩, .mov (.t 8)⟩,
    ⟨some 61, none, ⟨[], []⟩, .bin 0 .mul (.k (.int .i64 2)) (.t 60)⟩,
    ⟨some 62, none, ⟨[], []⟩, .bin 0 .add (.t 61) (.k (.int .i64 1))⟩,
    ⟨some 63, none, ⟨[], []⟩, .idxS (.t 59) (.t 62) 1⟩,
    ⟨some 64, none, ⟨[], []⟩, .ld true none 0 0 (.t 63)⟩,
    ⟨some 65, none, ⟨[], []⟩, .mov (.t 1)⟩,
    ⟨some 66, none, ⟨[], []⟩, .mov (.t 8)⟩,
    ⟨some 67, none, ⟨[], []⟩, .bin 0 .mul (.k (.int .i64 2)) (.t 66)⟩,
    ⟨some 68, none, ⟨[], []⟩, .idxS (.t 65) (.t 67) 1⟩,
    ⟨some 69, none, ⟨[], []⟩, .ld true none 0 0 (.t 68)⟩,
    ⟨some 70, none, ⟨[], []⟩, .mov (.t 9)⟩,
    ⟨some 71, none, ⟨[], []⟩, .bin 0 .add (.t 69) (.t 70)⟩,
    ⟨some 72, none, ⟨[], []⟩, .bin 0 .shr (.t 71) (.k (.int .u64 1))⟩,
    ⟨some 73, none, ⟨[], []⟩, .bin 0 .sub (.t 64) (.t 72)⟩,
    ⟨some 74, none, ⟨[], []⟩, .idxS (.t 57) (.t 58) 1⟩,
    ⟨none, none, ⟨[], []⟩, .sto true 1 .i64 (.t 74) (.t 73)⟩] [8, 9, 50, 57, 58, 59, 60, 61, 62, 63, 64, 65, 66, 67, 68, 69, 70, 71, 72, 73, 74] []))) (.skip)))))) (.reg false [⟨some 75, none, ⟨[], []⟩, .bin 0 .add (.t 21) (.k (.int .i64 1))⟩,
    ⟨some 21, none, ⟨[], []⟩, .mov (.t 75)⟩] [8, 40, 75] [])))
def b38_2 : IR :=
  .seq (.reg false [⟨some 82, none, ⟨[], []⟩, .bin 0 .lss (.t 81) (.t 80)⟩] [] []) (.seq (.cond (.t 82) (.skip) (.exit 2)) (.seq (.block 3 (.seq (.reg false [⟨some 83, none, ⟨[], []⟩, .mov (.t 81)⟩,
    ⟨some 11, none, ⟨[], []⟩, .mov (.t 83)⟩] [82, 83] []) (.reg true [⟨some 84, none, ⟨[], []⟩, .mov (.t 10)⟩,
    ⟨some 85, none, ⟨[], []⟩, .mov (.t 1)⟩,
    ⟨some 86, none, ⟨[], []⟩, .mov (.t 11)⟩,
    ⟨some 87, none, ⟨[], []⟩, .bin 0 .mul (.k (.int .i64 2)) (.t 86)⟩,
    ⟨some 88, none, ⟨[], []⟩, .idxS (.t 85) (.t 87) 1⟩,
    ⟨some 89, none, ⟨[12, 13, 14, 15], []⟩, .ld true none 0 0 (.t 88)⟩,
    ⟨some 90, none, ⟨[], []⟩, .mov (.t 0)⟩,
    ⟨some 91, none, ⟨[], []⟩, .mov (.t 7)⟩,
    ⟨some 92, none, ⟨[], []⟩, .mov (.t 11)⟩,
    ⟨some 93, none, ⟨[], []⟩, .call (some 4) 12 66 [.t 90, .t 91, .t 92]⟩,
    ⟨some 94, none, ⟨[], []⟩, .bin 0 .add (.t 89) (.t 93)⟩,
    ⟨some 95, none, ⟨[], []⟩, .bslice 16 [.t 94]⟩,
    ⟨some 96, none, ⟨[], []⟩, .app 17 1 8 (.t 84) (.t 95)⟩,
    ⟨some 10, none, ⟨[], []⟩, .mov (.t 96)⟩] [11, 84, 85, 86, 87, 88, 89, 90, 91, 92, 93, 94, 95, 96] []))) (.reg false [⟨some 97, none, ⟨[], []⟩, .bin 0 .add (.t 81) (.k (.int .i64 1))⟩,
    ⟨some 81, none, ⟨[], []⟩, .mov (.t 97)⟩] [97] [])))
def r38_3 : IR :=
  .seq (.reg false [⟨some 98, none, ⟨[], []⟩, .mov (.t 10)⟩,
    ⟨some 99, none, ⟨[], []⟩, .mov (.t 7)⟩,
    ⟨some 100, none, ⟨[], []⟩, .app 18 1 8 (.t 98) (.t 99)⟩,
    ⟨some 4, none, ⟨[], []⟩, .mov (.t 100)⟩] [0, 1, 7, 10, 80, 81, 98, 99, 100] []) (.ret)
def r38_4 : IR :=
  .seq (.reg false [⟨some 76, none, ⟨[], []⟩, .mov (.t 5)⟩,
    ⟨some 77, none, ⟨[], []⟩, .mks 11 (.int .i64 0) 8 (.k (.int .i64 0)) (.t 76)⟩,
    ⟨some 10, none, ⟨[], []⟩, .mov (.t 77)⟩] [20, 21, 76, 77] []) (.seq (.seq (.reg false [⟨some 78, none, ⟨[], []⟩, .mov (.t 5)⟩,
    ⟨some 79, none, ⟨[], []⟩, .mov (.t 6)⟩,
    ⟨some 80, none, ⟨[], []⟩, .bin 0 .sub (.t 78) (.t 79)⟩,
    ⟨some 81, none, ⟨[], []⟩, .mov (.k (.int .i64 0))⟩] [5, 6, 78, 79] []) (.block 2 (.loop b38_2))) (r38_3))
def ir38 : IR :=
  .seq (.reg false [⟨some 4, none, ⟨[], []⟩, .mov (.k nilSV)⟩] [4] []) (.seq (.reg false [⟨some 12, none, ⟨[], []⟩, .mov (.t 1)⟩,
    ⟨some 13, none, ⟨[], []⟩, .len (.t 12)⟩,
    ⟨some 14, none, ⟨[], []⟩, .mov (.t 1)⟩,
    ⟨some 15, none, ⟨[], []⟩, .len (.t 14)⟩,
    ⟨some 16, none, ⟨[], []⟩, .bin 0 .quo (.t 15) (.k (.int .i64 2))⟩,
    ⟨some 5, none, ⟨[], []⟩, .mov (.t 13)⟩,
    ⟨some 6, none, ⟨[], []⟩, .mov (.t 16)⟩] [12, 13, 14, 15, 16] []) (.seq (.reg false [⟨some 17, none, ⟨[], []⟩, .mov (.t 6)⟩,
    ⟨some 18, none, ⟨[], []⟩, .mks 10 (.int .i64 0) 8 (.t 17) (.t 17)⟩,
    ⟨some 7, none, ⟨[], []⟩, .mov (.t 18)⟩] [17, 18] []) (.seq (.seq (.reg false [⟨some 19, none, ⟨[], []⟩, .mov (.t 7)⟩,
    ⟨some 20, none, ⟨[], []⟩, .len (.t 19)⟩,
    ⟨some 21, none, ⟨[], []⟩, .mov (.k (.int .i64 0))⟩] [19] []) (.block 0 (.loop b38_1))) (r38_4))))
def kp38_1 : List Nat := [0, 1, 5, 6, 7, 20, 21]
def kl38_1 : List Nat := []
attribute [push_cast] kp38_1 kl38_1
def kp38_2 : List Nat := [0, 1, 7, 10, 80, 81]
def kl38_2 : List Nat := [12, 13, 14, 15, 16, 17]
attribute [push_cast] kp38_2 kl38_2
set_option maxRecDepth 4000 in
theorem comp38 : (Try.f38.body.bind fun c => compC tab isP chkAll ir38 c) = some ir38 := by kernel_rfl
def liftG (kind : Int) (g : Int → Int) (n i : Int) : Int :=
  if n = 0 ∨ kind = 1 ∧ n ≤ i then 0 else if kind = 1 then g i / 2 else (g (max (i - 1) 0) + g (min i (n - 1)) + 2) / 4
structure LiftA where
  kind : Int
  L : Xf.Loc
  xs : List Int
  lo : Int
  n : Int
  i : Int
def fs66 : FS where
  A := LiftA
  args := fun a => [.int .i64 a.kind, .sl 0 a.L 1 a.lo a.n, .int .i64 a.i]
  mem := fun a => [some (.ro, a.L, .ints .i64 a.xs)]
  pre := fun a => a.xs.length ≤ 140737488355328 ∧ 0 ≤ a.lo ∧ 0 ≤ a.n ∧ a.lo + a.n ≤ a.xs.length ∧ 0 ≤ a.i ∧ a.i ≤ a.n ∧ AllIn (-4503599627370496) 4503599627370496 a.xs
  res := fun a _ => .int .i64 (liftG a.kind (fun j => rd a.xs (a.lo + j)) a.n a.i)
  out := fun _ _ => []
  new := fun _ _ => []
def inv66 : List SV → Look → Option (LiftA × List Nat)
  | [.int .i64 k, .sl c _ 1 lo n, .int .i64 i], look => match rowI (lkZ look (.ints .i64 []) c) with
    | some (L, .i64, xs) => some (⟨k, L, xs, lo, n, i⟩, [c])
    | _ => none
  | _, _ => none
attribute [push_cast] inv66
theorem ok66 : FSOk Try.prog 66 fs66 := by
  refine ⟨⟨_, Try.func66, by kernel_rfl, by kernel_rfl⟩, fun a => ⟨by simp [fs66, push_cast, noMine, argOwn, Chunk.frArg], by simp [fs66, push_cast, outOk, Chunk.ext], fun x => .inl (by simp [fs66, push_cast, frNew, frOut, Chunk.fr])⟩, fun a hp => ?_⟩
  obtain ⟨kind, L, xs, lo, n, i⟩ := a
  obtain ⟨h1, h2, h3, h4, h5, h6, h7⟩ : xs.length ≤ 140737488355328 ∧ 0 ≤ lo ∧ 0 ≤ n ∧ lo + n ≤ xs.length ∧ 0 ≤ i ∧ i ≤ n ∧ AllIn (-4503599627370496) 4503599627370496 xs := hp
  change Tri Try.prog 66 [.int .i64 kind, .sl 0 L 1 lo n, .int .i64 i] [some (.ro, L, .ints .i64 xs)] (postF fs66 ⟨kind, L, xs, lo, n, i⟩)
  have b1 := rd_bd h7 (by omega) (by omega) (lo + i)
  have b2 := rd_bd h7 (by omega) (by omega) (lo + max (i - 1) 0)
  have b3 := rd_bd h7 (by omega) (by omega) (lo + min i (n - 1))
  refine tri_evS (hyp (l := []) (lp := []) trivial trivial) Try.func66 comp66 (rs := [.tmp 6]) (by rfl) Try.ntmps66 10 ?_
  simp -implicitDefEqProofs only [push_cast, false_implies, reduceCtorEq, Classical.not_not, Nat.reduceAdd, Nat.reduceSub, Nat.reduceMul, Nat.reduceLeDiff, Nat.reduceLT, Nat.reduceEqDiff, Nat.reduceBEq, Nat.reduceBNe, Int.reduceNeg, Int.reduceToNat, Bool.or_false, Bool.false_or, Bool.or_true, Bool.true_or, BEq.rfl, Bool.not_eq_true, Bool.not_eq_false, decide_eq_true_eq, not_true_eq_false, not_false_eq_true, ite_true, ite_false, List.append_nil, and_assoc, Nat.mul_zero, Nat.zero_mul, ir66]
  have e1 : (2 : Int) ^ 1 = 2 := rfl
  have e2 : (2 : Int) ^ 2 = 4 := rfl
  refine ⟨fun H => ⟨H.1, H.2, H⟩, fun H => ⟨H, fun q => ⟨H, q⟩⟩, fun h => ?_, fun h => ⟨fun hk => ?_, fun hk => ?_⟩⟩
  · refine postF.mk' (fun _ => default) [some 0] ?_
    simp -implicitDefEqProofs only [push_cast, false_implies, reduceCtorEq, Classical.not_not, Nat.reduceAdd, Nat.reduceSub, Nat.reduceMul, Nat.reduceLeDiff, Nat.reduceLT, Nat.reduceEqDiff, Nat.reduceBEq, Nat.reduceBNe, Int.reduceNeg, Int.reduceToNat, Bool.or_false, Bool.false_or, Bool.or_true, Bool.true_or, BEq.rfl, Bool.not_eq_true, Bool.not_eq_false, decide_eq_true_eq, not_true_eq_false, not_false_eq_true, ite_true, ite_false, List.append_nil, and_assoc, Nat.mul_zero, Nat.zero_mul, fs66, liftG, h, if_true]
  · repeat (refine And.intro (by first | omega | trivial | (intros; omega)) ?_)
    refine postF.mk' (fun _ => default) [some 0] ?_
    simp -implicitDefEqProofs only [push_cast, false_implies, reduceCtorEq, Classical.not_not, Nat.reduceAdd, Nat.reduceSub, Nat.reduceMul, Nat.reduceLeDiff, Nat.reduceLT, Nat.reduceEqDiff, Nat.reduceBEq, Nat.reduceBNe, Int.reduceNeg, Int.reduceToNat, Bool.or_false, Bool.false_or, Bool.or_true, Bool.true_or, BEq.rfl, Bool.not_eq_true, Bool.not_eq_false, decide_eq_true_eq, not_true_eq_false, not_false_eq_true, ite_true, ite_false, List.append_nil, and_assoc, Nat.mul_zero, Nat.zero_mul, fs66, liftG, h, if_false, hk, if_true, e1]
    rw [if_neg (by omega)]
  · repeat (refine And.intro (by first | omega | trivial | (intros; omega)) ?_)
    refine postF.mk' (fun _ => default) [some 0] ?_
    simp -implicitDefEqProofs only [push_cast, false_implies, reduceCtorEq, Classical.not_not, Nat.reduceAdd, Nat.reduceSub, Nat.reduceMul, Nat.reduceLeDiff, Nat.reduceLT, Nat.reduceEqDiff, Nat.reduceBEq, Nat.reduceBNe, Int.reduceNeg, Int.reduceToNat, Bool.or_false, Bool.false_or, Bool.or_true, Bool.true_or, BEq.rfl, Bool.not_eq_true, Bool.not_eq_false, decide_eq_true_eq, not_true_eq_false, not_false_eq_true, ite_true, ite_false, List.append_nil, and_assoc, Nat.mul_zero, Nat.zero_mul, fs66, e2]
    unfold liftG
    rw [if_neg h, if_neg hk]
def ent66 : Entry := spOf fs66 inv66
theorem e66 : EntryOk Try.prog 66 ent66 := entry_of ok66 inv66
@[push_cast] theorem ent66_app (us : List SV) (look : Look) (x : Nat → Xf.Loc) (k : Nat) : ent66 us look x k = spOf fs66 inv66 us look x k := rfl
structure NearA where
  L : Xf.Loc
  xs : List Int
  lo : Int
  n : Int
  i : Int
def nxt (n : Int) (f : Int → Int) (i : Int) : Int := if 2 * i + 2 < n then f (2 * i + 2) else f (2 * i)
def hiF (kind : Int) (n : Nat) (f : Int → Int) (i : Nat) : Int := if kind = 1 then f (2 * i + 1) - f (2 * i) else f (2 * i + 1) - (f (2 * i) + nxt n f i) / 2
def hiL (kind : Int) (n : Nat) (f : Int → Int) : List Int := tabl (n / 2) (hiF kind n f)
def loF (kind : Int) (n : Nat) (f : Int → Int) (i : Nat) : Int := f (2 * i) + liftG kind (fun j => rd (hiL kind n f) j) (n / 2 : Nat) i
def lineL (kind : Int) (n : Nat) (f : Int → Int) : List Int := tabl (n - n / 2) (loF kind n f) ++ hiL kind n f
theorem lineL_length (kind : Int) (n : Nat) (f : Int → Int) : (lineL kind n f).length = n := by simp [lineL, hiL, tabl_length]; omega
def BdF (B : Int) (f : Int → Int) : Prop := ∀ j, -B ≤ f j ∧ f j ≤ B
theorem hiF_bd {kind : Int} {n : Nat} {f : Int → Int} {B : Int} (h : BdF B f) (i : Nat) : -(2 * B) ≤ hiF kind n f i ∧ hiF kind n f i ≤ 2 * B := by
  have h1 := h (2 * i)
  have h2 := h (2 * i + 1)
  have h3 := h (2 * i + 2)
  unfold hiF nxt
  split
  · omega
  · split <;> omega
theorem hiL_bd {kind : Int} {n : Nat} {f : Int → Int} {B : Int} (h : BdF B f) : AllIn (-(2 * B)) (2 * B) (hiL kind n f) := by
  rw [allIn_rd]
  intro j hj
  unfold hiL at hj ⊢
  rw [tabl_length] at hj
  rw [rd_tabl hj]
  exact hiF_bd h j
theorem liftG_bd {kind : Int} {g : Int → Int} {B : Int} (h : BdF B g) (h0 : 0 ≤ B) (n i : Int) : -(B + 1) ≤ liftG kind g n i ∧ liftG kind g n i ≤ B + 1 := by
  have h1 := h i
  have h2 := h (max (i - 1) 0)
  have h3 := h (min i (n - 1))
  unfold liftG
  split
  · omega
  · split <;> omega
theorem BdF.rd {xs : List Int} {B : Int} (h : AllIn (-B) B xs) (h0 : 0 ≤ B) (lo : Int) : BdF B (fun j => rd xs (lo + j)) := fun j => rd_bd h (by omega) h0 _
theorem BdF.rd0 {xs : List Int} {B : Int} (h : AllIn (-B) B xs) (h0 : 0 ≤ B) : BdF B (fun j => Xf.rd xs j) := fun j => rd_bd h (by omega) h0 _
structure LineA where
  kind : Int
  L : Xf.Loc
  xs : List Int
  lo : Int
  n : Nat
def fs38 : FS where
  A := LineA
  args := fun a => [.int .i64 a.kind, .sl 0 a.L 1 a.lo a.n]
  mem := fun a => [some (.ro, a.L, .ints .i64 a.xs)]
  pre := fun a => (a.kind = 0 ∨ a.kind = 1) ∧ a.xs.length ≤ 140737488355328 ∧ 0 ≤ a.lo ∧ a.lo + a.n ≤ a.xs.length ∧ a.n ≤ 1000000 ∧ AllIn (-1073741824) 1073741824 a.xs
  res := fun a x => .sl 1 (x 0) 1 0 a.n
  out := fun _ _ => []
  new := fun a x => [(x 0, .ints .i64 (lineL a.kind a.n (fun j => rd a.xs (a.lo + j))))]
def inv38 : List SV → Look → Option (LineA × List Nat)
  | [.int .i64 k, .sl c _ 1 lo n], look => match rowI (lkZ look (.ints .i64 []) c) with
    | some (L, .i64, xs) => some (⟨k, L, xs, lo, n.toNat⟩, [c])
    | _ => none
  | _, _ => none
attribute [push_cast] inv38
theorem ok38 : FSOk Try.prog 38 fs38 := by
  refine ⟨⟨_, Try.func38, by kernel_rfl, by kernel_rfl⟩, fun a => ⟨by simp [fs38, push_cast, noMine, argOwn, Chunk.frArg], by simp [fs38, push_cast, outOk, Chunk.ext], fun x => .inl (by simp [fs38, push_cast, frNew, frOut, Chunk.fr])⟩, fun a hp => ?_⟩
  obtain ⟨kind, L, xs, lo, n⟩ := a
  obtain ⟨hk, h1, h2, h3, h4, h5⟩ : (kind = 0 ∨ kind = 1) ∧ xs.length ≤ 140737488355328 ∧ 0 ≤ lo ∧ lo + n ≤ xs.length ∧ n ≤ 1000000 ∧ AllIn (-1073741824) 1073741824 xs := hp
  change Tri Try.prog 38 [.int .i64 kind, .sl 0 L 1 lo n] [some (.ro, L, .ints .i64 xs)] (postF fs38 ⟨kind, L, xs, lo, n⟩)
  obtain ⟨f, hf⟩ : ∃ f : Int → Int, (fun j => rd xs (lo + j)) = f := ⟨_, rfl⟩
  have hfj : ∀ j, rd xs (lo + j) = f j := fun j => by rw [← hf]
  have hB : BdF 1073741824 f := by rw [← hf]; exact BdF.rd h5 (by omega) lo
  obtain ⟨m, hm⟩ : ∃ m, n / 2 = m := ⟨_, rfl⟩
  have en : ((n : Int) / 2) = (m : Int) := by omega
  refine tri_evS (hyp (l := [(66, ent66)]) (lp := []) ⟨e66, trivial⟩ trivial) Try.func38 comp38 (rs := [.tmp 4]) (by rfl) Try.ntmps38 19 ?_
  simp -implicitDefEqProofs only [push_cast, false_implies, reduceCtorEq, Classical.not_not, Nat.reduceAdd, Nat.reduceSub, Nat.reduceMul, Nat.reduceLeDiff, Nat.reduceLT, Nat.reduceEqDiff, Nat.reduceBEq, Nat.reduceBNe, Int.reduceNeg, Int.reduceToNat, Bool.or_false, Bool.false_or, Bool.or_true, Bool.true_or, BEq.rfl, Bool.not_eq_true, Bool.not_eq_false, decide_eq_true_eq, not_true_eq_false, not_false_eq_true, ite_true, ite_false, List.append_nil, and_assoc, Nat.mul_zero, Nat.zero_mul, ir38]
  rw [en]
  repeat (refine And.intro (by first | omega | trivial | (intros; omega)) ?_)
  intro X
  repeat (refine And.intro (by first | omega | trivial | (intros; omega)) ?_)
  have ez : (m : Int).toNat = m := Int.toNat_natCast _
  refine evS_loopU (A := Nat) kp38_1 kl38_1 (fun i => [(21, .int .i64 i)]) (fun i => [(10, .mine, X 1 10, .ints .i64 (prt m i (hiF kind n f)))]) (fun i => i ≤ m) (fun i => m - i) 0 (by omega) (Sub.pt ?_) ?_
  · simp -implicitDefEqProofs only [push_cast, false_implies, reduceCtorEq, Classical.not_not, Nat.reduceAdd, Nat.reduceSub, Nat.reduceMul, Nat.reduceLeDiff, Nat.reduceLT, Nat.reduceEqDiff, Nat.reduceBEq, Nat.reduceBNe, Int.reduceNeg, Int.reduceToNat, Bool.or_false, Bool.false_or, Bool.or_true, Bool.true_or, BEq.rfl, Bool.not_eq_true, Bool.not_eq_false, decide_eq_true_eq, not_true_eq_false, not_false_eq_true, ite_true, ite_false, List.append_nil, and_assoc, Nat.mul_zero, Nat.zero_mul, prt_zero, ez]
  intro i (hi : i ≤ m) K hK
  simp -implicitDefEqProofs only [push_cast, false_implies, reduceCtorEq, Classical.not_not, Nat.reduceAdd, Nat.reduceSub, Nat.reduceMul, Nat.reduceLeDiff, Nat.reduceLT, Nat.reduceEqDiff, Nat.reduceBEq, Nat.reduceBNe, Int.reduceNeg, Int.reduceToNat, Bool.or_false, Bool.false_or, Bool.or_true, Bool.true_or, BEq.rfl, Bool.not_eq_true, Bool.not_eq_false, decide_eq_true_eq, not_true_eq_false, not_false_eq_true, ite_true, ite_false, List.append_nil, and_assoc, Nat.mul_zero, Nat.zero_mul, b38_1, r38_4]
  refine ⟨fun hl => ?_, fun hl => ?_⟩
  · have hi' : i < m := by omega
    have lP := prt_length hi (hiF kind n f)
    have q : (prt m i (hiF kind n f)).set i (hiF kind n f i) = prt m (i + 1) (hiF kind n f) := prt_set hi' _
    have b0 := hB (2 * i)
    have b1 := hB (2 * i + 1)
    have b2 := hB (2 * i + 2)
    have e2 : (2 : Int) ^ 1 = 2 := rfl
    simp only [hfj, List.length_set, e2]
    repeat (refine And.intro (by first | omega | trivial | (intros; omega)) ?_)
    refine ⟨fun hk0 => ?_, fun hk0 => ?_⟩
    · repeat (refine And.intro (by first | omega | trivial | (intros; omega)) ?_)
      refine ⟨fun hr => ?_, fun hr => ?_⟩
      · repeat (refine And.intro (by first | omega | trivial | (intros; omega)) ?_)
        refine hK (i + 1) (by omega) (by omega) _ _ (Sub.pt ?_)
        have e : f (2 * i + 1) - (f (2 * i) + f (2 * i + 2)) / 2 = hiF kind n f i := by simp [hiF, nxt, hk0, hr]
        simp -implicitDefEqProofs only [push_cast, false_implies, reduceCtorEq, Classical.not_not, Nat.reduceAdd, Nat.reduceSub, Nat.reduceMul, Nat.reduceLeDiff, Nat.reduceLT, Nat.reduceEqDiff, Nat.reduceBEq, Nat.reduceBNe, Int.reduceNeg, Int.reduceToNat, Bool.or_false, Bool.false_or, Bool.or_true, Bool.true_or, BEq.rfl, Bool.not_eq_true, Bool.not_eq_false, decide_eq_true_eq, not_true_eq_false, not_false_eq_true, ite_true, ite_false, List.append_nil, and_assoc, Nat.mul_zero, Nat.zero_mul, Int.toNat_natCast, List.set_set, e, q]
      · repeat (refine And.intro (by first | omega | trivial | (intros; omega)) ?_)
        refine hK (i + 1) (by omega) (by omega) _ _ (Sub.pt ?_)
        have e : f (2 * i + 1) - (f (2 * i) + f (2 * i)) / 2 = hiF kind n f i := by simp [hiF, nxt, hk0, hr]
        simp -implicitDefEqProofs only [push_cast, false_implies, reduceCtorEq, Classical.not_not, Nat.reduceAdd, Nat.reduceSub, Nat.reduceMul, Nat.reduceLeDiff, Nat.reduceLT, Nat.reduceEqDiff, Nat.reduceBEq, Nat.reduceBNe, Int.reduceNeg, Int.reduceToNat, Bool.or_false, Bool.false_or, Bool.or_true, Bool.true_or, BEq.rfl, Bool.not_eq_true, Bool.not_eq_false, decide_eq_true_eq, not_true_eq_false, not_false_eq_true, ite_true, ite_false, List.append_nil, and_assoc, Nat.mul_zero, Nat.zero_mul, Int.toNat_natCast, List.set_set, e, q]
    · repeat (refine And.intro (by first | omega | trivial | (intros; omega)) ?_)
      refine hK (i + 1) (by omega) (by omega) _ _ (Sub.pt ?_)
      have e : f (2 * i + 1) - f (2 * i) = hiF kind n f i := by simp [hiF, hk.resolve_left hk0]
      simp -implicitDefEqProofs only [push_cast, false_implies, reduceCtorEq, Classical.not_not, Nat.reduceAdd, Nat.reduceSub, Nat.reduceMul, Nat.reduceLeDiff, Nat.reduceLT, Nat.reduceEqDiff, Nat.reduceBEq, Nat.reduceBNe, Int.reduceNeg, Int.reduceToNat, Bool.or_false, Bool.false_or, Bool.or_true, Bool.true_or, BEq.rfl, Bool.not_eq_true, Bool.not_eq_false, decide_eq_true_eq, not_true_eq_false, not_false_eq_true, ite_true, ite_false, List.append_nil, and_assoc, Nat.mul_zero, Nat.zero_mul, Int.toNat_natCast, e, q]
  · obtain rfl : i = m := by omega
    rw [prt_all]
    have hh : tabl i (hiF kind n f) = hiL kind n f := by unfold hiL; rw [hm]
    rw [hh]
    have hHB := hiL_bd (kind := kind) (n := n) hB
    have hHl : (hiL kind n f).length = i := by unfold hiL; rw [tabl_length, hm]
    have hAl : AllIn (-4503599627370496) 4503599627370496 (hiL kind n f) := fun q hq => by have := hHB q hq; omega
    have hLB := fun j => liftG_bd (kind := kind) (BdF.rd0 (B := 2147483648) (fun q hq => by have := hHB q hq; omega : AllIn (-2147483648) 2147483648 (hiL kind n f)) (by omega)) (by omega) i j
    intro X1
    repeat (refine And.intro (by first | omega | trivial | (intros; omega)) ?_)
    refine evS_loopU (A := Nat × Xf.Loc) kp38_2 (11 :: kl38_2) (fun y => [(10, .sl 17 y.2 1 0 y.1), (81, .int .i64 y.1)]) (fun y => [(17, .mine, y.2, .ints .i64 (tabl y.1 (loF kind n f)))]) (fun y => y.1 ≤ n - i) (fun y => n - i - y.1) (0, X1 1 11) (Nat.zero_le _) (Sub.of (mkG 20 [(0, 0), (10, 10), (17, 11)]) ?_) ?_
    · simp -implicitDefEqProofs only [push_cast, false_implies, reduceCtorEq, Classical.not_not, Nat.reduceAdd, Nat.reduceSub, Nat.reduceMul, Nat.reduceLeDiff, Nat.reduceLT, Nat.reduceEqDiff, Nat.reduceBEq, Nat.reduceBNe, Int.reduceNeg, Int.reduceToNat, Bool.or_false, Bool.false_or, Bool.or_true, Bool.true_or, BEq.rfl, Bool.not_eq_true, Bool.not_eq_false, decide_eq_true_eq, not_true_eq_false, not_false_eq_true, ite_true, ite_false, List.append_nil, and_assoc, Nat.mul_zero, Nat.zero_mul, tabl_zero]
    intro ⟨j, N⟩ (hj : j ≤ n - i) K hK
    simp -implicitDefEqProofs only [push_cast, false_implies, reduceCtorEq, Classical.not_not, Nat.reduceAdd, Nat.reduceSub, Nat.reduceMul, Nat.reduceLeDiff, Nat.reduceLT, Nat.reduceEqDiff, Nat.reduceBEq, Nat.reduceBNe, Int.reduceNeg, Int.reduceToNat, Bool.or_false, Bool.false_or, Bool.or_true, Bool.true_or, BEq.rfl, Bool.not_eq_true, Bool.not_eq_false, decide_eq_true_eq, not_true_eq_false, not_false_eq_true, ite_true, ite_false, List.append_nil, and_assoc, Nat.mul_zero, Nat.zero_mul, b38_2, r38_3, fs66]
    refine ⟨fun hl => ?_, fun hl => ?_⟩
    · have b0 := hB (2 * j)
      have b3 := hLB j
      simp only [hfj, tabl_length, hHl]
      intro X2
      repeat (refine And.intro (by first | omega | trivial | (intros; omega)) ?_)
      refine hK (j + 1, X2 12 17) (show j + 1 ≤ n - i by omega) (show n - i - (j + 1) < n - i - j by omega) _ _ (Sub.pt ?_)
      have q : tabl j (loF kind n f) ++ [f (2 * j) + liftG kind (fun j => rd (hiL kind n f) j) i j] = tabl (j + 1) (loF kind n f) := by
        rw [← tabl_snoc]; unfold loF; rw [hm]
      simp -implicitDefEqProofs only [push_cast, false_implies, reduceCtorEq, Classical.not_not, Nat.reduceAdd, Nat.reduceSub, Nat.reduceMul, Nat.reduceLeDiff, Nat.reduceLT, Nat.reduceEqDiff, Nat.reduceBEq, Nat.reduceBNe, Int.reduceNeg, Int.reduceToNat, Bool.or_false, Bool.false_or, Bool.or_true, Bool.true_or, BEq.rfl, Bool.not_eq_true, Bool.not_eq_false, decide_eq_true_eq, not_true_eq_false, not_false_eq_true, ite_true, ite_false, List.append_nil, and_assoc, Nat.mul_zero, Nat.zero_mul, q]
    · have hj2 : j = n - i := by omega
      have ee : ((n - i : Nat) : Int) = n - i := by omega
      simp only [tabl_length, hHl]
      intro X2
      repeat (refine And.intro (by first | omega | trivial | (intros; omega)) ?_)
      refine postF.mk' (fun _ => X2 2 18) [some 0, some 18] ?_
      have q : tabl j (loF kind n f) ++ hiL kind n f = lineL kind n (fun j => rd xs (lo + j)) := by
        rw [hf, hj2]; unfold lineL; rw [hm]
      simp -implicitDefEqProofs only [push_cast, false_implies, reduceCtorEq, Classical.not_not, Nat.reduceAdd, Nat.reduceSub, Nat.reduceMul, Nat.reduceLeDiff, Nat.reduceLT, Nat.reduceEqDiff, Nat.reduceBEq, Nat.reduceBNe, Int.reduceNeg, Int.reduceToNat, Bool.or_false, Bool.false_or, Bool.or_true, Bool.true_or, BEq.rfl, Bool.not_eq_true, Bool.not_eq_false, decide_eq_true_eq, not_true_eq_false, not_false_eq_true, ite_true, ite_false, List.append_nil, and_assoc, Nat.mul_zero, Nat.zero_mul, fs38, q]
      omega
def ent38 : Entry := spOf fs38 inv38
theorem e38 : EntryOk Try.prog 38 ent38 := entry_of ok38 inv38
@[push_cast] theorem ent38_app (us : List SV) (look : Look) (x : Nat → Xf.Loc) (k : Nat) : ent38 us look x k = spOf fs38 inv38 us look x k := rfl
def ir14 : IR :=
  .seq (.reg false [⟨some 4, none, ⟨[], []⟩, .mov (.k nilSV)⟩,
    ⟨some 5, none, ⟨[], []⟩, .mov (.k (.int .i64 0))⟩] [4, 5] []) (.seq (.seq (.reg false [⟨some 6, none, ⟨[], []⟩, .mov (.t 0)⟩,
    ⟨some 7, none, ⟨[], []⟩, .callp 36 [.t 6]⟩,
    ⟨some 8, none, ⟨[], []⟩, .not (.t 7)⟩,
    ⟨some 9, none, ⟨[], []⟩, .mov (.t 8)⟩,
    ⟨some 10, some (9, false), ⟨[], []⟩, .mov (.t 1)⟩,
    ⟨some 11, some (9, false), ⟨[], []⟩, .len (.t 10)⟩,
    ⟨some 12, some (9, false), ⟨[], []⟩, .bin 0 .gtr (.t 11) (.k (.int .i64 8192))⟩,
    ⟨some 13, none, ⟨[], []⟩, .pick (.t 9) (.k (.bool true)) (.t 12)⟩,
    ⟨some 14, none, ⟨[], []⟩, .mov (.t 13)⟩,
    ⟨some 15, some (14, false), ⟨[], []⟩, .mov (.t 1)⟩,
    ⟨some 16, some (14, false), ⟨[], []⟩, .call (some 4) 10 37 [.t 15, .k (.int .i64 16777216)]⟩,
    ⟨some 17, some (14, false), ⟨[], []⟩, .not (.t 16)⟩,
    ⟨some 18, none, ⟨[], []⟩, .pick (.t 14) (.k (.bool true)) (.t 17)⟩] [6, 7, 8, 9, 10, 11, 12, 13, 14, 15, 16, 17] []) (.cond (.t 18) (.seq (.reg false [⟨some 4, none, ⟨[], []⟩, .mov (.k nilSV)⟩,
    ⟨some 5, none, ⟨[], []⟩, .mov (.k (.int .i64 2))⟩] [0, 1, 18] []) (.ret)) (.skip))) (.seq (.reg false [⟨some 19, none, ⟨[], []⟩, .mov (.t 0)⟩,
    ⟨some 20, none, ⟨[], []⟩, .mov (.t 1)⟩,
    ⟨some 21, none, ⟨[], []⟩, .call (some 4) 14 38 [.t 19, .t 20]⟩,
    ⟨some 4, none, ⟨[], []⟩, .mov (.t 21)⟩,
    ⟨some 5, none, ⟨[], []⟩, .mov (.k (.int .i64 0))⟩] [0, 1, 18, 19, 20, 21] []) (.ret)))
set_option maxRecDepth 4000 in
theorem comp14 : (Try.f14.body.bind fun c => compC tab isP chkAll ir14 c) = some ir14 := by kernel_rfl
structure LnA where
  kind : Int
  L : Xf.Loc
  xs : List Int
def lnOk (kind : Int) (xs : List Int) : Prop := (kind = 0 ∨ kind = 1) ∧ xs.length ≤ 8192 ∧ AllIn (-16777216) 16777216 xs
instance (kind : Int) (xs : List Int) : Decidable (lnOk kind xs) := by unfold lnOk; infer_instance
def inv16 : List SV → Look → Option (LnA × List Nat)
  | [.int .i64 k, .sl c _ 1 0 _], look => match rowI (lkZ look (.ints .i64 []) c) with
    | some (L, .i64, xs) => some (⟨k, L, xs⟩, [c])
    | _ => none
  | _, _ => none
attribute [push_cast] inv16
def lnR (kind : Int) (xs : List Int) : List Int := if lnOk kind xs then lineL kind xs.length (fun j => rd xs j) else []
def fs14 : FS where
  A := LnA
  args := fun a => [.int .i64 a.kind, .sl 0 a.L 1 0 a.xs.length]
  mem := fun a => [some (.ro, a.L, .ints .i64 a.xs)]
  pre := fun a => a.xs.length ≤ 140737488355328
  res := fun a x => .tup [.sl 1 (lx (lnOk a.kind a.xs) x 0) 1 0 (lnR a.kind a.xs).length, .int .i64 (if lnOk a.kind a.xs then 0 else 2)]
  out := fun _ _ => []
  new := fun a x => [(lx (lnOk a.kind a.xs) x 0, .ints .i64 (lnR a.kind a.xs))]
theorem ok14 : FSOk Try.prog 14 fs14 := by
  refine ⟨⟨_, Try.func14, by kernel_rfl, by kernel_rfl⟩, fun a => ⟨by simp [fs14, push_cast, noMine, argOwn, Chunk.frArg], by simp [fs14, push_cast, outOk, Chunk.ext], fun x => .inl (by simp [fs14, push_cast, frNew, frOut, Chunk.fr])⟩, fun a hp => ?_⟩
  obtain ⟨kind, L, xs⟩ := a
  change xs.length ≤ 140737488355328 at hp
  change Tri Try.prog 14 [.int .i64 kind, .sl 0 L 1 0 xs.length] [some (.ro, L, .ints .i64 xs)] (postF fs14 ⟨kind, L, xs⟩)
  refine tri_evS (hyp (l := [(37, ent37), (38, ent38)]) (lp := [(36, kindF)]) ⟨e37, e38, trivial⟩ ⟨p36, trivial⟩) Try.func14 comp14 (rs := [.tmp 4, .tmp 5]) (by rfl) Try.ntmps14 18 ?_
  simp -implicitDefEqProofs only [push_cast, false_implies, reduceCtorEq, Classical.not_not, Nat.reduceAdd, Nat.reduceSub, Nat.reduceMul, Nat.reduceLeDiff, Nat.reduceLT, Nat.reduceEqDiff, Nat.reduceBEq, Nat.reduceBNe, Int.reduceNeg, Int.reduceToNat, Bool.or_false, Bool.false_or, Bool.or_true, Bool.true_or, BEq.rfl, Bool.not_eq_true, Bool.not_eq_false, decide_eq_true_eq, not_true_eq_false, not_false_eq_true, ite_true, ite_false, List.append_nil, and_assoc, Nat.mul_zero, Nat.zero_mul, ir14, fs37, fs38, hp]
  refine ⟨fun q => ⟨q, by omega, by omega⟩, fun hn => ?_, fun hy X => ?_⟩
  · have e : ¬ lnOk kind xs := fun H => by
      obtain ⟨q1, q2, q3⟩ := H
      simp only [q1, q3, not_true_eq_false, false_or, or_false] at hn
      omega
    refine postF.mk' (fun _ => default) [some 0, none] ?_
    simp -implicitDefEqProofs only [push_cast, false_implies, reduceCtorEq, Classical.not_not, Nat.reduceAdd, Nat.reduceSub, Nat.reduceMul, Nat.reduceLeDiff, Nat.reduceLT, Nat.reduceEqDiff, Nat.reduceBEq, Nat.reduceBNe, Int.reduceNeg, Int.reduceToNat, Bool.or_false, Bool.false_or, Bool.or_true, Bool.true_or, BEq.rfl, Bool.not_eq_true, Bool.not_eq_false, decide_eq_true_eq, not_true_eq_false, not_false_eq_true, ite_true, ite_false, List.append_nil, and_assoc, Nat.mul_zero, Nat.zero_mul, fs14, lnR, e, if_false, lx, List.length_nil]
  · have q3 : AllIn (-16777216) 16777216 xs := Classical.byContradiction fun q => hy (.inr q)
    have q1 : kind = 0 ∨ kind = 1 := Classical.byContradiction fun q => hy (.inl (.inl q))
    have q2 : xs.length ≤ 8192 := by
      have : ¬ 8192 < (xs.length : Int) := fun q => hy (.inl (.inr q))
      omega
    have e : lnOk kind xs := ⟨q1, q2, q3⟩
    have hA : AllIn (-1073741824) 1073741824 xs := fun n hn => by have := q3 n hn; omega
    simp only [Int.toNat_natCast]
    repeat (refine And.intro (by first | omega | trivial | (intros; omega)) ?_)
    refine postF.mk' (fun _ => X 2 14) [some 0, some 14] ?_
    simp -implicitDefEqProofs only [push_cast, false_implies, reduceCtorEq, Classical.not_not, Nat.reduceAdd, Nat.reduceSub, Nat.reduceMul, Nat.reduceLeDiff, Nat.reduceLT, Nat.reduceEqDiff, Nat.reduceBEq, Nat.reduceBNe, Int.reduceNeg, Int.reduceToNat, Bool.or_false, Bool.false_or, Bool.or_true, Bool.true_or, BEq.rfl, Bool.not_eq_true, Bool.not_eq_false, decide_eq_true_eq, not_true_eq_false, not_false_eq_true, ite_true, ite_false, List.append_nil, and_assoc, Nat.mul_zero, Nat.zero_mul, fs14, lnR, e, if_true, lx, lineL_length]
def ent14 : Entry := spOf fs14 inv16
theorem e14 : EntryOk Try.prog 14 ent14 := entry_of ok14 inv16
@[push_cast] theorem ent14_app (us : List SV) (look : Look) (x : Nat → Xf.Loc) (k : Nat) : ent14 us look x k = spOf fs14 inv16 us look x k := rfl
def ir13 : IR :=
  .seq (.reg false [⟨some 0, none, ⟨[], []⟩, .mov (.k (.bool false))⟩] [0] []) (.seq (.reg false [⟨some 6, none, ⟨[], []⟩, .bslice 10 [.k (.int .i64 3), .k (.int .i64 8), .k (.int .i64 5)]⟩,
    ⟨some 7, none, ⟨[], []⟩, .call (some 4) 11 14 [.k (.int .i64 0), .t 6]⟩,
    ⟨some 5, none, ⟨[], []⟩, .mov (.t 7)⟩,
    ⟨some 8, none, ⟨[], []⟩, .ext (.t 5) 0⟩,
    ⟨some 9, none, ⟨[], []⟩, .ext (.t 5) 1⟩,
    ⟨some 1, none, ⟨[], []⟩, .mov (.t 8)⟩,
    ⟨some 2, none, ⟨[], []⟩, .mov (.t 9)⟩] [5, 6, 7, 8, 9] []) (.seq (.reg false [⟨some 11, none, ⟨[], []⟩, .bslice 15 [.k (.int .i64 3), .k (.int .i64 8), .k (.int .i64 5)]⟩,
    ⟨some 12, none, ⟨[], []⟩, .call (some 4) 16 14 [.k (.int .i64 1), .t 11]⟩,
    ⟨some 10, none, ⟨[], []⟩, .mov (.t 12)⟩,
    ⟨some 13, none, ⟨[], []⟩, .ext (.t 10) 0⟩,
    ⟨some 14, none, ⟨[], []⟩, .ext (.t 10) 1⟩,
    ⟨some 3, none, ⟨[], []⟩, .mov (.t 13)⟩,
    ⟨some 4, none, ⟨[], []⟩, .mov (.t 14)⟩] [10, 11, 12, 13, 14] []) (.seq (.reg false [⟨some 15, none, ⟨[], []⟩, .mov (.t 2)⟩,
    ⟨some 16, none, ⟨[], []⟩, .bin 0 .eql (.t 15) (.k (.int .i64 0))⟩,
    ⟨some 17, none, ⟨[], []⟩, .mov (.t 16)⟩,
    ⟨some 18, some (17, true), ⟨[], []⟩, .mov (.t 4)⟩,
    ⟨some 19, some (17, true), ⟨[], []⟩, .bin 0 .eql (.t 18) (.k (.int .i64 0))⟩,
    ⟨some 20, none, ⟨[], []⟩, .pick (.t 17) (.t 19) (.k (.bool false))⟩,
    ⟨some 21, none, ⟨[], []⟩, .mov (.t 20)⟩,
    ⟨some 22, some (21, true), ⟨[], []⟩, .mov (.t 1)⟩,
    ⟨some 23, some (21, true), ⟨[], []⟩, .bslice 20 [.k (.int .i64 5), .k (.int .i64 7), .k (.int .i64 4)]⟩,
    ⟨some 24, some (21, true), ⟨[], []⟩, .call (some 4) 21 17 [.t 22, .t 23]⟩,
    ⟨some 25, none, ⟨[], []⟩, .pick (.t 21) (.t 24) (.k (.bool false))⟩,
    ⟨some 26, none, ⟨[], []⟩, .mov (.t 25)⟩,
    ⟨some 27, some (26, true), ⟨[], []⟩, .mov (.t 3)⟩,
    ⟨some 28, some (26, true), ⟨[], []⟩, .bslice 25 [.k (.int .i64 5), .k (.int .i64 5), .k (.int .i64 5)]⟩,
    ⟨some 29, some (26, true), ⟨[], []⟩, .call (some 4) 26 17 [.t 27, .t 28]⟩,
    ⟨some 30, none, ⟨[], []⟩, .pick (.t 26) (.t 29) (.k (.bool false))⟩,
    ⟨some 0, none, ⟨[], []⟩, .mov (.t 30)⟩] [1, 2, 3, 4, 15, 16, 17, 18, 19, 20, 21, 22, 23, 24, 25, 26, 27, 28, 29, 30] []) (.ret))))
set_option maxRecDepth 4000 in
theorem comp13 : (Try.f13.body.bind fun c => compC tab isP chkAll ir13 c) = some ir13 := by kernel_rfl
def fs13 : FS where
  A := Unit
  args := fun _ => []
  mem := fun _ => []
  pre := fun _ => True
  res := fun _ _ => .bool true
  out := fun _ _ => []
  new := fun _ _ => []
def inv13 : List SV → Look → Option (Unit × List Nat)
  | [], _ => some ((), [])
  | _, _ => none
attribute [push_cast] inv13
theorem ok13 : FSOk Try.prog 13 fs13 := by
  refine ⟨⟨_, Try.func13, by kernel_rfl, by kernel_rfl⟩, fun a => ⟨by simp [fs13, push_cast, noMine, argOwn, Chunk.frArg], by simp [fs13, push_cast, outOk, Chunk.ext], fun x => .inl (by simp [fs13, push_cast, frNew, frOut, Chunk.fr])⟩, fun a hp => ?_⟩
  change Tri Try.prog 13 [] [] (postF fs13 a)
  have o0 : lnOk 0 [3, 8, 5] := by decide
  have o1 : lnOk 1 [3, 8, 5] := by decide
  have r0 : lnR 0 [3, 8, 5] = [5, 7, 4] := by decide
  have r1 : lnR 1 [3, 8, 5] = [5, 5, 5] := by decide
  refine tri_evS (hyp (l := [(14, ent14), (17, ent17)]) (lp := []) ⟨e14, e17, trivial⟩ trivial) Try.func13 comp13 (rs := [.tmp 0]) (by rfl) Try.ntmps13 30 ?_
  simp -implicitDefEqProofs only [push_cast, false_implies, reduceCtorEq, Classical.not_not, Nat.reduceAdd, Nat.reduceSub, Nat.reduceMul, Nat.reduceLeDiff, Nat.reduceLT, Nat.reduceEqDiff, Nat.reduceBEq, Nat.reduceBNe, Int.reduceNeg, Int.reduceToNat, Bool.or_false, Bool.false_or, Bool.or_true, Bool.true_or, BEq.rfl, Bool.not_eq_true, Bool.not_eq_false, decide_eq_true_eq, not_true_eq_false, not_false_eq_true, ite_true, ite_false, List.append_nil, and_assoc, Nat.mul_zero, Nat.zero_mul, ir13, fs14, fs17, o0, o1, r0, r1, if_true, lx]
  exact fun X X1 X2 => postF.mk' (fun _ => default) [] (by simp -implicitDefEqProofs only [push_cast, false_implies, reduceCtorEq, Classical.not_not, Nat.reduceAdd, Nat.reduceSub, Nat.reduceMul, Nat.reduceLeDiff, Nat.reduceLT, Nat.reduceEqDiff, Nat.reduceBEq, Nat.reduceBNe, Int.reduceNeg, Int.reduceToNat, Bool.or_false, Bool.false_or, Bool.or_true, Bool.true_or, BEq.rfl, Bool.not_eq_true, Bool.not_eq_false, decide_eq_true_eq, not_true_eq_false, not_false_eq_true, ite_true, ite_false, List.append_nil, and_assoc, Nat.mul_zero, Nat.zero_mul, fs13])
def ent13 : Entry := spOf fs13 inv13
theorem e13 : EntryOk Try.prog 13 ent13 := entry_of ok13 inv13
@[push_cast] theorem ent13_app (us : List SV) (look : Look) (x : Nat → Xf.Loc) (k : Nat) : ent13 us look x k = spOf fs13 inv13 us look x k := rfl
structure QA where
  a : PlA
  q : Int
  M : Xf.Loc
structure Q1 where
  n : Int
  L : Xf.Loc
  q : Int
structure AlA where
  F : Xf.Loc
  LP : Xf.Loc
  w : Int
  kind : Int
  ws : List Int
  a : Int
  b : Int
  n : Nat
abbrev LT := Int → Nat → (Int → Int) → List Int
structure Trn (T : LT) : Prop where
  len : ∀ k n f, (T k n f).length = n
  bd : ∀ k n f B, BdF B f → 0 ≤ B → AllIn (-(3 * B + 1)) (3 * B + 1) (T k n f)
  congr : ∀ k (n : Nat) f g, (∀ j : Nat, j < n → f j = g j) → T k n f = T k n g
/-- Where a number stands: row and column. -/
theorem place {W k : Nat} : k = k / W * W + k % W := by
  have := Nat.div_add_mod k W
  rw [Nat.mul_comm] at this; exact this.symm
def hlf (w : Nat) : Nat → Nat
  | 0 => w
  | i + 1 => (hlf w i + 1) / 2
theorem hlf_le (w : Nat) : ∀ i, hlf w i ≤ w
  | 0 => Nat.le_refl _
  | i + 1 => by have := hlf_le w i; simp only [hlf]; omega
theorem hlf_mono (w : Nat) (i : Nat) : hlf w (i + 1) ≤ hlf w i := by simp only [hlf]; omega
structure RwA where
  F : Xf.Loc
  LP : Xf.Loc
  W : Nat
  kind : Int
  ws : List Int
  w : Nat
  h : Nat
def b47_1 : IR :=
  .seq (.reg false [⟨some 10, none, ⟨[], []⟩, .bin 0 .lss (.t 9) (.t 8)⟩] [] []) (.seq (.cond (.t 10) (.skip) (.exit 0)) (.seq (.block 1 (.seq (.reg false [⟨some 11, none, ⟨[], []⟩, .mov (.t 7)⟩,
    ⟨some 12, none, ⟨[], []⟩, .mov (.t 0)⟩,
    ⟨some 13, none, ⟨[], []⟩, .mov (.t 1)⟩,
    ⟨some 14, none, ⟨[], []⟩, .build [.int .i64 0, .int .i64 0] [(0, 1, .t 12), (1, 1, .t 13)]⟩,
    ⟨some 15, none, ⟨[], []⟩, .brecs 10 2 .i64 [.t 14]⟩,
    ⟨some 16, none, ⟨[], []⟩, .app 11 2 16 (.t 11) (.t 15)⟩,
    ⟨some 7, none, ⟨[], []⟩, .mov (.t 16)⟩] [10, 11, 12, 13, 14, 15, 16] []) (.reg false [⟨some 17, none, ⟨[], []⟩, .mov (.t 0)⟩,
    ⟨some 18, none, ⟨[], []⟩, .bin 0 .add (.t 17) (.k (.int .i64 1))⟩,
    ⟨some 19, none, ⟨[], []⟩, .bin 0 .quo (.t 18) (.k (.int .i64 2))⟩,
    ⟨some 20, none, ⟨[], []⟩, .mov (.t 1)⟩,
    ⟨some 21, none, ⟨[], []⟩, .bin 0 .add (.t 20) (.k (.int .i64 1))⟩,
    ⟨some 22, none, ⟨[], []⟩, .bin 0 .quo (.t 21) (.k (.int .i64 2))⟩,
    ⟨some 0, none, ⟨[], []⟩, .mov (.t 19)⟩,
    ⟨some 1, none, ⟨[], []⟩, .mov (.t 22)⟩] [17, 18, 19, 20, 21, 22] []))) (.reg false [⟨some 23, none, ⟨[], []⟩, .bin 0 .add (.t 9) (.k (.int .i64 1))⟩,
    ⟨some 9, none, ⟨[], []⟩, .mov (.t 23)⟩] [23] [])))
def r47_2 : IR :=
  .seq (.reg false [⟨some 24, none, ⟨[], []⟩, .mov (.t 7)⟩,
    ⟨some 6, none, ⟨[], []⟩, .mov (.t 24)⟩] [0, 1, 7, 8, 9, 24] []) (.ret)
def ir47 : IR :=
  .seq (.reg false [⟨some 6, none, ⟨[], []⟩, .mov (.k nilSV)⟩] [6] []) (.seq (.reg false [⟨some 7, none, ⟨[], []⟩, .mov (.k nilSV)⟩] [] []) (.seq (.seq (.reg false [⟨some 8, none, ⟨[], []⟩, .mov (.t 2)⟩,
    ⟨some 9, none, ⟨[], []⟩, .mov (.k (.int .i64 0))⟩] [2] []) (.block 0 (.loop b47_1))) (r47_2)))
def kp47_1 : List Nat := [0, 1, 7, 8, 9]
def kl47_1 : List Nat := [10, 11]
attribute [push_cast] kp47_1 kl47_1
set_option maxRecDepth 4000 in
theorem comp47 : (Try.f47.body.bind fun c => compC tab isP chkAll ir47 c) = some ir47 := by kernel_rfl
/-- Records by their places. -/
def tabR (n : Nat) (g : Nat → List RC) : List (List RC) := (List.range n).map g
theorem tabR_length (n : Nat) (g : Nat → List RC) : (tabR n g).length = n := by simp [tabR]
theorem tabR_zero (g : Nat → List RC) : tabR 0 g = [] := rfl
theorem tabR_snoc (n : Nat) (g : Nat → List RC) : tabR n g ++ [g n] = tabR (n + 1) g := by simp [tabR, List.range_succ]
theorem recAt_tabR {n i : Nat} (h : i < n) (g : Nat → List RC) (z : List RC) : recAt (i : Int) z (tabR n g) = g i := by
  simp [recAt, tabR, h]
/-- How many cells an element of a slice has that is nil at first. -/
def esz (s : Nat) : Nat → Nat
  | 0 => 1
  | _ + 1 => s
theorem esz_pos {s n : Nat} (h : 0 < n) : esz s n = s := by cases n; omega; rfl
def sdR (w h : Nat) (i : Nat) : List RC := [.int .i64 (hlf w i), .int .i64 (hlf h i)]
structure SdA where
  w : Nat
  h : Nat
  n : Nat
def fs47 : FS where
  A := SdA
  args := fun a => [.int .i64 a.w, .int .i64 a.h, .int .i64 a.n]
  mem := fun _ => []
  pre := fun a => a.w ≤ 200 ∧ a.h ≤ 200 ∧ a.n ≤ 7
  res := fun a x => .sl 0 (lx (0 < a.n) x 0) (esz 2 a.n) 0 a.n
  out := fun _ _ => []
  new := fun a x => [(lx (0 < a.n) x 0, .recs 2 true [] (tabR a.n (sdR a.w a.h)))]
def inv47 : List SV → Look → Option (SdA × List Nat)
  | [.int .i64 w, .int .i64 h, .int .i64 n], look => some (⟨w.toNat, h.toNat, n.toNat⟩, [])
  | _, _ => none
attribute [push_cast] inv47
theorem hlf_succ (w i : Nat) : ((hlf w i : Int) + 1) / 2 = (hlf w (i + 1) : Int) := by simp only [hlf]; omega
theorem ok47 : FSOk Try.prog 47 fs47 := by
  refine ⟨⟨_, Try.func47, by kernel_rfl, by kernel_rfl⟩, fun a => ⟨by simp [fs47, push_cast, noMine, argOwn, Chunk.frArg], by simp [fs47, push_cast, outOk, Chunk.ext], fun x => .inl (by simp [fs47, push_cast, frNew, frOut, Chunk.fr])⟩, fun a hp => ?_⟩
  obtain ⟨w, h, n⟩ := a
  obtain ⟨h1, h2, h3⟩ : w ≤ 200 ∧ h ≤ 200 ∧ n ≤ 7 := hp
  change Tri Try.prog 47 [.int .i64 w, .int .i64 h, .int .i64 n] [] (postF fs47 ⟨w, h, n⟩)
  refine tri_evS (hyp (l := []) (lp := []) trivial trivial) Try.func47 comp47 (rs := [.tmp 6]) (by rfl) Try.ntmps47 12 ?_
  simp -implicitDefEqProofs only [push_cast, false_implies, reduceCtorEq, Classical.not_not, Nat.reduceAdd, Nat.reduceSub, Nat.reduceMul, Nat.reduceLeDiff, Nat.reduceLT, Nat.reduceEqDiff, Nat.reduceBEq, Nat.reduceBNe, Int.reduceNeg, Int.reduceToNat, Bool.or_false, Bool.false_or, Bool.or_true, Bool.true_or, BEq.rfl, Bool.not_eq_true, Bool.not_eq_false, decide_eq_true_eq, not_true_eq_false, not_false_eq_true, ite_true, ite_false, List.append_nil, and_assoc, Nat.mul_zero, Nat.zero_mul, ir47]
  refine evS_loopU (A := Nat × Xf.Loc) kp47_1 kl47_1 (fun y => [(0, .int .i64 (hlf w y.1)), (1, .int .i64 (hlf h y.1)), (7, .sl 11 y.2 (esz 2 y.1) 0 y.1), (9, .int .i64 y.1)]) (fun y => [(11, .mine, y.2, .recs 2 true [] (tabR y.1 (sdR w h)))])
    (fun y => y.1 ≤ n ∧ (y.1 = 0 → y.2 = nilLoc)) (fun y => n - y.1) (0, nilLoc) ⟨Nat.zero_le _, fun _ => rfl⟩ (Sub.pt ?_) ?_
  · simp -implicitDefEqProofs only [push_cast, false_implies, reduceCtorEq, Classical.not_not, Nat.reduceAdd, Nat.reduceSub, Nat.reduceMul, Nat.reduceLeDiff, Nat.reduceLT, Nat.reduceEqDiff, Nat.reduceBEq, Nat.reduceBNe, Int.reduceNeg, Int.reduceToNat, Bool.or_false, Bool.false_or, Bool.or_true, Bool.true_or, BEq.rfl, Bool.not_eq_true, Bool.not_eq_false, decide_eq_true_eq, not_true_eq_false, not_false_eq_true, ite_true, ite_false, List.append_nil, and_assoc, Nat.mul_zero, Nat.zero_mul, hlf, esz, tabR_zero]
  intro ⟨i, N⟩ ⟨(hi : i ≤ n), (hN : i = 0 → N = nilLoc)⟩ K hK
  simp -implicitDefEqProofs only [push_cast, false_implies, reduceCtorEq, Classical.not_not, Nat.reduceAdd, Nat.reduceSub, Nat.reduceMul, Nat.reduceLeDiff, Nat.reduceLT, Nat.reduceEqDiff, Nat.reduceBEq, Nat.reduceBNe, Int.reduceNeg, Int.reduceToNat, Bool.or_false, Bool.false_or, Bool.or_true, Bool.true_or, BEq.rfl, Bool.not_eq_true, Bool.not_eq_false, decide_eq_true_eq, not_true_eq_false, not_false_eq_true, ite_true, ite_false, List.append_nil, and_assoc, Nat.mul_zero, Nat.zero_mul, b47_1, r47_2]
  have b1 := hlf_le w i
  have b2 := hlf_le h i
  have b3 := hlf_succ w i
  have b4 := hlf_succ h i
  refine ⟨fun hl => ?_, fun hl => ?_⟩
  · simp only [tabR_length]
    intro X
    repeat (refine And.intro (by first | omega | trivial | (intros; omega)) ?_)
    rw [b3, b4]
    refine hK (i + 1, X 5 11) ⟨show i + 1 ≤ n by omega, fun q => absurd q (Nat.succ_ne_zero i)⟩ (show n - (i + 1) < n - i by omega) _ _ (Sub.pt ?_)
    have q : tabR i (sdR w h) ++ [[.int .i64 (hlf w i), .int .i64 (hlf h i)]] = tabR (i + 1) (sdR w h) := tabR_snoc i (sdR w h)
    simp -implicitDefEqProofs only [push_cast, false_implies, reduceCtorEq, Classical.not_not, Nat.reduceAdd, Nat.reduceSub, Nat.reduceMul, Nat.reduceLeDiff, Nat.reduceLT, Nat.reduceEqDiff, Nat.reduceBEq, Nat.reduceBNe, Int.reduceNeg, Int.reduceToNat, Bool.or_false, Bool.false_or, Bool.or_true, Bool.true_or, BEq.rfl, Bool.not_eq_true, Bool.not_eq_false, decide_eq_true_eq, not_true_eq_false, not_false_eq_true, ite_true, ite_false, List.append_nil, and_assoc, Nat.mul_zero, Nat.zero_mul, esz, q]
  · obtain rfl : i = n := by omega
    refine postF.mk' (fun _ => N) [some 11] ?_
    by_cases h0 : 0 < i
    · simp -implicitDefEqProofs only [push_cast, false_implies, reduceCtorEq, Classical.not_not, Nat.reduceAdd, Nat.reduceSub, Nat.reduceMul, Nat.reduceLeDiff, Nat.reduceLT, Nat.reduceEqDiff, Nat.reduceBEq, Nat.reduceBNe, Int.reduceNeg, Int.reduceToNat, Bool.or_false, Bool.false_or, Bool.or_true, Bool.true_or, BEq.rfl, Bool.not_eq_true, Bool.not_eq_false, decide_eq_true_eq, not_true_eq_false, not_false_eq_true, ite_true, ite_false, List.append_nil, and_assoc, Nat.mul_zero, Nat.zero_mul, fs47, h0, if_true, lx]
    · obtain rfl : i = 0 := by omega
      obtain rfl := hN rfl
      simp -implicitDefEqProofs only [push_cast, false_implies, reduceCtorEq, Classical.not_not, Nat.reduceAdd, Nat.reduceSub, Nat.reduceMul, Nat.reduceLeDiff, Nat.reduceLT, Nat.reduceEqDiff, Nat.reduceBEq, Nat.reduceBNe, Int.reduceNeg, Int.reduceToNat, Bool.or_false, Bool.false_or, Bool.or_true, Bool.true_or, BEq.rfl, Bool.not_eq_true, Bool.not_eq_false, decide_eq_true_eq, not_true_eq_false, not_false_eq_true, ite_true, ite_false, List.append_nil, and_assoc, Nat.mul_zero, Nat.zero_mul, fs47, h0, if_false, lx]
def ent47 : Entry := spOf fs47 inv47
theorem e47 : EntryOk Try.prog 47 ent47 := entry_of ok47 inv47
@[push_cast] theorem ent47_app (us : List SV) (look : Look) (x : Nat → Xf.Loc) (k : Nat) : ent47 us look x k = spOf fs47 inv47 us look x k := rfl
structure AskA where
  a : PlA
  kind : Int
  n : Int
structure TurnA where
  a : LineA
  b : Bool
structure RrA where
  L : Xf.Loc
  W : Nat
  H : Int
  ws : List Int
  w : Nat
  h : Nat
  kind : Int
  b : Bool
def b50_1 : IR :=
  .seq (.seq (.reg false [⟨some 9, none, ⟨[], []⟩, .mov (.t 8)⟩,
    ⟨some 10, none, ⟨[], []⟩, .mov (.t 2)⟩,
    ⟨some 11, none, ⟨[], []⟩, .bin 0 .lss (.t 9) (.t 10)⟩] [9, 10] []) (.cond (.t 11) (.skip) (.exit 0))) (.seq (.block 1 (.reg false [⟨some 14, none, ⟨[], []⟩, .mov (.t 0)⟩,
    ⟨some 15, none, ⟨[], []⟩, .bin 0 .add (.t 14) (.k (.int .i64 1))⟩,
    ⟨some 16, none, ⟨[], []⟩, .bin 0 .quo (.t 15) (.k (.int .i64 2))⟩,
    ⟨some 17, none, ⟨[], []⟩, .mov (.t 1)⟩,
    ⟨some 18, none, ⟨[], []⟩, .bin 0 .add (.t 17) (.k (.int .i64 1))⟩,
    ⟨some 19, none, ⟨[], []⟩, .bin 0 .quo (.t 18) (.k (.int .i64 2))⟩,
    ⟨some 0, none, ⟨[], []⟩, .mov (.t 16)⟩,
    ⟨some 1, none, ⟨[], []⟩, .mov (.t 19)⟩] [11, 14, 15, 16, 17, 18, 19] [])) (.reg false [⟨some 12, none, ⟨[], []⟩, .mov (.t 8)⟩,
    ⟨some 13, none, ⟨[], []⟩, .bin 0 .add (.t 12) (.k (.int .i64 1))⟩,
    ⟨some 8, none, ⟨[], []⟩, .mov (.t 13)⟩] [12, 13] []))
def r50_2 : IR :=
  .seq (.reg false [⟨some 20, none, ⟨[], []⟩, .mov (.t 0)⟩,
    ⟨some 21, none, ⟨[], []⟩, .mov (.t 1)⟩,
    ⟨some 6, none, ⟨[], []⟩, .mov (.t 20)⟩,
    ⟨some 7, none, ⟨[], []⟩, .mov (.t 21)⟩] [0, 1, 2, 8, 20, 21] []) (.ret)
def ir50 : IR :=
  .seq (.reg false [⟨some 6, none, ⟨[], []⟩, .mov (.k (.int .i64 0))⟩,
    ⟨some 7, none, ⟨[], []⟩, .mov (.k (.int .i64 0))⟩] [6, 7] []) (.seq (.seq (.reg false [⟨some 8, none, ⟨[], []⟩, .mov (.k (.int .i64 0))⟩] [] []) (.block 0 (.loop b50_1))) (r50_2))
def kp50_1 : List Nat := [0, 1, 2, 8]
def kl50_1 : List Nat := []
attribute [push_cast] kp50_1 kl50_1
set_option maxRecDepth 4000 in
theorem comp50 : (Try.f50.body.bind fun c => compC tab isP chkAll ir50 c) = some ir50 := by kernel_rfl
def fs50 : FS where
  A := SdA
  args := fun a => [.int .i64 a.w, .int .i64 a.h, .int .i64 a.n]
  mem := fun _ => []
  pre := fun a => a.w ≤ 200 ∧ a.h ≤ 200 ∧ a.n ≤ 7
  res := fun a x => .tup [.int .i64 (hlf a.w a.n), .int .i64 (hlf a.h a.n)]
  out := fun _ _ => []
  new := fun _ _ => []
theorem ok50 : FSOk Try.prog 50 fs50 := by
  refine ⟨⟨_, Try.func50, by kernel_rfl, by kernel_rfl⟩, fun a => ⟨by simp [fs50, push_cast, noMine, argOwn, Chunk.frArg], by simp [fs50, push_cast, outOk, Chunk.ext], fun x => .inl (by simp [fs50, push_cast, frNew, frOut, Chunk.fr])⟩, fun a hp => ?_⟩
  obtain ⟨w, h, n⟩ := a
  obtain ⟨h1, h2, h3⟩ : w ≤ 200 ∧ h ≤ 200 ∧ n ≤ 7 := hp
  change Tri Try.prog 50 [.int .i64 w, .int .i64 h, .int .i64 n] [] (postF fs50 ⟨w, h, n⟩)
  refine tri_evS (hyp (l := []) (lp := []) trivial trivial) Try.func50 comp50 (rs := [.tmp 6, .tmp 7]) (by rfl) Try.ntmps50 10 ?_
  simp -implicitDefEqProofs only [push_cast, false_implies, reduceCtorEq, Classical.not_not, Nat.reduceAdd, Nat.reduceSub, Nat.reduceMul, Nat.reduceLeDiff, Nat.reduceLT, Nat.reduceEqDiff, Nat.reduceBEq, Nat.reduceBNe, Int.reduceNeg, Int.reduceToNat, Bool.or_false, Bool.false_or, Bool.or_true, Bool.true_or, BEq.rfl, Bool.not_eq_true, Bool.not_eq_false, decide_eq_true_eq, not_true_eq_false, not_false_eq_true, ite_true, ite_false, List.append_nil, and_assoc, Nat.mul_zero, Nat.zero_mul, ir50]
  refine evS_loopU (A := Nat) kp50_1 kl50_1 (fun i => [(0, .int .i64 (hlf w i)), (1, .int .i64 (hlf h i)), (8, .int .i64 i)]) (fun _ => []) (fun i => i ≤ n) (fun i => n - i) 0 (Nat.zero_le _) (Sub.pt ?_) ?_
  · simp -implicitDefEqProofs only [push_cast, false_implies, reduceCtorEq, Classical.not_not, Nat.reduceAdd, Nat.reduceSub, Nat.reduceMul, Nat.reduceLeDiff, Nat.reduceLT, Nat.reduceEqDiff, Nat.reduceBEq, Nat.reduceBNe, Int.reduceNeg, Int.reduceToNat, Bool.or_false, Bool.false_or, Bool.or_true, Bool.true_or, BEq.rfl, Bool.not_eq_true, Bool.not_eq_false, decide_eq_true_eq, not_true_eq_false, not_false_eq_true, ite_true, ite_false, List.append_nil, and_assoc, Nat.mul_zero, Nat.zero_mul, hlf]
  intro i (hi : i ≤ n) K hK
  simp -implicitDefEqProofs only [push_cast, false_implies, reduceCtorEq, Classical.not_not, Nat.reduceAdd, Nat.reduceSub, Nat.reduceMul, Nat.reduceLeDiff, Nat.reduceLT, Nat.reduceEqDiff, Nat.reduceBEq, Nat.reduceBNe, Int.reduceNeg, Int.reduceToNat, Bool.or_false, Bool.false_or, Bool.or_true, Bool.true_or, BEq.rfl, Bool.not_eq_true, Bool.not_eq_false, decide_eq_true_eq, not_true_eq_false, not_false_eq_true, ite_true, ite_false, List.append_nil, and_assoc, Nat.mul_zero, Nat.zero_mul, b50_1, r50_2]
  have b1 := hlf_le w i
  have b2 := hlf_le h i
  have b3 := hlf_succ w i
  have b4 := hlf_succ h i
  refine ⟨fun hl => ?_, fun hl => ?_⟩
  · repeat (refine And.intro (by first | omega | trivial | (intros; omega)) ?_)
    rw [b3, b4]
    refine hK (i + 1) (by omega) (by omega) _ _ (Sub.pt ?_)
    simp -implicitDefEqProofs only [push_cast, false_implies, reduceCtorEq, Classical.not_not, Nat.reduceAdd, Nat.reduceSub, Nat.reduceMul, Nat.reduceLeDiff, Nat.reduceLT, Nat.reduceEqDiff, Nat.reduceBEq, Nat.reduceBNe, Int.reduceNeg, Int.reduceToNat, Bool.or_false, Bool.false_or, Bool.or_true, Bool.true_or, BEq.rfl, Bool.not_eq_true, Bool.not_eq_false, decide_eq_true_eq, not_true_eq_false, not_false_eq_true, ite_true, ite_false, List.append_nil, and_assoc, Nat.mul_zero, Nat.zero_mul]
  · obtain rfl : i = n := by omega
    refine postF.mk' (fun _ => default) [] ?_
    simp -implicitDefEqProofs only [push_cast, false_implies, reduceCtorEq, Classical.not_not, Nat.reduceAdd, Nat.reduceSub, Nat.reduceMul, Nat.reduceLeDiff, Nat.reduceLT, Nat.reduceEqDiff, Nat.reduceBEq, Nat.reduceBNe, Int.reduceNeg, Int.reduceToNat, Bool.or_false, Bool.false_or, Bool.or_true, Bool.true_or, BEq.rfl, Bool.not_eq_true, Bool.not_eq_false, decide_eq_true_eq, not_true_eq_false, not_false_eq_true, ite_true, ite_false, List.append_nil, and_assoc, Nat.mul_zero, Nat.zero_mul, fs50]
def ent50 : Entry := spOf fs50 inv47
theorem e50 : EntryOk Try.prog 50 ent50 := entry_of ok50 inv47
@[push_cast] theorem ent50_app (us : List SV) (look : Look) (x : Nat → Xf.Loc) (k : Nat) : ent50 us look x k = spOf fs50 inv47 us look x k := rfl
def ir49 : IR :=
  .seq (.reg false [⟨some 1, none, ⟨[], []⟩, .box 10 (.t 0)⟩,
    ⟨some 2, none, ⟨[], []⟩, .mov (.k (.bool false))⟩] [0, 2] []) (.seq (.reg false [⟨some 3, none, ⟨[], []⟩, .fld (.t 1) 4⟩,
    ⟨some 4, none, ⟨[], []⟩, .ld false none 0 0 (.t 3)⟩,
    ⟨some 5, none, ⟨[], []⟩, .fld (.t 1) 5⟩,
    ⟨some 6, none, ⟨[], []⟩, .ld false none 0 0 (.t 5)⟩,
    ⟨some 7, none, ⟨[], []⟩, .bin 0 .mul (.t 4) (.t 6)⟩,
    ⟨some 8, none, ⟨[], []⟩, .bin 0 .eql (.t 7) (.k (.int .i64 0))⟩,
    ⟨some 2, none, ⟨[], []⟩, .mov (.t 8)⟩] [1, 3, 4, 5, 6, 7, 8] []) (.ret))
set_option maxRecDepth 4000 in
theorem comp49 : (Try.f49.body.bind fun c => compC tab isP chkAll ir49 c) = some ir49 := by kernel_rfl
def b67_1 : IR :=
  .seq (.reg false [⟨some 9, none, ⟨[], []⟩, .bin 0 .lss (.t 8) (.t 7)⟩] [] []) (.seq (.cond (.t 9) (.skip) (.exit 0)) (.seq (.block 1 (.seq (.reg false [⟨some 10, none, ⟨[], []⟩, .mov (.t 8)⟩,
    ⟨some 5, none, ⟨[], []⟩, .mov (.t 10)⟩] [9, 10] []) (.seq (.reg false [⟨some 11, none, ⟨[], []⟩, .mov (.t 1)⟩,
    ⟨some 12, none, ⟨[], []⟩, .mov (.t 0)⟩,
    ⟨some 13, none, ⟨[], []⟩, .mov (.t 5)⟩,
    ⟨some 14, none, ⟨[], []⟩, .idxS (.t 12) (.t 13) 6⟩,
    ⟨some 15, none, ⟨[], []⟩, .ld true (some 6) 0 0 (.t 14)⟩,
    ⟨some 16, none, ⟨[], []⟩, .callv (some 4) 10 (.t 11) [.t 15]⟩] [11, 12, 13, 14, 15] []) (.cond (.t 16) (.seq (.reg false [⟨some 17, none, ⟨[], []⟩, .mov (.t 5)⟩,
    ⟨some 4, none, ⟨[], []⟩, .mov (.t 17)⟩] [0, 1, 5, 7, 8, 16, 17] []) (.ret)) (.skip))))) (.reg false [⟨some 18, none, ⟨[], []⟩, .bin 0 .add (.t 8) (.k (.int .i64 1))⟩,
    ⟨some 8, none, ⟨[], []⟩, .mov (.t 18)⟩] [4, 5, 16, 18] [])))
def r67_2 : IR :=
  .seq (.reg false [⟨some 4, none, ⟨[], []⟩, .mov (.k (.int .i64 (-1)))⟩] [0, 1, 7, 8] []) (.ret)
def ir67 : IR :=
  .seq (.reg false [⟨some 4, none, ⟨[], []⟩, .mov (.k (.int .i64 0))⟩] [4] []) (.seq (.seq (.reg false [⟨some 6, none, ⟨[], []⟩, .mov (.t 0)⟩,
    ⟨some 7, none, ⟨[], []⟩, .len (.t 6)⟩,
    ⟨some 8, none, ⟨[], []⟩, .mov (.k (.int .i64 0))⟩] [6] []) (.block 0 (.loop b67_1))) (r67_2))
def kp67_1 : List Nat := [0, 1, 7, 8]
def kl67_1 : List Nat := [10, 11, 12, 13]
attribute [push_cast] kp67_1 kl67_1
set_option maxRecDepth 4000 in
theorem comp67 : (Try.f67.body.bind fun c => compC tab isP chkAll ir67 c) = some ir67 := by kernel_rfl
def b48_1 : IR :=
  .seq (.seq (.reg false [⟨some 16, none, ⟨[], []⟩, .mov (.t 6)⟩,
    ⟨some 17, none, ⟨[], []⟩, .mov (.t 0)⟩,
    ⟨some 18, none, ⟨[], []⟩, .len (.t 17)⟩,
    ⟨some 19, none, ⟨[], []⟩, .bin 0 .lss (.t 16) (.t 18)⟩] [16, 17, 18] []) (.cond (.t 19) (.skip) (.exit 0))) (.seq (.block 1 (.seq (.reg false [⟨some 22, none, ⟨[], []⟩, .mov (.t 0)⟩,
    ⟨some 23, none, ⟨[], []⟩, .mov (.t 6)⟩,
    ⟨some 24, none, ⟨[], []⟩, .idxS (.t 22) (.t 23) 6⟩,
    ⟨some 25, none, ⟨[], []⟩, .ld true (some 6) 0 0 (.t 24)⟩,
    ⟨some 7, none, ⟨[], []⟩, .alloc 14 [.int .i64 0, .int .i64 0, .int .i64 0, .int .i64 0, .int .i64 0, .int .i64 0]⟩,
    ⟨none, none, ⟨[], []⟩, .sto false 6 .i64 (.t 7) (.t 25)⟩] [19, 22, 23, 24, 25] []) (.seq (.reg false [⟨some 26, none, ⟨[], []⟩, .mov (.t 1)⟩,
    ⟨some 27, none, ⟨[], []⟩, .ld false (some 6) 0 0 (.t 7)⟩,
    ⟨some 28, none, ⟨[], []⟩, .callv (some 4) 15 (.t 26) [.t 27]⟩,
    ⟨some 29, none, ⟨[], []⟩, .not (.t 28)⟩] [26, 27, 28] []) (.cond (.t 29) (.seq (.reg false [⟨some 30, none, ⟨[], []⟩, .mov (.t 0)⟩,
    ⟨some 31, none, ⟨[], []⟩, .mov (.t 5)⟩,
    ⟨some 32, none, ⟨[], []⟩, .ld false (some 6) 0 0 (.t 7)⟩,
    ⟨some 33, none, ⟨[], []⟩, .idxS (.t 30) (.t 31) 6⟩,
    ⟨none, none, ⟨[], []⟩, .sto true 6 .i64 (.t 33) (.t 32)⟩] [7, 29, 30, 31, 32, 33] []) (.reg false [⟨some 34, none, ⟨[], []⟩, .mov (.t 5)⟩,
    ⟨some 35, none, ⟨[], []⟩, .bin 0 .add (.t 34) (.k (.int .i64 1))⟩,
    ⟨some 5, none, ⟨[], []⟩, .mov (.t 35)⟩] [34, 35] [])) (.skip))))) (.reg false [⟨some 20, none, ⟨[], []⟩, .mov (.t 6)⟩,
    ⟨some 21, none, ⟨[], []⟩, .bin 0 .add (.t 20) (.k (.int .i64 1))⟩,
    ⟨some 6, none, ⟨[], []⟩, .mov (.t 21)⟩] [7, 20, 21, 29] []))
def r48_2 : IR :=
  .seq (.reg false [⟨some 36, none, ⟨[], []⟩, .mov (.t 0)⟩,
    ⟨some 37, none, ⟨[], []⟩, .mov (.t 5)⟩,
    ⟨some 38, none, ⟨[], []⟩, .slc (.t 36) 6 (some (.t 37)) none⟩,
    ⟨none, none, ⟨[], []⟩, .clear [.int .i64 0, .int .i64 0, .int .i64 0, .int .i64 0, .int .i64 0, .int .i64 0] (.t 38)⟩] [1, 6, 36, 37, 38] []) (.seq (.reg false [⟨some 39, none, ⟨[], []⟩, .mov (.t 0)⟩,
    ⟨some 40, none, ⟨[], []⟩, .mov (.t 5)⟩,
    ⟨some 41, none, ⟨[], []⟩, .slc (.t 39) 6 none (some (.t 40))⟩,
    ⟨some 4, none, ⟨[], []⟩, .mov (.t 41)⟩] [0, 5, 39, 40, 41] []) (.ret))
def ir48 : IR :=
  .seq (.reg false [⟨some 4, none, ⟨[], []⟩, .mov (.k nilSV)⟩] [4] []) (.seq (.reg false [⟨some 8, none, ⟨[], []⟩, .mov (.t 0)⟩,
    ⟨some 9, none, ⟨[], []⟩, .mov (.t 1)⟩,
    ⟨some 10, none, ⟨[], []⟩, .call (some 4) 10 67 [.t 8, .t 9]⟩,
    ⟨some 5, none, ⟨[], []⟩, .mov (.t 10)⟩] [8, 9, 10] []) (.seq (.seq (.reg false [⟨some 11, none, ⟨[], []⟩, .mov (.t 5)⟩,
    ⟨some 12, none, ⟨[], []⟩, .bin 0 .eql (.t 11) (.k (.int .i64 (-1)))⟩] [11] []) (.cond (.t 12) (.seq (.reg false [⟨some 13, none, ⟨[], []⟩, .mov (.t 0)⟩,
    ⟨some 4, none, ⟨[], []⟩, .mov (.t 13)⟩] [0, 1, 5, 12, 13] []) (.ret)) (.skip))) (.seq (.seq (.reg false [⟨some 14, none, ⟨[], []⟩, .mov (.t 5)⟩,
    ⟨some 15, none, ⟨[], []⟩, .bin 0 .add (.t 14) (.k (.int .i64 1))⟩,
    ⟨some 6, none, ⟨[], []⟩, .mov (.t 15)⟩] [4, 12, 14, 15] []) (.block 0 (.loop b48_1))) (r48_2))))
def kp48_1 : List Nat := [0, 1, 5, 6]
def kl48_1 : List Nat := [14, 15, 16, 17, 18]
attribute [push_cast] kp48_1 kl48_1
set_option maxRecDepth 4000 in
theorem comp48 : (Try.f48.body.bind fun c => compC tab isP chkAll ir48 c) = some ir48 := by kernel_rfl
structure Bd where
  lv : Int
  kd : Int
  x : Int
  y : Int
  w : Int
  h : Int
  deriving Inhabited, DecidableEq
def Bd.rc (x : Bd) : List RC := [.int .i64 x.lv, .int .i64 x.kd, .int .i64 x.x, .int .i64 x.y, .int .i64 x.w, .int .i64 x.h]
def Bd.sv (x : Bd) : SV := .agg [.int .i64 x.lv, .int .i64 x.kd, .int .i64 x.x, .int .i64 x.y, .int .i64 x.w, .int .i64 x.h]
attribute [push_cast] Bd.sv
def rdBd (l : List Bd) (i : Int) : Bd := l.getD i.toNat default
theorem recAt_Bd {l : List Bd} {i : Int} (h0 : 0 ≤ i) (h1 : i < l.length) (z : List RC) (e : List (List RC)) : recAt i z (l.map Bd.rc ++ e) = (rdBd l i).rc := by
  have h : i.toNat < l.length := by omega
  unfold recAt rdBd
  simp [List.getD_eq_getElem?_getD, List.getElem?_append_left, h]
theorem recAt_Bd' {l : List Bd} {i : Int} (h0 : 0 ≤ i) (h1 : i < l.length) (z : List RC) : recAt i z (l.map Bd.rc) = (rdBd l i).rc := by
  have := recAt_Bd h0 h1 z []
  rwa [List.append_nil] at this
theorem rdBd_nat {l : List Bd} {i : Nat} (h : i < l.length) : rdBd l (i : Int) = l[i] := by simp [rdBd, h]
theorem rdBd_mem {l : List Bd} {i : Nat} (h : i < l.length) : rdBd l (i : Int) ∈ l := by rw [rdBd_nat h]; exact List.getElem_mem h
theorem Bd.noRow (l : List Bd) (k n : Nat) (fr : Bool) (y : Addr) : ¬ rows (.recs n fr [] (l.map Bd.rc ++ List.replicate k [.int .i64 0, .int .i64 0, .int .i64 0, .int .i64 0, .int .i64 0, .int .i64 0])) y := by
  rintro ⟨L, kk, xs, ⟨r, hr, hin⟩, _⟩
  rcases List.mem_append.1 hr with h | h
  · obtain ⟨x, _, rfl⟩ := List.mem_map.1 h
    simp [Bd.rc] at hin
  · obtain ⟨_, rfl⟩ := List.mem_replicate.1 h
    simp at hin
def Bd.ok (x : Bd) : Prop := 0 ≤ x.w ∧ x.w ≤ 200 ∧ 0 ≤ x.h ∧ x.h ≤ 200
def Bd.gone (x : Bd) : Bool := decide (x.w * x.h = 0)
structure Bd1 where
  x : Bd
def fs49 : FS where
  A := Bd1
  args := fun a => [a.x.sv]
  mem := fun _ => []
  pre := fun a => a.x.ok
  res := fun a _ => .bool a.x.gone
  out := fun _ _ => []
  new := fun _ _ => []
def inv49 : List SV → Look → Option (Bd1 × List Nat)
  | [.agg [.int .i64 lv, .int .i64 kd, .int .i64 x, .int .i64 y, .int .i64 w, .int .i64 h]], look => some (⟨⟨lv, kd, x, y, w, h⟩⟩, [])
  | _, _ => none
attribute [push_cast] inv49
theorem ok49 : FSOk Try.prog 49 fs49 := by
  refine ⟨⟨_, Try.func49, by kernel_rfl, by kernel_rfl⟩, fun a => ⟨by simp [fs49, push_cast, noMine, argOwn, Chunk.frArg], by simp [fs49, push_cast, outOk, Chunk.ext], fun x => .inl (by simp [fs49, push_cast, frNew, frOut, Chunk.fr])⟩, fun a hp => ?_⟩
  obtain ⟨⟨lv, kd, x, y, w, h⟩⟩ := a
  obtain ⟨h1, h2, h3, h4⟩ : 0 ≤ w ∧ w ≤ 200 ∧ 0 ≤ h ∧ h ≤ 200 := hp
  change Tri Try.prog 49 [(⟨lv, kd, x, y, w, h⟩ : Bd).sv] [] (postF fs49 ⟨⟨lv, kd, x, y, w, h⟩⟩)
  have hm := mul_bd h1 h2 h3 h4
  refine tri_evS (hyp (l := []) (lp := []) trivial trivial) Try.func49 comp49 (rs := [.tmp 2]) (by rfl) Try.ntmps49 11 ?_
  simp -implicitDefEqProofs only [push_cast, false_implies, reduceCtorEq, Classical.not_not, Nat.reduceAdd, Nat.reduceSub, Nat.reduceMul, Nat.reduceLeDiff, Nat.reduceLT, Nat.reduceEqDiff, Nat.reduceBEq, Nat.reduceBNe, Int.reduceNeg, Int.reduceToNat, Bool.or_false, Bool.false_or, Bool.or_true, Bool.true_or, BEq.rfl, Bool.not_eq_true, Bool.not_eq_false, decide_eq_true_eq, not_true_eq_false, not_false_eq_true, ite_true, ite_false, List.append_nil, and_assoc, Nat.mul_zero, Nat.zero_mul, ir49]
  intro X
  repeat (refine And.intro (by first | omega | trivial | (intros; omega)) ?_)
  refine postF.mk' (fun _ => default) [] ?_
  simp -implicitDefEqProofs only [push_cast, false_implies, reduceCtorEq, Classical.not_not, Nat.reduceAdd, Nat.reduceSub, Nat.reduceMul, Nat.reduceLeDiff, Nat.reduceLT, Nat.reduceEqDiff, Nat.reduceBEq, Nat.reduceBNe, Int.reduceNeg, Int.reduceToNat, Bool.or_false, Bool.false_or, Bool.or_true, Bool.true_or, BEq.rfl, Bool.not_eq_true, Bool.not_eq_false, decide_eq_true_eq, not_true_eq_false, not_false_eq_true, ite_true, ite_false, List.append_nil, and_assoc, Nat.mul_zero, Nat.zero_mul, fs49, Bd.gone]
def ent49 : Entry := spOf fs49 inv49
theorem e49 : EntryOk Try.prog 49 ent49 := entry_of ok49 inv49
@[push_cast] theorem ent49_app (us : List SV) (look : Look) (x : Nat → Xf.Loc) (k : Nat) : ent49 us look x k = spOf fs49 inv49 us look x k := rfl
structure Bds where
  L : Xf.Loc
  l : List Bd
def fs67 : FS where
  A := Bds
  args := fun a => [.sl 0 a.L 6 0 a.l.length, .fn 49 []]
  mem := fun a => [some (.ro, a.L, .recs 6 false [] (a.l.map Bd.rc))]
  pre := fun a => a.l.length ≤ 1000000 ∧ ∀ x ∈ a.l, x.ok
  res := fun a _ => .int .i64 (if a.l.findIdx Bd.gone < a.l.length then (a.l.findIdx Bd.gone : Nat) else -1)
  out := fun _ _ => []
  new := fun _ _ => []
def getBd : List (List RC) → Option (List Bd)
  | [] => some []
  | [.int .i64 lv, .int .i64 kd, .int .i64 x, .int .i64 y, .int .i64 w, .int .i64 h] :: l => match getBd l with | some r => some (⟨lv, kd, x, y, w, h⟩ :: r) | none => none
  | _ => none
theorem getBd_map : ∀ l : List Bd, getBd (l.map Bd.rc) = some l
  | [] => rfl
  | x :: l => by simp only [List.map_cons, Bd.rc, getBd, getBd_map l]
def inv67 : List SV → Look → Option (Bds × List Nat)
  | [.sl c _ 6 0 _, .fn 49 []], look => match rowR (look c) with
    | some (L, 6, _, r) => match getBd r with | some l => some (⟨L, l⟩, [c]) | none => none
    | _ => none
  | _, _ => none
attribute [push_cast] inv67 getBd_map
theorem ok67 : FSOk Try.prog 67 fs67 := by
  refine ⟨⟨_, Try.func67, by kernel_rfl, by kernel_rfl⟩, fun a => ⟨by simp [fs67, push_cast, noMine, argOwn, Chunk.frArg], by simp [fs67, push_cast, outOk, Chunk.ext], fun x => .inl (by simp [fs67, push_cast, frNew, frOut, Chunk.fr])⟩, fun a hp => ?_⟩
  obtain ⟨L, l⟩ := a
  obtain ⟨hl, hok⟩ : l.length ≤ 1000000 ∧ ∀ x ∈ l, x.ok := hp
  change Tri Try.prog 67 [.sl 0 L 6 0 l.length, .fn 49 []] [some (.ro, L, .recs 6 false [] (l.map Bd.rc))] (postF fs67 ⟨L, l⟩)
  refine tri_evS (hyp (l := [(49, ent49)]) (lp := []) ⟨e49, trivial⟩ trivial) Try.func67 comp67 (rs := [.tmp 4]) (by rfl) Try.ntmps67 14 ?_
  simp -implicitDefEqProofs only [push_cast, false_implies, reduceCtorEq, Classical.not_not, Nat.reduceAdd, Nat.reduceSub, Nat.reduceMul, Nat.reduceLeDiff, Nat.reduceLT, Nat.reduceEqDiff, Nat.reduceBEq, Nat.reduceBNe, Int.reduceNeg, Int.reduceToNat, Bool.or_false, Bool.false_or, Bool.or_true, Bool.true_or, BEq.rfl, Bool.not_eq_true, Bool.not_eq_false, decide_eq_true_eq, not_true_eq_false, not_false_eq_true, ite_true, ite_false, List.append_nil, and_assoc, Nat.mul_zero, Nat.zero_mul, ir67]
  refine evS_loopU (A := Nat) kp67_1 kl67_1 (fun i => [(8, .int .i64 i)]) (fun _ => []) (fun i => i ≤ l.length ∧ ∀ j : Nat, j < i → (rdBd l j).gone = false) (fun i => l.length - i) 0 ⟨Nat.zero_le _, fun j hj => absurd hj (Nat.not_lt_zero j)⟩ (Sub.pt ?_) ?_
  · simp -implicitDefEqProofs only [push_cast, false_implies, reduceCtorEq, Classical.not_not, Nat.reduceAdd, Nat.reduceSub, Nat.reduceMul, Nat.reduceLeDiff, Nat.reduceLT, Nat.reduceEqDiff, Nat.reduceBEq, Nat.reduceBNe, Int.reduceNeg, Int.reduceToNat, Bool.or_false, Bool.false_or, Bool.or_true, Bool.true_or, BEq.rfl, Bool.not_eq_true, Bool.not_eq_false, decide_eq_true_eq, not_true_eq_false, not_false_eq_true, ite_true, ite_false, List.append_nil, and_assoc, Nat.mul_zero, Nat.zero_mul]
  intro i ⟨hi, hj⟩ K hK
  by_cases hi' : i < l.length
  · have r1 := recAt_Bd' (l := l) (i := (i : Int)) (by omega) (by omega) []
    have o1 := hok _ (rdBd_mem hi')
    have hlm : (l.map Bd.rc).length = l.length := by rw [List.length_map]
    obtain ⟨x, hx⟩ : ∃ x, rdBd l (i : Int) = x := ⟨_, rfl⟩
    have hx' : l[i] = x := by rw [← rdBd_nat hi', hx]
    rw [hx] at r1 o1
    obtain ⟨lv, kd, x, y, w, h⟩ := x
    obtain ⟨g, hg⟩ : ∃ g, (⟨lv, kd, x, y, w, h⟩ : Bd).gone = g := ⟨_, rfl⟩
    simp -implicitDefEqProofs only [push_cast, false_implies, reduceCtorEq, Classical.not_not, Nat.reduceAdd, Nat.reduceSub, Nat.reduceMul, Nat.reduceLeDiff, Nat.reduceLT, Nat.reduceEqDiff, Nat.reduceBEq, Nat.reduceBNe, Int.reduceNeg, Int.reduceToNat, Bool.or_false, Bool.false_or, Bool.or_true, Bool.true_or, BEq.rfl, Bool.not_eq_true, Bool.not_eq_false, decide_eq_true_eq, not_true_eq_false, not_false_eq_true, ite_true, ite_false, List.append_nil, and_assoc, Nat.mul_zero, Nat.zero_mul, b67_1, r67_2, r1, Bd.rc, hlm, fs49, hg]
    refine ⟨fun _ => ?_, fun hl => by omega⟩
    repeat (refine And.intro (by first | omega | trivial | (intros; omega)) ?_)
    refine ⟨fun hb => ?_, fun hb => ⟨by omega, by omega, hK (i + 1) ⟨by omega, fun j h => ?_⟩ (by omega) _ _ (Sub.pt ?_)⟩⟩
    · have e : l.findIdx Bd.gone = i := by
        rw [List.findIdx_eq hi']
        refine ⟨by rw [hx', hg]; exact hb, fun j h => ?_⟩
        have := hj j h
        rwa [rdBd_nat (by omega)] at this
      refine postF.mk' (fun _ => default) [some 0] ?_
      simp -implicitDefEqProofs only [push_cast, false_implies, reduceCtorEq, Classical.not_not, Nat.reduceAdd, Nat.reduceSub, Nat.reduceMul, Nat.reduceLeDiff, Nat.reduceLT, Nat.reduceEqDiff, Nat.reduceBEq, Nat.reduceBNe, Int.reduceNeg, Int.reduceToNat, Bool.or_false, Bool.false_or, Bool.or_true, Bool.true_or, BEq.rfl, Bool.not_eq_true, Bool.not_eq_false, decide_eq_true_eq, not_true_eq_false, not_false_eq_true, ite_true, ite_false, List.append_nil, and_assoc, Nat.mul_zero, Nat.zero_mul, fs67, e, hi', if_true]
    · by_cases e : j = i
      · subst e; rw [hx, hg]; exact hb
      · exact hj j (by omega)
    · simp -implicitDefEqProofs only [push_cast, false_implies, reduceCtorEq, Classical.not_not, Nat.reduceAdd, Nat.reduceSub, Nat.reduceMul, Nat.reduceLeDiff, Nat.reduceLT, Nat.reduceEqDiff, Nat.reduceBEq, Nat.reduceBNe, Int.reduceNeg, Int.reduceToNat, Bool.or_false, Bool.false_or, Bool.or_true, Bool.true_or, BEq.rfl, Bool.not_eq_true, Bool.not_eq_false, decide_eq_true_eq, not_true_eq_false, not_false_eq_true, ite_true, ite_false, List.append_nil, and_assoc, Nat.mul_zero, Nat.zero_mul]
  · obtain rfl : i = l.length := by omega
    clear hK
    have e : ¬ l.findIdx Bd.gone < l.length := fun h => by
      have h1 := List.findIdx_getElem (w := h)
      have h2 := hj _ h
      rw [rdBd_nat h, h1] at h2
      cases h2
    simp -implicitDefEqProofs only [push_cast, false_implies, reduceCtorEq, Classical.not_not, Nat.reduceAdd, Nat.reduceSub, Nat.reduceMul, Nat.reduceLeDiff, Nat.reduceLT, Nat.reduceEqDiff, Nat.reduceBEq, Nat.reduceBNe, Int.reduceNeg, Int.reduceToNat, Bool.or_false, Bool.false_or, Bool.or_true, Bool.true_or, BEq.rfl, Bool.not_eq_true, Bool.not_eq_false, decide_eq_true_eq, not_true_eq_false, not_false_eq_true, ite_true, ite_false, List.append_nil, and_assoc, Nat.mul_zero, Nat.zero_mul, b67_1, r67_2, Int.lt_irrefl, true_implies, true_and]
    refine postF.mk' (fun _ => default) [some 0] ?_
    simp -implicitDefEqProofs only [push_cast, false_implies, reduceCtorEq, Classical.not_not, Nat.reduceAdd, Nat.reduceSub, Nat.reduceMul, Nat.reduceLeDiff, Nat.reduceLT, Nat.reduceEqDiff, Nat.reduceBEq, Nat.reduceBNe, Int.reduceNeg, Int.reduceToNat, Bool.or_false, Bool.false_or, Bool.or_true, Bool.true_or, BEq.rfl, Bool.not_eq_true, Bool.not_eq_false, decide_eq_true_eq, not_true_eq_false, not_false_eq_true, ite_true, ite_false, List.append_nil, and_assoc, Nat.mul_zero, Nat.zero_mul, fs67, e, if_false]
def ent67 : Entry := spOf fs67 inv67
theorem e67 : EntryOk Try.prog 67 ent67 := entry_of ok67 inv67
@[push_cast] theorem ent67_app (us : List SV) (look : Look) (x : Nat → Xf.Loc) (k : Nat) : ent67 us look x k = spOf fs67 inv67 us look x k := rfl
def keptBd (l : List Bd) : List Bd := l.filter fun x => !x.gone
theorem keptBd_le (l : List Bd) : (keptBd l).length ≤ l.length := List.length_filter_le _ _
def fs48 : FS where
  A := Bds
  args := fun a => [.sl 0 a.L 6 0 a.l.length, .fn 49 []]
  mem := fun a => [some (.lent, a.L, .recs 6 false [] (a.l.map Bd.rc))]
  pre := fun a => a.l.length ≤ 1000000 ∧ ∀ x ∈ a.l, x.ok
  res := fun a _ => .sl 0 a.L 6 0 (keptBd a.l).length
  out := fun a _ => [some (some (.recs 6 false [] ((keptBd a.l).map Bd.rc ++ List.replicate (a.l.length - (keptBd a.l).length) [.int .i64 0, .int .i64 0, .int .i64 0, .int .i64 0, .int .i64 0, .int .i64 0])))]
  new := fun _ _ => []
theorem del_step {l m : List Bd} {i j : Nat} (hij : i < j) (hj : j < l.length) (hm : m.length = l.length) (h1 : m.take i = keptBd (l.take j)) (h2 : m.drop j = l.drop j) :
    rdBd m j = rdBd l j ∧ ((rdBd l j).gone = true → m.take i = keptBd (l.take (j + 1))) ∧ ((rdBd l j).gone = false → (m.set i (rdBd l j)).take (i + 1) = keptBd (l.take (j + 1)) ∧ (m.set i (rdBd l j)).drop (j + 1) = l.drop (j + 1)) ∧ m.drop (j + 1) = l.drop (j + 1) := by
  have e0 : m[j]'(by omega) = l[j] := by
    have := congrArg (fun q => q[0]?) h2
    simp only [List.getElem?_drop, Nat.add_zero] at this
    rw [List.getElem?_eq_getElem (by omega), List.getElem?_eq_getElem hj] at this
    exact Option.some.inj this
  have e1 : l.take (j + 1) = l.take j ++ [l[j]] := List.take_succ_eq_append_getElem hj
  have e2 : m.drop (j + 1) = l.drop (j + 1) := by
    have := congrArg (List.drop 1) h2
    simpa [List.drop_drop, Nat.add_comm] using this
  refine ⟨by rw [rdBd_nat hj, rdBd_nat (by omega), e0], fun h => ?_, fun h => ?_, e2⟩
  · rw [rdBd_nat hj] at h
    rw [h1, e1]; unfold keptBd; rw [List.filter_append]; simp [h]
  · rw [rdBd_nat hj] at h ⊢
    refine ⟨?_, by rw [List.drop_set_of_lt (by omega), e2]⟩
    rw [List.take_succ_eq_append_getElem (by simp; omega), List.take_set_of_le (Nat.le_refl i), List.getElem_set_self, h1, e1]
    unfold keptBd; rw [List.filter_append]; simp [h]
theorem kept_find {l : List Bd} (h : l.findIdx Bd.gone < l.length) : l.take (l.findIdx Bd.gone) = keptBd (l.take (l.findIdx Bd.gone + 1)) := by
  rw [List.take_succ_eq_append_getElem h]
  unfold keptBd
  rw [List.filter_append, List.filter_eq_self.2 fun x hx => ?_]
  · have := List.findIdx_getElem (w := h); simp [this]
  · obtain ⟨j, hj, rfl⟩ := List.getElem_of_mem hx
    simp only [List.length_take] at hj
    have := List.not_of_lt_findIdx (xs := l) (p := Bd.gone) (i := j) (by omega)
    simpa using this
theorem kept_no {l : List Bd} (h : ¬ l.findIdx Bd.gone < l.length) : keptBd l = l := by
  refine List.filter_eq_self.2 fun x hx => ?_
  have h1 : ¬ ∃ x ∈ l, x.gone = true := fun q => h (List.findIdx_lt_length.2 q)
  simp only [Bool.not_eq_true', ← Bool.not_eq_true]
  exact fun q => h1 ⟨x, hx, q⟩
theorem ok48 : FSOk Try.prog 48 fs48 := by
  refine ⟨⟨_, Try.func48, by kernel_rfl, by kernel_rfl⟩, fun a => ⟨by simp [fs48, push_cast, noMine, argOwn, Chunk.frArg], by simp [fs48, push_cast, outOk, Chunk.ext], fun x => .inr ⟨fun j L ch h => ?_, fun c ch h => .inr fun y hy => ?_⟩⟩, fun a hp => ?_⟩
  · simp [fs48] at h
  · exfalso
    match c, h with
    | 0, h => simp only [fs48, lk, Option.some.injEq] at h; subst h; exact Bd.noRow _ _ _ _ _ hy
    | c + 1, h => simp [fs48, lk] at h
  obtain ⟨L, l⟩ := a
  obtain ⟨hl, hok⟩ : l.length ≤ 1000000 ∧ ∀ x ∈ l, x.ok := hp
  change Tri Try.prog 48 [.sl 0 L 6 0 l.length, .fn 49 []] [some (.lent, L, .recs 6 false [] (l.map Bd.rc))] (postF fs48 ⟨L, l⟩)
  refine tri_evS (hyp (l := [(67, ent67), (49, ent49)]) (lp := []) ⟨e67, e49, trivial⟩ trivial) Try.func48 comp48 (rs := [.tmp 4]) (by rfl) Try.ntmps48 19 ?_
  simp -implicitDefEqProofs only [push_cast, false_implies, reduceCtorEq, Classical.not_not, Nat.reduceAdd, Nat.reduceSub, Nat.reduceMul, Nat.reduceLeDiff, Nat.reduceLT, Nat.reduceEqDiff, Nat.reduceBEq, Nat.reduceBNe, Int.reduceNeg, Int.reduceToNat, Bool.or_false, Bool.false_or, Bool.or_true, Bool.true_or, BEq.rfl, Bool.not_eq_true, Bool.not_eq_false, decide_eq_true_eq, not_true_eq_false, not_false_eq_true, ite_true, ite_false, List.append_nil, and_assoc, Nat.mul_zero, Nat.zero_mul, ir48, fs67]
  refine ⟨hl, hok, ?_⟩
  by_cases hf : l.findIdx Bd.gone < l.length
  case neg =>
    rw [if_neg hf]
    have e := kept_no hf
    simp -implicitDefEqProofs only [push_cast, false_implies, reduceCtorEq, Classical.not_not, Nat.reduceAdd, Nat.reduceSub, Nat.reduceMul, Nat.reduceLeDiff, Nat.reduceLT, Nat.reduceEqDiff, Nat.reduceBEq, Nat.reduceBNe, Int.reduceNeg, Int.reduceToNat, Bool.or_false, Bool.false_or, Bool.or_true, Bool.true_or, BEq.rfl, Bool.not_eq_true, Bool.not_eq_false, decide_eq_true_eq, not_true_eq_false, not_false_eq_true, ite_true, ite_false, List.append_nil, and_assoc, Nat.mul_zero, Nat.zero_mul, true_implies, true_and]
    refine postF.mk' (fun _ => default) [some 0] ?_
    simp -implicitDefEqProofs only [push_cast, false_implies, reduceCtorEq, Classical.not_not, Nat.reduceAdd, Nat.reduceSub, Nat.reduceMul, Nat.reduceLeDiff, Nat.reduceLT, Nat.reduceEqDiff, Nat.reduceBEq, Nat.reduceBNe, Int.reduceNeg, Int.reduceToNat, Bool.or_false, Bool.false_or, Bool.or_true, Bool.true_or, BEq.rfl, Bool.not_eq_true, Bool.not_eq_false, decide_eq_true_eq, not_true_eq_false, not_false_eq_true, ite_true, ite_false, List.append_nil, and_assoc, Nat.mul_zero, Nat.zero_mul, fs48, e, Nat.sub_self, List.replicate_zero]
  rw [if_pos hf]
  have hk := kept_find hf
  obtain ⟨f, hfe⟩ : ∃ f, l.findIdx Bd.gone = f := ⟨_, rfl⟩
  rw [hfe] at hf hk ⊢
  refine ⟨fun h => by omega, fun _ => ⟨by omega, by omega, ?_⟩⟩
  refine evS_loopU (A := Nat × Nat × List Bd) kp48_1 kl48_1 (fun y => [(5, .int .i64 y.1), (6, .int .i64 y.2.1)]) (fun y => [(0, .lent, L, .recs 6 false [] (y.2.2.map Bd.rc))])
    (fun y => y.1 < y.2.1 ∧ y.2.1 ≤ l.length ∧ y.2.2.length = l.length ∧ y.2.2.take y.1 = keptBd (l.take y.2.1) ∧ y.2.2.drop y.2.1 = l.drop y.2.1) (fun y => l.length - y.2.1) (f, f + 1, l) ⟨by simp only; omega, by simp only; omega, rfl, hk, rfl⟩ (Sub.pt ?_) ?_
  · simp -implicitDefEqProofs only [push_cast, false_implies, reduceCtorEq, Classical.not_not, Nat.reduceAdd, Nat.reduceSub, Nat.reduceMul, Nat.reduceLeDiff, Nat.reduceLT, Nat.reduceEqDiff, Nat.reduceBEq, Nat.reduceBNe, Int.reduceNeg, Int.reduceToNat, Bool.or_false, Bool.false_or, Bool.or_true, Bool.true_or, BEq.rfl, Bool.not_eq_true, Bool.not_eq_false, decide_eq_true_eq, not_true_eq_false, not_false_eq_true, ite_true, ite_false, List.append_nil, and_assoc, Nat.mul_zero, Nat.zero_mul]
  rintro ⟨i, j, m⟩ ⟨h1, h2, h3, h4, h5⟩ K hK
  simp only at h1 h2 h3 h4 h5
  have hlm : (m.map Bd.rc).length = l.length := by rw [List.length_map, h3]
  by_cases hj : j < l.length
  · obtain ⟨s1, s2, s3, s4⟩ := del_step h1 hj h3 h4 h5
    have r1 := recAt_Bd' (l := m) (i := (j : Int)) (by omega) (by omega) []
    have o1 := hok _ (rdBd_mem hj)
    rw [s1] at r1
    obtain ⟨x, hx⟩ : ∃ x, rdBd l (j : Int) = x := ⟨_, rfl⟩
    rw [hx] at r1 o1 s2 s3
    obtain ⟨lv, kd, x, y, w, h⟩ := x
    obtain ⟨g, hg⟩ : ∃ g, (⟨lv, kd, x, y, w, h⟩ : Bd).gone = g := ⟨_, rfl⟩
    rw [hg] at s2 s3
    simp -implicitDefEqProofs only [push_cast, false_implies, reduceCtorEq, Classical.not_not, Nat.reduceAdd, Nat.reduceSub, Nat.reduceMul, Nat.reduceLeDiff, Nat.reduceLT, Nat.reduceEqDiff, Nat.reduceBEq, Nat.reduceBNe, Int.reduceNeg, Int.reduceToNat, Bool.or_false, Bool.false_or, Bool.or_true, Bool.true_or, BEq.rfl, Bool.not_eq_true, Bool.not_eq_false, decide_eq_true_eq, not_true_eq_false, not_false_eq_true, ite_true, ite_false, List.append_nil, and_assoc, Nat.mul_zero, Nat.zero_mul, b48_1, r48_2, r1, Bd.rc, hlm, fs49, hg]
    refine ⟨fun _ => ?_, fun hl => by omega⟩
    intro X
    repeat (refine And.intro (by first | omega | trivial | (intros; omega)) ?_)
    refine ⟨fun hb => ?_, fun hb => ?_⟩
    · repeat (refine And.intro (by first | omega | trivial | (intros; omega)) ?_)
      refine hK (i + 1, j + 1, m.set i ⟨lv, kd, x, y, w, h⟩) ⟨by simp only; omega, by simp only; omega, by simp only [List.length_set]; exact h3, (s3 (by simpa using hb)).1, (s3 (by simpa using hb)).2⟩ (by simp only; omega) _ _ (Sub.pt ?_)
      have q : (m.map Bd.rc).set i [.int .i64 lv, .int .i64 kd, .int .i64 x, .int .i64 y, .int .i64 w, .int .i64 h] = (m.set i ⟨lv, kd, x, y, w, h⟩).map Bd.rc := by rw [List.map_set]; rfl
      simp -implicitDefEqProofs only [push_cast, false_implies, reduceCtorEq, Classical.not_not, Nat.reduceAdd, Nat.reduceSub, Nat.reduceMul, Nat.reduceLeDiff, Nat.reduceLT, Nat.reduceEqDiff, Nat.reduceBEq, Nat.reduceBNe, Int.reduceNeg, Int.reduceToNat, Bool.or_false, Bool.false_or, Bool.or_true, Bool.true_or, BEq.rfl, Bool.not_eq_true, Bool.not_eq_false, decide_eq_true_eq, not_true_eq_false, not_false_eq_true, ite_true, ite_false, List.append_nil, and_assoc, Nat.mul_zero, Nat.zero_mul, q, Int.toNat_natCast]
    · repeat (refine And.intro (by first | omega | trivial | (intros; omega)) ?_)
      refine hK (i, j + 1, m) ⟨by simp only; omega, by simp only; omega, h3, s2 (by simpa using hb), s4⟩ (by simp only; omega) _ _ (Sub.pt ?_)
      simp -implicitDefEqProofs only [push_cast, false_implies, reduceCtorEq, Classical.not_not, Nat.reduceAdd, Nat.reduceSub, Nat.reduceMul, Nat.reduceLeDiff, Nat.reduceLT, Nat.reduceEqDiff, Nat.reduceBEq, Nat.reduceBNe, Int.reduceNeg, Int.reduceToNat, Bool.or_false, Bool.false_or, Bool.or_true, Bool.true_or, BEq.rfl, Bool.not_eq_true, Bool.not_eq_false, decide_eq_true_eq, not_true_eq_false, not_false_eq_true, ite_true, ite_false, List.append_nil, and_assoc, Nat.mul_zero, Nat.zero_mul]
  · obtain rfl : j = l.length := by omega
    clear hK
    rw [List.take_length] at h4
    have hi : i = (keptBd l).length := by
      have := congrArg List.length h4
      rw [List.length_take] at this; omega
    simp -implicitDefEqProofs only [push_cast, false_implies, reduceCtorEq, Classical.not_not, Nat.reduceAdd, Nat.reduceSub, Nat.reduceMul, Nat.reduceLeDiff, Nat.reduceLT, Nat.reduceEqDiff, Nat.reduceBEq, Nat.reduceBNe, Int.reduceNeg, Int.reduceToNat, Bool.or_false, Bool.false_or, Bool.or_true, Bool.true_or, BEq.rfl, Bool.not_eq_true, Bool.not_eq_false, decide_eq_true_eq, not_true_eq_false, not_false_eq_true, ite_true, ite_false, List.append_nil, and_assoc, Nat.mul_zero, Nat.zero_mul, b48_1, r48_2, hlm, Int.lt_irrefl, true_implies, true_and]
    repeat (refine And.intro (by first | omega | trivial | (intros; omega)) ?_)
    refine postF.mk' (fun _ => default) [some 0] ?_
    have q : (m.map Bd.rc).take i = (keptBd l).map Bd.rc := by rw [← List.map_take, h4]
    have q2 : ((l.length : Int) - (i : Int)).toNat = l.length - (keptBd l).length := by omega
    simp -implicitDefEqProofs only [push_cast, false_implies, reduceCtorEq, Classical.not_not, Nat.reduceAdd, Nat.reduceSub, Nat.reduceMul, Nat.reduceLeDiff, Nat.reduceLT, Nat.reduceEqDiff, Nat.reduceBEq, Nat.reduceBNe, Int.reduceNeg, Int.reduceToNat, Bool.or_false, Bool.false_or, Bool.or_true, Bool.true_or, BEq.rfl, Bool.not_eq_true, Bool.not_eq_false, decide_eq_true_eq, not_true_eq_false, not_false_eq_true, ite_true, ite_false, List.append_nil, and_assoc, Nat.mul_zero, Nat.zero_mul, fs48, q, q2, ← hi, Int.toNat_natCast, Int.zero_add, Int.sub_zero]
def ent48 : Entry := spOf fs48 inv67
theorem e48 : EntryOk Try.prog 48 ent48 := entry_of ok48 inv67
@[push_cast] theorem ent48_app (us : List SV) (look : Look) (x : Nat → Xf.Loc) (k : Nat) : ent48 us look x k = spOf fs48 inv67 us look x k := rfl
def b26_1 : IR :=
  .seq (.seq (.reg false [⟨some 56, none, ⟨[], []⟩, .mov (.t 10)⟩,
    ⟨some 57, none, ⟨[], []⟩, .bin 0 .gtr (.t 56) (.k (.int .i64 0))⟩] [56] []) (.cond (.t 57) (.skip) (.exit 0))) (.seq (.block 1 (.seq (.reg false [⟨some 60, none, ⟨[], []⟩, .mov (.t 8)⟩,
    ⟨some 61, none, ⟨[], []⟩, .mov (.t 10)⟩,
    ⟨some 62, none, ⟨[], []⟩, .bin 0 .sub (.t 61) (.k (.int .i64 1))⟩,
    ⟨some 63, none, ⟨[], []⟩, .idxS (.t 60) (.t 62) 2⟩,
    ⟨some 64, none, ⟨[], []⟩, .ld true (some 2) 0 0 (.t 63)⟩,
    ⟨some 11, none, ⟨[], []⟩, .allocI 15 .i64 2⟩,
    ⟨none, none, ⟨[], []⟩, .sto true 2 .i64 (.t 11) (.t 64)⟩] [57, 60, 61, 62, 63, 64] []) (.seq (.reg false [⟨some 65, none, ⟨[], []⟩, .mov (.t 8)⟩,
    ⟨some 66, none, ⟨[], []⟩, .mov (.t 10)⟩,
    ⟨some 67, none, ⟨[], []⟩, .idxS (.t 65) (.t 66) 2⟩,
    ⟨some 68, none, ⟨[], []⟩, .ld true (some 2) 0 0 (.t 67)⟩,
    ⟨some 12, none, ⟨[], []⟩, .allocI 16 .i64 2⟩,
    ⟨none, none, ⟨[], []⟩, .sto true 2 .i64 (.t 12) (.t 68)⟩] [65, 66, 67, 68] []) (.seq (.reg true [⟨some 69, none, ⟨[], []⟩, .idxP (.t 11) (.k (.int .i64 0)) 2 1⟩,
    ⟨some 70, none, ⟨[], []⟩, .ld true none 0 0 (.t 69)⟩,
    ⟨some 71, none, ⟨[], []⟩, .idxP (.t 12) (.k (.int .i64 0)) 2 1⟩,
    ⟨some 72, none, ⟨[], []⟩, .ld true none 0 0 (.t 71)⟩,
    ⟨some 73, none, ⟨[], []⟩, .bin 0 .sub (.t 70) (.t 72)⟩,
    ⟨some 74, none, ⟨[], []⟩, .idxP (.t 11) (.k (.int .i64 1)) 2 1⟩,
    ⟨some 75, none, ⟨[], []⟩, .ld true none 0 0 (.t 74)⟩,
    ⟨some 76, none, ⟨[], []⟩, .idxP (.t 12) (.k (.int .i64 1)) 2 1⟩,
    ⟨some 77, none, ⟨[], []⟩, .ld true none 0 0 (.t 76)⟩,
    ⟨some 78, none, ⟨[], []⟩, .bin 0 .sub (.t 75) (.t 77)⟩,
    ⟨some 13, none, ⟨[], []⟩, .mov (.t 73)⟩,
    ⟨some 14, none, ⟨[], []⟩, .mov (.t 78)⟩] [11, 69, 70, 71, 72, 73, 74, 75, 76, 77, 78] []) (.reg false [⟨some 79, none, ⟨[], []⟩, .mov (.t 9)⟩,
    ⟨some 80, none, ⟨[], []⟩, .mov (.t 10)⟩,
    ⟨some 81, none, ⟨[], []⟩, .idxP (.t 12) (.k (.int .i64 0)) 2 1⟩,
    ⟨some 82, none, ⟨[], []⟩, .ld true none 0 0 (.t 81)⟩,
    ⟨some 83, none, ⟨[], []⟩, .mov (.t 13)⟩,
    ⟨some 84, none, ⟨[], []⟩, .idxP (.t 12) (.k (.int .i64 1)) 2 1⟩,
    ⟨some 85, none, ⟨[], []⟩, .ld true none 0 0 (.t 84)⟩,
    ⟨some 86, none, ⟨[], []⟩, .build [.int .i64 0, .int .i64 0, .int .i64 0, .int .i64 0, .int .i64 0, .int .i64 0] [(0, 1, .t 80), (1, 1, .k (.int .i64 1)), (2, 1, .t 82), (4, 1, .t 83), (5, 1, .t 85)]⟩,
    ⟨some 87, none, ⟨[], []⟩, .mov (.t 10)⟩,
    ⟨some 88, none, ⟨[], []⟩, .idxP (.t 12) (.k (.int .i64 1)) 2 1⟩,
    ⟨some 89, none, ⟨[], []⟩, .ld true none 0 0 (.t 88)⟩,
    ⟨some 90, none, ⟨[], []⟩, .idxP (.t 12) (.k (.int .i64 0)) 2 1⟩,
    ⟨some 91, none, ⟨[], []⟩, .ld true none 0 0 (.t 90)⟩,
    ⟨some 92, none, ⟨[], []⟩, .mov (.t 14)⟩,
    ⟨some 93, none, ⟨[], []⟩, .build [.int .i64 0, .int .i64 0, .int .i64 0, .int .i64 0, .int .i64 0, .int .i64 0] [(0, 1, .t 87), (1, 1, .k (.int .i64 2)), (3, 1, .t 89), (4, 1, .t 91), (5, 1, .t 92)]⟩,
    ⟨some 94, none, ⟨[], []⟩, .mov (.t 10)⟩,
    ⟨some 95, none, ⟨[], []⟩, .idxP (.t 12) (.k (.int .i64 0)) 2 1⟩,
    ⟨some 96, none, ⟨[], []⟩, .ld true none 0 0 (.t 95)⟩,
    ⟨some 97, none, ⟨[], []⟩, .idxP (.t 12) (.k (.int .i64 1)) 2 1⟩,
    ⟨some 98, none, ⟨[], []⟩, .ld true none 0 0 (.t 97)⟩,
    ⟨some 99, none, ⟨[], []⟩, .mov (.t 13)⟩,
    ⟨some 100, none, ⟨[], []⟩, .mov (.t 14)⟩,
    ⟨some 101, none, ⟨[], []⟩, .build [.int .i64 0, .int .i64 0, .int .i64 0, .int .i64 0, .int .i64 0, .int .i64 0] [(0, 1, .t 94), (1, 1, .k (.int .i64 3)), (2, 1, .t 96), (3, 1, .t 98), (4, 1, .t 99), (5, 1, .t 100)]⟩,
    ⟨some 102, none, ⟨[], []⟩, .brecs 17 6 .i64 [.t 86, .t 93, .t 101]⟩,
    ⟨some 103, none, ⟨[], []⟩, .app 18 6 48 (.t 79) (.t 102)⟩,
    ⟨some 9, none, ⟨[], []⟩, .mov (.t 103)⟩] [12, 13, 14, 79, 80, 81, 82, 83, 84, 85, 86, 87, 88, 89, 90, 91, 92, 93, 94, 95, 96, 97, 98, 99, 100, 101, 102, 103] []))))) (.reg false [⟨some 58, none, ⟨[], []⟩, .mov (.t 10)⟩,
    ⟨some 59, none, ⟨[], []⟩, .bin 0 .sub (.t 58) (.k (.int .i64 1))⟩,
    ⟨some 10, none, ⟨[], []⟩, .mov (.t 59)⟩] [58, 59] []))
def r26_2 : IR :=
  .seq (.reg false [⟨some 104, none, ⟨[], []⟩, .mov (.t 9)⟩,
    ⟨some 105, none, ⟨[], []⟩, .call none 19 48 [.t 104, .k (.fn 49 [])]⟩,
    ⟨some 6, none, ⟨[], []⟩, .mov (.t 105)⟩,
    ⟨some 7, none, ⟨[], []⟩, .mov (.k (.int .i64 0))⟩] [8, 9, 10, 104, 105] []) (.ret)
def ir26 : IR :=
  .seq (.reg false [⟨some 6, none, ⟨[], []⟩, .mov (.k nilSV)⟩,
    ⟨some 7, none, ⟨[], []⟩, .mov (.k (.int .i64 0))⟩] [6, 7] []) (.seq (.seq (.reg false [⟨some 15, none, ⟨[], []⟩, .mov (.t 2)⟩,
    ⟨some 16, none, ⟨[], []⟩, .bin 0 .lss (.t 15) (.k (.int .i64 0))⟩,
    ⟨some 17, none, ⟨[], []⟩, .mov (.t 16)⟩,
    ⟨some 18, some (17, false), ⟨[], []⟩, .mov (.t 2)⟩,
    ⟨some 19, some (17, false), ⟨[], []⟩, .bin 0 .gtr (.t 18) (.k (.int .i64 6))⟩,
    ⟨some 20, none, ⟨[], []⟩, .pick (.t 17) (.k (.bool true)) (.t 19)⟩,
    ⟨some 21, none, ⟨[], []⟩, .mov (.t 20)⟩,
    ⟨some 22, some (21, false), ⟨[], []⟩, .mov (.t 0)⟩,
    ⟨some 23, some (21, false), ⟨[], []⟩, .bin 0 .lss (.t 22) (.k (.int .i64 0))⟩,
    ⟨some 24, none, ⟨[], []⟩, .pick (.t 21) (.k (.bool true)) (.t 23)⟩,
    ⟨some 25, none, ⟨[], []⟩, .mov (.t 24)⟩,
    ⟨some 26, some (25, false), ⟨[], []⟩, .mov (.t 1)⟩,
    ⟨some 27, some (25, false), ⟨[], []⟩, .bin 0 .lss (.t 26) (.k (.int .i64 0))⟩,
    ⟨some 28, none, ⟨[], []⟩, .pick (.t 25) (.k (.bool true)) (.t 27)⟩,
    ⟨some 29, none, ⟨[], []⟩, .mov (.t 28)⟩,
    ⟨some 30, some (29, false), ⟨[], []⟩, .mov (.t 0)⟩,
    ⟨some 31, some (29, false), ⟨[], []⟩, .bin 0 .gtr (.t 30) (.k (.int .i64 200))⟩,
    ⟨some 32, none, ⟨[], []⟩, .pick (.t 29) (.k (.bool true)) (.t 31)⟩,
    ⟨some 33, none, ⟨[], []⟩, .mov (.t 32)⟩,
    ⟨some 34, some (33, false), ⟨[], []⟩, .mov (.t 1)⟩,
    ⟨some 35, some (33, false), ⟨[], []⟩, .bin 0 .gtr (.t 34) (.k (.int .i64 200))⟩,
    ⟨some 36, none, ⟨[], []⟩, .pick (.t 33) (.k (.bool true)) (.t 35)⟩] [15, 16, 17, 18, 19, 20, 21, 22, 23, 24, 25, 26, 27, 28, 29, 30, 31, 32, 33, 34, 35] []) (.cond (.t 36) (.seq (.reg false [⟨some 6, none, ⟨[], []⟩, .mov (.k nilSV)⟩,
    ⟨some 7, none, ⟨[], []⟩, .mov (.k (.int .i64 2))⟩] [0, 1, 2, 36] []) (.ret)) (.skip))) (.seq (.reg false [⟨some 37, none, ⟨[], []⟩, .mov (.t 0)⟩,
    ⟨some 38, none, ⟨[], []⟩, .mov (.t 1)⟩,
    ⟨some 39, none, ⟨[], []⟩, .mov (.t 2)⟩,
    ⟨some 40, none, ⟨[], []⟩, .bin 0 .add (.t 39) (.k (.int .i64 1))⟩,
    ⟨some 41, none, ⟨[], []⟩, .call (some 4) 10 47 [.t 37, .t 38, .t 40]⟩,
    ⟨some 8, none, ⟨[], []⟩, .mov (.t 41)⟩] [0, 1, 6, 7, 36, 37, 38, 39, 40, 41] []) (.seq (.reg true [⟨some 42, none, ⟨[], []⟩, .mov (.t 2)⟩,
    ⟨some 43, none, ⟨[], []⟩, .mov (.t 8)⟩,
    ⟨some 44, none, ⟨[], []⟩, .mov (.t 2)⟩,
    ⟨some 45, none, ⟨[], []⟩, .idxS (.t 43) (.t 44) 2⟩,
    ⟨some 46, none, ⟨[], []⟩, .idxP (.t 45) (.k (.int .i64 0)) 2 1⟩,
    ⟨some 47, none, ⟨[], []⟩, .ld true none 0 0 (.t 46)⟩,
    ⟨some 48, none, ⟨[], []⟩, .mov (.t 8)⟩,
    ⟨some 49, none, ⟨[], []⟩, .mov (.t 2)⟩,
    ⟨some 50, none, ⟨[], []⟩, .idxS (.t 48) (.t 49) 2⟩,
    ⟨some 51, none, ⟨[], []⟩, .idxP (.t 50) (.k (.int .i64 1)) 2 1⟩,
    ⟨some 52, none, ⟨[], []⟩, .ld true none 0 0 (.t 51)⟩,
    ⟨some 53, none, ⟨[], []⟩, .build [.int .i64 0, .int .i64 0, .int .i64 0, .int .i64 0, .int .i64 0, .int .i64 0] [(0, 1, .t 42), (4, 1, .t 47), (5, 1, .t 52)]⟩,
    ⟨some 54, none, ⟨[], []⟩, .brecs 14 6 .i64 [.t 53]⟩,
    ⟨some 9, none, ⟨[], []⟩, .mov (.t 54)⟩] [42, 43, 44, 45, 46, 47, 48, 49, 50, 51, 52, 53, 54] []) (.seq (.seq (.reg false [⟨some 55, none, ⟨[], []⟩, .mov (.t 2)⟩,
    ⟨some 10, none, ⟨[], []⟩, .mov (.t 55)⟩] [2, 55] []) (.block 0 (.loop b26_1))) (r26_2)))))
def kp26_1 : List Nat := [8, 9, 10]
def kl26_1 : List Nat := [15, 16, 17, 18]
attribute [push_cast] kp26_1 kl26_1
set_option maxRecDepth 4000 in
theorem comp26 : (Try.f26.body.bind fun c => compC tab isP chkAll ir26 c) = some ir26 := by kernel_rfl
def b27_1 : IR :=
  .seq (.seq (.reg false [⟨some 56, none, ⟨[], []⟩, .mov (.t 11)⟩,
    ⟨some 57, none, ⟨[], []⟩, .bin 0 .geq (.t 56) (.k (.int .i64 1))⟩] [56] []) (.cond (.t 57) (.skip) (.exit 0))) (.seq (.block 1 (.seq (.reg false [⟨some 61, none, ⟨[], []⟩, .mov (.t 0)⟩,
    ⟨some 62, none, ⟨[], []⟩, .mov (.t 1)⟩,
    ⟨some 63, none, ⟨[], []⟩, .mov (.t 11)⟩,
    ⟨some 64, none, ⟨[], []⟩, .bin 0 .sub (.t 63) (.k (.int .i64 1))⟩,
    ⟨some 65, none, ⟨[], []⟩, .call (some 4) 16 50 [.t 61, .t 62, .t 64]⟩,
    ⟨some 60, none, ⟨[], []⟩, .mov (.t 65)⟩,
    ⟨some 66, none, ⟨[], []⟩, .ext (.t 60) 0⟩,
    ⟨some 67, none, ⟨[], []⟩, .ext (.t 60) 1⟩,
    ⟨some 12, none, ⟨[], []⟩, .mov (.t 66)⟩,
    ⟨some 13, none, ⟨[], []⟩, .mov (.t 67)⟩] [57, 60, 61, 62, 63, 64, 65, 66, 67] []) (.seq (.reg false [⟨some 69, none, ⟨[], []⟩, .mov (.t 0)⟩,
    ⟨some 70, none, ⟨[], []⟩, .mov (.t 1)⟩,
    ⟨some 71, none, ⟨[], []⟩, .mov (.t 11)⟩,
    ⟨some 72, none, ⟨[], []⟩, .call (some 4) 20 50 [.t 69, .t 70, .t 71]⟩,
    ⟨some 68, none, ⟨[], []⟩, .mov (.t 72)⟩,
    ⟨some 73, none, ⟨[], []⟩, .ext (.t 68) 0⟩,
    ⟨some 74, none, ⟨[], []⟩, .ext (.t 68) 1⟩,
    ⟨some 14, none, ⟨[], []⟩, .mov (.t 73)⟩,
    ⟨some 15, none, ⟨[], []⟩, .mov (.t 74)⟩] [68, 69, 70, 71, 72, 73, 74] []) (.seq (.reg false [⟨some 75, none, ⟨[], []⟩, .mov (.t 8)⟩,
    ⟨some 76, none, ⟨[], []⟩, .mov (.t 11)⟩,
    ⟨some 77, none, ⟨[], []⟩, .mov (.t 14)⟩,
    ⟨some 78, none, ⟨[], []⟩, .mov (.t 12)⟩,
    ⟨some 79, none, ⟨[], []⟩, .mov (.t 14)⟩,
    ⟨some 80, none, ⟨[], []⟩, .bin 0 .sub (.t 78) (.t 79)⟩,
    ⟨some 81, none, ⟨[], []⟩, .mov (.t 15)⟩,
    ⟨some 82, none, ⟨[], []⟩, .build [.int .i64 0, .int .i64 0, .int .i64 0, .int .i64 0, .int .i64 0, .int .i64 0] [(0, 1, .t 76), (1, 1, .k (.int .i64 1)), (2, 1, .t 77), (4, 1, .t 80), (5, 1, .t 81)]⟩,
    ⟨some 83, none, ⟨[], []⟩, .brecs 24 6 .i64 [.t 82]⟩,
    ⟨some 84, none, ⟨[], []⟩, .app 25 6 48 (.t 75) (.t 83)⟩,
    ⟨some 8, none, ⟨[], []⟩, .mov (.t 84)⟩] [75, 76, 77, 78, 79, 80, 81, 82, 83, 84] []) (.seq (.reg false [⟨some 85, none, ⟨[], []⟩, .mov (.t 8)⟩,
    ⟨some 86, none, ⟨[], []⟩, .mov (.t 11)⟩,
    ⟨some 87, none, ⟨[], []⟩, .mov (.t 15)⟩,
    ⟨some 88, none, ⟨[], []⟩, .mov (.t 14)⟩,
    ⟨some 89, none, ⟨[], []⟩, .mov (.t 13)⟩,
    ⟨some 90, none, ⟨[], []⟩, .mov (.t 15)⟩,
    ⟨some 91, none, ⟨[], []⟩, .bin 0 .sub (.t 89) (.t 90)⟩,
    ⟨some 92, none, ⟨[], []⟩, .build [.int .i64 0, .int .i64 0, .int .i64 0, .int .i64 0, .int .i64 0, .int .i64 0] [(0, 1, .t 86), (1, 1, .k (.int .i64 2)), (3, 1, .t 87), (4, 1, .t 88), (5, 1, .t 91)]⟩,
    ⟨some 93, none, ⟨[], []⟩, .brecs 26 6 .i64 [.t 92]⟩,
    ⟨some 94, none, ⟨[], []⟩, .app 27 6 48 (.t 85) (.t 93)⟩,
    ⟨some 8, none, ⟨[], []⟩, .mov (.t 94)⟩] [85, 86, 87, 88, 89, 90, 91, 92, 93, 94] []) (.reg false [⟨some 95, none, ⟨[], []⟩, .mov (.t 8)⟩,
    ⟨some 96, none, ⟨[], []⟩, .mov (.t 11)⟩,
    ⟨some 97, none, ⟨[], []⟩, .mov (.t 14)⟩,
    ⟨some 98, none, ⟨[], []⟩, .mov (.t 15)⟩,
    ⟨some 99, none, ⟨[], []⟩, .mov (.t 12)⟩,
    ⟨some 100, none, ⟨[], []⟩, .mov (.t 14)⟩,
    ⟨some 101, none, ⟨[], []⟩, .bin 0 .sub (.t 99) (.t 100)⟩,
    ⟨some 102, none, ⟨[], []⟩, .mov (.t 13)⟩,
    ⟨some 103, none, ⟨[], []⟩, .mov (.t 15)⟩,
    ⟨some 104, none, ⟨[], []⟩, .bin 0 .sub (.t 102) (.t 103)⟩,
    ⟨some 105, none, ⟨[], []⟩, .build [.int .i64 0, .int .i64 0, .int .i64 0, .int .i64 0, .int .i64 0, .int .i64 0] [(0, 1, .t 96), (1, 1, .k (.int .i64 3)), (2, 1, .t 97), (3, 1, .t 98), (4, 1, .t 101), (5, 1, .t 104)]⟩,
    ⟨some 106, none, ⟨[], []⟩, .brecs 28 6 .i64 [.t 105]⟩,
    ⟨some 107, none, ⟨[], []⟩, .app 29 6 48 (.t 95) (.t 106)⟩,
    ⟨some 8, none, ⟨[], []⟩, .mov (.t 107)⟩] [12, 13, 14, 15, 95, 96, 97, 98, 99, 100, 101, 102, 103, 104, 105, 106, 107] [])))))) (.reg false [⟨some 58, none, ⟨[], []⟩, .mov (.t 11)⟩,
    ⟨some 59, none, ⟨[], []⟩, .bin 0 .sub (.t 58) (.k (.int .i64 1))⟩,
    ⟨some 11, none, ⟨[], []⟩, .mov (.t 59)⟩] [58, 59] []))
def b27_2 : IR :=
  .seq (.reg false [⟨some 111, none, ⟨[], []⟩, .bin 0 .lss (.t 110) (.t 109)⟩] [] []) (.seq (.cond (.t 111) (.skip) (.exit 2)) (.seq (.block 3 (.seq (.reg false [⟨some 112, none, ⟨[], []⟩, .idxS (.t 108) (.t 110) 6⟩,
    ⟨some 113, none, ⟨[], []⟩, .ld true (some 6) 0 0 (.t 112)⟩,
    ⟨some 18, none, ⟨[], []⟩, .alloc 30 [.int .i64 0, .int .i64 0, .int .i64 0, .int .i64 0, .int .i64 0, .int .i64 0]⟩,
    ⟨none, none, ⟨[], []⟩, .sto false 6 .i64 (.t 18) (.t 113)⟩] [111, 112, 113] []) (.seq (.reg false [⟨some 114, none, ⟨[], []⟩, .fld (.t 18) 4⟩,
    ⟨some 115, none, ⟨[], []⟩, .ld false none 0 0 (.t 114)⟩,
    ⟨some 116, none, ⟨[], []⟩, .bin 0 .gtr (.t 115) (.k (.int .i64 0))⟩,
    ⟨some 117, none, ⟨[], []⟩, .mov (.t 116)⟩,
    ⟨some 118, some (117, true), ⟨[], []⟩, .fld (.t 18) 5⟩,
    ⟨some 119, some (117, true), ⟨[], []⟩, .ld false none 0 0 (.t 118)⟩,
    ⟨some 120, some (117, true), ⟨[], []⟩, .bin 0 .gtr (.t 119) (.k (.int .i64 0))⟩,
    ⟨some 121, none, ⟨[], []⟩, .pick (.t 117) (.t 120) (.k (.bool false))⟩] [114, 115, 116, 117, 118, 119, 120] []) (.cond (.t 121) (.reg false [⟨some 122, none, ⟨[], []⟩, .mov (.t 16)⟩,
    ⟨some 123, none, ⟨[], []⟩, .ld false (some 6) 0 0 (.t 18)⟩,
    ⟨some 124, none, ⟨[], []⟩, .brecs 31 6 .i64 [.t 123]⟩,
    ⟨some 125, none, ⟨[], []⟩, .app 32 6 48 (.t 122) (.t 124)⟩,
    ⟨some 16, none, ⟨[], []⟩, .mov (.t 125)⟩] [18, 121, 122, 123, 124, 125] []) (.skip))))) (.reg false [⟨some 126, none, ⟨[], []⟩, .bin 0 .add (.t 110) (.k (.int .i64 1))⟩,
    ⟨some 110, none, ⟨[], []⟩, .mov (.t 126)⟩] [18, 121, 126] [])))
def r27_3 : IR :=
  .seq (.reg false [⟨some 127, none, ⟨[], []⟩, .mov (.t 16)⟩,
    ⟨some 6, none, ⟨[], []⟩, .mov (.t 127)⟩,
    ⟨some 7, none, ⟨[], []⟩, .mov (.k (.int .i64 0))⟩] [16, 108, 109, 110, 127] []) (.ret)
def r27_4 : IR :=
  .seq (.reg false [⟨some 16, none, ⟨[], []⟩, .mov (.k nilSV)⟩] [0, 1, 11] []) (.seq (.seq (.reg false [⟨some 108, none, ⟨[], []⟩, .mov (.t 8)⟩,
    ⟨some 109, none, ⟨[], []⟩, .len (.t 108)⟩,
    ⟨some 110, none, ⟨[], []⟩, .mov (.k (.int .i64 0))⟩] [8] []) (.block 2 (.loop b27_2))) (r27_3))
def ir27 : IR :=
  .seq (.reg false [⟨some 6, none, ⟨[], []⟩, .mov (.k nilSV)⟩,
    ⟨some 7, none, ⟨[], []⟩, .mov (.k (.int .i64 0))⟩] [6, 7] []) (.seq (.seq (.reg false [⟨some 19, none, ⟨[], []⟩, .mov (.t 0)⟩,
    ⟨some 20, none, ⟨[], []⟩, .bin 0 .lss (.t 19) (.k (.int .i64 0))⟩,
    ⟨some 21, none, ⟨[], []⟩, .mov (.t 20)⟩,
    ⟨some 22, some (21, false), ⟨[], []⟩, .mov (.t 0)⟩,
    ⟨some 23, some (21, false), ⟨[], []⟩, .bin 0 .gtr (.t 22) (.k (.int .i64 200))⟩,
    ⟨some 24, none, ⟨[], []⟩, .pick (.t 21) (.k (.bool true)) (.t 23)⟩,
    ⟨some 25, none, ⟨[], []⟩, .mov (.t 24)⟩,
    ⟨some 26, some (25, false), ⟨[], []⟩, .mov (.t 1)⟩,
    ⟨some 27, some (25, false), ⟨[], []⟩, .bin 0 .lss (.t 26) (.k (.int .i64 0))⟩,
    ⟨some 28, none, ⟨[], []⟩, .pick (.t 25) (.k (.bool true)) (.t 27)⟩,
    ⟨some 29, none, ⟨[], []⟩, .mov (.t 28)⟩,
    ⟨some 30, some (29, false), ⟨[], []⟩, .mov (.t 1)⟩,
    ⟨some 31, some (29, false), ⟨[], []⟩, .bin 0 .gtr (.t 30) (.k (.int .i64 200))⟩,
    ⟨some 32, none, ⟨[], []⟩, .pick (.t 29) (.k (.bool true)) (.t 31)⟩,
    ⟨some 33, none, ⟨[], []⟩, .mov (.t 32)⟩,
    ⟨some 34, some (33, false), ⟨[], []⟩, .mov (.t 2)⟩,
    ⟨some 35, some (33, false), ⟨[], []⟩, .bin 0 .lss (.t 34) (.k (.int .i64 0))⟩,
    ⟨some 36, none, ⟨[], []⟩, .pick (.t 33) (.k (.bool true)) (.t 35)⟩,
    ⟨some 37, none, ⟨[], []⟩, .mov (.t 36)⟩,
    ⟨some 38, some (37, false), ⟨[], []⟩, .mov (.t 2)⟩,
    ⟨some 39, some (37, false), ⟨[], []⟩, .bin 0 .gtr (.t 38) (.k (.int .i64 6))⟩,
    ⟨some 40, none, ⟨[], []⟩, .pick (.t 37) (.k (.bool true)) (.t 39)⟩] [19, 20, 21, 22, 23, 24, 25, 26, 27, 28, 29, 30, 31, 32, 33, 34, 35, 36, 37, 38, 39] []) (.cond (.t 40) (.seq (.reg false [⟨some 6, none, ⟨[], []⟩, .mov (.k nilSV)⟩,
    ⟨some 7, none, ⟨[], []⟩, .mov (.k (.int .i64 2))⟩] [0, 1, 2, 40] []) (.ret)) (.skip))) (.seq (.reg false [⟨some 8, none, ⟨[], []⟩, .mov (.k nilSV)⟩] [6, 7, 40] []) (.seq (.reg false [⟨some 42, none, ⟨[], []⟩, .mov (.t 0)⟩,
    ⟨some 43, none, ⟨[], []⟩, .mov (.t 1)⟩,
    ⟨some 44, none, ⟨[], []⟩, .mov (.t 2)⟩,
    ⟨some 45, none, ⟨[], []⟩, .call (some 4) 10 50 [.t 42, .t 43, .t 44]⟩,
    ⟨some 41, none, ⟨[], []⟩, .mov (.t 45)⟩,
    ⟨some 46, none, ⟨[], []⟩, .ext (.t 41) 0⟩,
    ⟨some 47, none, ⟨[], []⟩, .ext (.t 41) 1⟩,
    ⟨some 9, none, ⟨[], []⟩, .mov (.t 46)⟩,
    ⟨some 10, none, ⟨[], []⟩, .mov (.t 47)⟩] [41, 42, 43, 44, 45, 46, 47] []) (.seq (.reg false [⟨some 48, none, ⟨[], []⟩, .mov (.t 8)⟩,
    ⟨some 49, none, ⟨[], []⟩, .mov (.t 2)⟩,
    ⟨some 50, none, ⟨[], []⟩, .mov (.t 9)⟩,
    ⟨some 51, none, ⟨[], []⟩, .mov (.t 10)⟩,
    ⟨some 52, none, ⟨[], []⟩, .build [.int .i64 0, .int .i64 0, .int .i64 0, .int .i64 0, .int .i64 0, .int .i64 0] [(0, 1, .t 49), (4, 1, .t 50), (5, 1, .t 51)]⟩,
    ⟨some 53, none, ⟨[], []⟩, .brecs 14 6 .i64 [.t 52]⟩,
    ⟨some 54, none, ⟨[], []⟩, .app 15 6 48 (.t 48) (.t 53)⟩,
    ⟨some 8, none, ⟨[], []⟩, .mov (.t 54)⟩] [9, 10, 48, 49, 50, 51, 52, 53, 54] []) (.seq (.seq (.reg false [⟨some 55, none, ⟨[], []⟩, .mov (.t 2)⟩,
    ⟨some 11, none, ⟨[], []⟩, .mov (.t 55)⟩] [2, 55] []) (.block 0 (.loop b27_1))) (r27_4))))))
def kp27_1 : List Nat := [0, 1, 8, 11]
def kl27_1 : List Nat := [16, 17, 18, 19, 20, 21, 22, 23, 24, 25, 26, 27, 28, 29]
attribute [push_cast] kp27_1 kl27_1
def kp27_2 : List Nat := [16, 108, 109, 110]
def kl27_2 : List Nat := [30, 31, 32]
attribute [push_cast] kp27_2 kl27_2
set_option maxRecDepth 4000 in
theorem comp27 : (Try.f27.body.bind fun c => compC tab isP chkAll ir27 c) = some ir27 := by kernel_rfl
def bd0 (w h n : Nat) : Bd := ⟨n, 0, 0, 0, hlf w n, hlf h n⟩
def bd3 (w h i : Nat) : List Bd := [⟨i, 1, hlf w i, 0, (hlf w (i - 1) : Int) - hlf w i, hlf h i⟩, ⟨i, 2, 0, hlf h i, hlf w i, (hlf h (i - 1) : Int) - hlf h i⟩, ⟨i, 3, hlf w i, hlf h i, (hlf w (i - 1) : Int) - hlf w i, (hlf h (i - 1) : Int) - hlf h i⟩]
def bdD (w h n : Nat) : Nat → List Bd
  | 0 => [bd0 w h n]
  | k + 1 => bdD w h n k ++ bd3 w h (n - k)
def bdN (k : Nat) : Nat := 1 + 3 * k
theorem bdD_length (w h n : Nat) : ∀ k, (bdD w h n k).length = bdN k
  | 0 => rfl
  | k + 1 => by rw [bdD, List.length_append, bdD_length w h n k]; simp [bd3, bdN]; omega
theorem bdD_ok {w h n : Nat} (hw : w ≤ 200) (hh : h ≤ 200) : ∀ k, k ≤ n → ∀ x ∈ bdD w h n k, x.ok
  | 0, _, x, hx => by
    have b1 := hlf_le w n
    have b2 := hlf_le h n
    simp only [bdD, List.mem_singleton] at hx
    subst hx
    simp only [Bd.ok, bd0]; omega
  | k + 1, hk, x, hx => by
    rw [bdD, List.mem_append] at hx
    rcases hx with hx | hx
    · exact bdD_ok hw hh k (by omega) x hx
    · obtain ⟨i, hi⟩ : ∃ i, n - k = i + 1 := ⟨n - k - 1, by omega⟩
      rw [hi] at hx
      have b1 := hlf_le w i
      have b2 := hlf_le h i
      have b3 := hlf_mono w i
      have b4 := hlf_mono h i
      simp only [bd3, Nat.add_sub_cancel, List.mem_cons, List.not_mem_nil, or_false] at hx
      rcases hx with rfl | rfl | rfl <;> simp only [Bd.ok] <;> omega
def bnOk (w h n : Int) : Prop := 0 ≤ n ∧ n ≤ 6 ∧ 0 ≤ w ∧ w ≤ 200 ∧ 0 ≤ h ∧ h ≤ 200
instance (w h n : Int) : Decidable (bnOk w h n) := by unfold bnOk; infer_instance
def bnA (w h n : Int) : List Bd := if bnOk w h n then bdD w.toNat h.toNat n.toNat n.toNat else []
def bnL (w h n : Int) : List Bd := keptBd (bnA w h n)
theorem bnL_le (w h n : Int) : (bnL w h n).length ≤ 19 := by
  refine Nat.le_trans (keptBd_le _) ?_
  unfold bnA
  split
  · rename_i H; rw [bdD_length]; obtain ⟨h1, h2, _⟩ := H; unfold bdN; omega
  · exact Nat.zero_le _
structure BnA where
  w : Int
  h : Int
  n : Int
def bnZ (w h n : Int) : List (List RC) := (bnL w h n).map Bd.rc ++ List.replicate ((bnA w h n).length - (bnL w h n).length) [.int .i64 0, .int .i64 0, .int .i64 0, .int .i64 0, .int .i64 0, .int .i64 0]
def fs26 : FS where
  A := BnA
  args := fun a => [.int .i64 a.w, .int .i64 a.h, .int .i64 a.n]
  mem := fun _ => []
  pre := fun _ => True
  res := fun a x => .tup [.sl 0 (lx (bnOk a.w a.h a.n) x 0) (if bnOk a.w a.h a.n then 6 else 1) 0 (bnL a.w a.h a.n).length, .int .i64 (if bnOk a.w a.h a.n then 0 else 2)]
  out := fun _ _ => []
  new := fun a x => [(lx (bnOk a.w a.h a.n) x 0, .recs 6 false [] (bnZ a.w a.h a.n))]
def inv26 : List SV → Look → Option (BnA × List Nat)
  | [.int .i64 w, .int .i64 h, .int .i64 n], look => some (⟨w, h, n⟩, [])
  | _, _ => none
attribute [push_cast] inv26
theorem ok26 : FSOk Try.prog 26 fs26 := by
  refine ⟨⟨_, Try.func26, by kernel_rfl, by kernel_rfl⟩, fun a => ⟨by simp [fs26, push_cast, noMine, argOwn, Chunk.frArg], by simp [fs26, push_cast, outOk, Chunk.ext], fun x => .inr ⟨fun j L ch h => .inr fun y hy => ?_, fun c ch h => ?_⟩⟩, fun a hp => ?_⟩
  · exfalso
    match j, h with
    | 0, h =>
      simp only [fs26, List.getElem?_cons_zero, Option.some.injEq, Prod.mk.injEq] at h
      obtain ⟨_, rfl⟩ := h; exact Bd.noRow _ _ _ _ _ hy
    | j + 1, h => simp [fs26] at h
  · simp [fs26, lk] at h
  obtain ⟨w, h, n⟩ := a
  change Tri Try.prog 26 [.int .i64 w, .int .i64 h, .int .i64 n] [] (postF fs26 ⟨w, h, n⟩)
  refine tri_evS (hyp (l := [(47, ent47), (48, ent48)]) (lp := []) ⟨e47, e48, trivial⟩ trivial) Try.func26 comp26 (rs := [.tmp 6, .tmp 7]) (by rfl) Try.ntmps26 23 ?_
  simp -implicitDefEqProofs only [push_cast, false_implies, reduceCtorEq, Classical.not_not, Nat.reduceAdd, Nat.reduceSub, Nat.reduceMul, Nat.reduceLeDiff, Nat.reduceLT, Nat.reduceEqDiff, Nat.reduceBEq, Nat.reduceBNe, Int.reduceNeg, Int.reduceToNat, Bool.or_false, Bool.false_or, Bool.or_true, Bool.true_or, BEq.rfl, Bool.not_eq_true, Bool.not_eq_false, decide_eq_true_eq, not_true_eq_false, not_false_eq_true, ite_true, ite_false, List.append_nil, and_assoc, Nat.mul_zero, Nat.zero_mul, ir26]
  refine ⟨fun hb => ?_, fun hg => ?_⟩
  · have e : ¬ bnOk w h n := fun H => by obtain ⟨q1, q2, q3, q4, q5, q6⟩ := H; omega
    have e1 : bnA w h n = [] := if_neg e
    have e2 : bnL w h n = [] := by unfold bnL; rw [e1]; rfl
    refine postF.mk' (fun _ => default) [none] ?_
    simp -implicitDefEqProofs only [push_cast, false_implies, reduceCtorEq, Classical.not_not, Nat.reduceAdd, Nat.reduceSub, Nat.reduceMul, Nat.reduceLeDiff, Nat.reduceLT, Nat.reduceEqDiff, Nat.reduceBEq, Nat.reduceBNe, Int.reduceNeg, Int.reduceToNat, Bool.or_false, Bool.false_or, Bool.or_true, Bool.true_or, BEq.rfl, Bool.not_eq_true, Bool.not_eq_false, decide_eq_true_eq, not_true_eq_false, not_false_eq_true, ite_true, ite_false, List.append_nil, and_assoc, Nat.mul_zero, Nat.zero_mul, fs26, bnZ, e, e1, e2, if_false, lx, List.length_nil, List.map_nil, Nat.sub_self, List.replicate_zero]
  have e : bnOk w h n := by unfold bnOk; omega
  obtain ⟨q1, q2, q3, q4, q5, q6⟩ := id e
  obtain ⟨w, rfl⟩ : ∃ m : Nat, w = (m : Int) := ⟨w.toNat, by omega⟩
  obtain ⟨h, rfl⟩ : ∃ m : Nat, h = (m : Int) := ⟨h.toNat, by omega⟩
  obtain ⟨n, rfl⟩ : ∃ m : Nat, n = (m : Int) := ⟨n.toNat, by omega⟩
  have en : ((n : Int) + 1).toNat = n + 1 := by omega
  have r1 := recAt_tabR (i := n) (n := n + 1) (by omega) (sdR w h) []
  simp -implicitDefEqProofs only [push_cast, false_implies, reduceCtorEq, Classical.not_not, Nat.reduceAdd, Nat.reduceSub, Nat.reduceMul, Nat.reduceLeDiff, Nat.reduceLT, Nat.reduceEqDiff, Nat.reduceBEq, Nat.reduceBNe, Int.reduceNeg, Int.reduceToNat, Bool.or_false, Bool.false_or, Bool.or_true, Bool.true_or, BEq.rfl, Bool.not_eq_true, Bool.not_eq_false, decide_eq_true_eq, not_true_eq_false, not_false_eq_true, ite_true, ite_false, List.append_nil, and_assoc, Nat.mul_zero, Nat.zero_mul, fs47, Int.toNat_natCast, en, r1, sdR, esz, tabR_length]
  intro X
  repeat (refine And.intro (by first | omega | trivial | (intros; omega)) ?_)
  intro X1
  repeat (refine And.intro (by first | omega | trivial | (intros; omega)) ?_)
  refine evS_loopU (A := Nat × Nat × Xf.Loc) kp26_1 kl26_1 (fun y => [(9, .sl 14 y.2.2 6 0 (bdN y.1)), (10, .int .i64 y.2.1)]) (fun y => [(14, .mine, y.2.2, .recs 6 true [] ((bdD w h n y.1).map Bd.rc))]) (fun y => y.1 + y.2.1 = n) (fun y => y.2.1) (0, n, X1 12 14) (Nat.zero_add n) (Sub.pt ?_) ?_
  · simp -implicitDefEqProofs only [push_cast, false_implies, reduceCtorEq, Classical.not_not, Nat.reduceAdd, Nat.reduceSub, Nat.reduceMul, Nat.reduceLeDiff, Nat.reduceLT, Nat.reduceEqDiff, Nat.reduceBEq, Nat.reduceBNe, Int.reduceNeg, Int.reduceToNat, Bool.or_false, Bool.false_or, Bool.or_true, Bool.true_or, BEq.rfl, Bool.not_eq_true, Bool.not_eq_false, decide_eq_true_eq, not_true_eq_false, not_false_eq_true, ite_true, ite_false, List.append_nil, and_assoc, Nat.mul_zero, Nat.zero_mul, bdD, bd0, Bd.rc, List.map_cons, List.map_nil, Nat.mul_zero, show bdN 0 = 1 from rfl]
  rintro ⟨k, lv, N⟩ (hk : k + lv = n) K hK
  have hlen : ((bdD w h n k).map Bd.rc).length = bdN k := by rw [List.length_map, bdD_length]
  have hN3 : bdN k = 1 + 3 * k := rfl
  have hN4 : bdN (k + 1) = 1 + 3 * (k + 1) := rfl
  by_cases h0 : 0 < lv
  · obtain ⟨lv, rfl⟩ : ∃ i, lv = i + 1 := ⟨lv - 1, by omega⟩
    have e1 : ((lv + 1 : Nat) : Int) - 1 = (lv : Int) := by omega
    have r2 := recAt_tabR (i := lv) (n := n + 1) (by omega) (sdR w h) []
    have r3 := recAt_tabR (i := lv + 1) (n := n + 1) (by omega) (sdR w h) []
    have b1 := hlf_le w lv
    have b2 := hlf_le h lv
    have b3 := hlf_mono w lv
    have b4 := hlf_mono h lv
    have e0 : ∀ a b : Int, rd [a, b] 0 = a := fun _ _ => rfl
    have e2 : ∀ a b : Int, rd [a, b] 1 = b := fun _ _ => rfl
    generalize hlv : ((lv + 1 : Nat) : Int) = lvi at e1 r3
    simp -implicitDefEqProofs only [push_cast, false_implies, reduceCtorEq, Classical.not_not, Nat.reduceAdd, Nat.reduceSub, Nat.reduceMul, Nat.reduceLeDiff, Nat.reduceLT, Nat.reduceEqDiff, Nat.reduceBEq, Nat.reduceBNe, Int.reduceNeg, Int.reduceToNat, Bool.or_false, Bool.false_or, Bool.or_true, Bool.true_or, BEq.rfl, Bool.not_eq_true, Bool.not_eq_false, decide_eq_true_eq, not_true_eq_false, not_false_eq_true, ite_true, ite_false, List.append_nil, and_assoc, Nat.mul_zero, Nat.zero_mul, b26_1, r26_2, hlv, e1, r2, r3, sdR, e0, e2, hlen, tabR_length]
    refine ⟨fun _ => ?_, fun hl => by omega⟩
    intro X2
    repeat (refine And.intro (by first | omega | trivial | (intros; omega)) ?_)
    intro X3
    repeat (refine And.intro (by first | omega | trivial | (intros; omega)) ?_)
    intro X4
    repeat (refine And.intro (by first | omega | trivial | (intros; omega)) ?_)
    have q : (bdD w h n k).map Bd.rc ++ [[.int .i64 lvi, .int .i64 1, .int .i64 (hlf w (lv + 1)), .int .i64 0, .int .i64 ((hlf w lv : Int) - hlf w (lv + 1)), .int .i64 (hlf h (lv + 1))], [.int .i64 lvi, .int .i64 2, .int .i64 0, .int .i64 (hlf h (lv + 1)), .int .i64 (hlf w (lv + 1)), .int .i64 ((hlf h lv : Int) - hlf h (lv + 1))], [.int .i64 lvi, .int .i64 3, .int .i64 (hlf w (lv + 1)), .int .i64 (hlf h (lv + 1)), .int .i64 ((hlf w lv : Int) - hlf w (lv + 1)), .int .i64 ((hlf h lv : Int) - hlf h (lv + 1))]] = (bdD w h n (k + 1)).map Bd.rc := by
      rw [bdD, List.map_append, show n - k = lv + 1 by omega]
      simp [bd3, Bd.rc, ← hlv]
    refine hK (k + 1, lv, X4 24 18) (show k + 1 + lv = n by omega) (show lv < lv + 1 by omega) _ _ (Sub.of (mkG 23 [(10, 10), (14, 18)]) ?_)
    simp -implicitDefEqProofs only [push_cast, false_implies, reduceCtorEq, Classical.not_not, Nat.reduceAdd, Nat.reduceSub, Nat.reduceMul, Nat.reduceLeDiff, Nat.reduceLT, Nat.reduceEqDiff, Nat.reduceBEq, Nat.reduceBNe, Int.reduceNeg, Int.reduceToNat, Bool.or_false, Bool.false_or, Bool.or_true, Bool.true_or, BEq.rfl, Bool.not_eq_true, Bool.not_eq_false, decide_eq_true_eq, not_true_eq_false, not_false_eq_true, ite_true, ite_false, List.append_nil, and_assoc, Nat.mul_zero, Nat.zero_mul, q]
    omega
  · obtain rfl : lv = 0 := by omega
    obtain rfl : k = n := by omega
    clear hK
    have hall : bnA w h k = bdD w h k k := by unfold bnA; rw [if_pos e]; simp only [Int.toNat_natCast]
    have hg2 : getBd ((bdD w h k k).map Bd.rc) = some (bdD w h k k) := getBd_map _
    have hle := bdD_length w h k k
    have hok := bdD_ok (w := w) (h := h) (n := k) (by omega) (by omega) k (Nat.le_refl _)
    simp -implicitDefEqProofs only [push_cast, false_implies, reduceCtorEq, Classical.not_not, Nat.reduceAdd, Nat.reduceSub, Nat.reduceMul, Nat.reduceLeDiff, Nat.reduceLT, Nat.reduceEqDiff, Nat.reduceBEq, Nat.reduceBNe, Int.reduceNeg, Int.reduceToNat, Bool.or_false, Bool.false_or, Bool.or_true, Bool.true_or, BEq.rfl, Bool.not_eq_true, Bool.not_eq_false, decide_eq_true_eq, not_true_eq_false, not_false_eq_true, ite_true, ite_false, List.append_nil, and_assoc, Nat.mul_zero, Nat.zero_mul, b26_1, r26_2, fs48, hg2, hle, Int.lt_irrefl, true_implies, true_and]
    refine ⟨by omega, hok, postF.mk' (fun _ => N) [some 14] ?_⟩
    have hL : bnL w h k = keptBd (bdD w h k k) := by unfold bnL; rw [hall]
    simp -implicitDefEqProofs only [push_cast, false_implies, reduceCtorEq, Classical.not_not, Nat.reduceAdd, Nat.reduceSub, Nat.reduceMul, Nat.reduceLeDiff, Nat.reduceLT, Nat.reduceEqDiff, Nat.reduceBEq, Nat.reduceBNe, Int.reduceNeg, Int.reduceToNat, Bool.or_false, Bool.false_or, Bool.or_true, Bool.true_or, BEq.rfl, Bool.not_eq_true, Bool.not_eq_false, decide_eq_true_eq, not_true_eq_false, not_false_eq_true, ite_true, ite_false, List.append_nil, and_assoc, Nat.mul_zero, Nat.zero_mul, fs26, bnZ, hL, hall, hle, e, if_true, lx]
def ent26 : Entry := spOf fs26 inv26
theorem e26 : EntryOk Try.prog 26 ent26 := entry_of ok26 inv26
@[push_cast] theorem ent26_app (us : List SV) (look : Look) (x : Nat → Xf.Loc) (k : Nat) : ent26 us look x k = spOf fs26 inv26 us look x k := rfl
theorem bd_keep {x : Bd} (h : x.ok) : (0 < x.w ∧ 0 < x.h) ↔ x.gone = false := by
  obtain ⟨h1, h2, h3, h4⟩ := h
  unfold Bd.gone
  rw [decide_eq_false_iff_not, Int.mul_eq_zero]
  omega
theorem kept_take {l : List Bd} {i : Nat} (h : i < l.length) : keptBd (l.take (i + 1)) = keptBd (l.take i) ++ (if (rdBd l i).gone = false then [rdBd l i] else []) := by
  rw [List.take_succ_eq_append_getElem h, rdBd_nat h]
  unfold keptBd
  rw [List.filter_append]
  by_cases g : l[i].gone = false
  · rw [if_pos g]; simp [g]
  · rw [if_neg g]; simp [g]
def fs27 : FS where
  A := BnA
  args := fun a => [.int .i64 a.w, .int .i64 a.h, .int .i64 a.n]
  mem := fun _ => []
  pre := fun _ => True
  res := fun a x => .tup [.sl 0 (lx (0 < (bnL a.w a.h a.n).length) x 0) (esz 6 (bnL a.w a.h a.n).length) 0 (bnL a.w a.h a.n).length, .int .i64 (if bnOk a.w a.h a.n then 0 else 2)]
  out := fun _ _ => []
  new := fun a x => [(lx (0 < (bnL a.w a.h a.n).length) x 0, .recs 6 true [] ((bnL a.w a.h a.n).map Bd.rc))]
set_option maxHeartbeats 1000000 in
theorem ok27 : FSOk Try.prog 27 fs27 := by
  refine ⟨⟨_, Try.func27, by kernel_rfl, by kernel_rfl⟩, fun a => ⟨by simp [fs27, push_cast, noMine, argOwn, Chunk.frArg], by simp [fs27, push_cast, outOk, Chunk.ext], fun x => .inl (by simp [fs27, push_cast, frNew, frOut, Chunk.fr])⟩, fun a hp => ?_⟩
  obtain ⟨w, h, n⟩ := a
  change Tri Try.prog 27 [.int .i64 w, .int .i64 h, .int .i64 n] [] (postF fs27 ⟨w, h, n⟩)
  refine tri_evS (hyp (l := [(50, ent50)]) (lp := []) ⟨e50, trivial⟩ trivial) Try.func27 comp27 (rs := [.tmp 6, .tmp 7]) (by rfl) Try.ntmps27 33 ?_
  simp -implicitDefEqProofs only [push_cast, false_implies, reduceCtorEq, Classical.not_not, Nat.reduceAdd, Nat.reduceSub, Nat.reduceMul, Nat.reduceLeDiff, Nat.reduceLT, Nat.reduceEqDiff, Nat.reduceBEq, Nat.reduceBNe, Int.reduceNeg, Int.reduceToNat, Bool.or_false, Bool.false_or, Bool.or_true, Bool.true_or, BEq.rfl, Bool.not_eq_true, Bool.not_eq_false, decide_eq_true_eq, not_true_eq_false, not_false_eq_true, ite_true, ite_false, List.append_nil, and_assoc, Nat.mul_zero, Nat.zero_mul, ir27]
  refine ⟨fun hb => ?_, fun hg => ?_⟩
  · have e : ¬ bnOk w h n := fun H => by obtain ⟨q1, q2, q3, q4, q5, q6⟩ := H; omega
    have e1 : bnA w h n = [] := if_neg e
    have e2 : bnL w h n = [] := by unfold bnL; rw [e1]; rfl
    refine postF.mk' (fun _ => default) [none] ?_
    simp -implicitDefEqProofs only [push_cast, false_implies, reduceCtorEq, Classical.not_not, Nat.reduceAdd, Nat.reduceSub, Nat.reduceMul, Nat.reduceLeDiff, Nat.reduceLT, Nat.reduceEqDiff, Nat.reduceBEq, Nat.reduceBNe, Int.reduceNeg, Int.reduceToNat, Bool.or_false, Bool.false_or, Bool.or_true, Bool.true_or, BEq.rfl, Bool.not_eq_true, Bool.not_eq_false, decide_eq_true_eq, not_true_eq_false, not_false_eq_true, ite_true, ite_false, List.append_nil, and_assoc, Nat.mul_zero, Nat.zero_mul, fs27, e, e2, if_false, lx, List.length_nil, List.map_nil, Nat.lt_irrefl, esz]
  have e : bnOk w h n := by unfold bnOk; omega
  obtain ⟨q1, q2, q3, q4, q5, q6⟩ := id e
  obtain ⟨w, rfl⟩ : ∃ m : Nat, w = (m : Int) := ⟨w.toNat, by omega⟩
  obtain ⟨h, rfl⟩ : ∃ m : Nat, h = (m : Int) := ⟨h.toNat, by omega⟩
  obtain ⟨n, rfl⟩ : ∃ m : Nat, n = (m : Int) := ⟨n.toNat, by omega⟩
  simp -implicitDefEqProofs only [push_cast, false_implies, reduceCtorEq, Classical.not_not, Nat.reduceAdd, Nat.reduceSub, Nat.reduceMul, Nat.reduceLeDiff, Nat.reduceLT, Nat.reduceEqDiff, Nat.reduceBEq, Nat.reduceBNe, Int.reduceNeg, Int.reduceToNat, Bool.or_false, Bool.false_or, Bool.or_true, Bool.true_or, BEq.rfl, Bool.not_eq_true, Bool.not_eq_false, decide_eq_true_eq, not_true_eq_false, not_false_eq_true, ite_true, ite_false, List.append_nil, and_assoc, Nat.mul_zero, Nat.zero_mul, fs50, Int.toNat_natCast]
  repeat (refine And.intro (by first | omega | trivial | (intros; omega)) ?_)
  intro X
  repeat (refine And.intro (by first | omega | trivial | (intros; omega)) ?_)
  refine evS_loopU (A := Nat × Nat × Xf.Loc) kp27_1 kl27_1 (fun y => [(8, .sl 15 y.2.2 6 0 (bdN y.1)), (11, .int .i64 y.2.1)]) (fun y => [(15, .mine, y.2.2, .recs 6 true [] ((bdD w h n y.1).map Bd.rc))]) (fun y => y.1 + y.2.1 = n) (fun y => y.2.1) (0, n, X 6 15) (Nat.zero_add n) (Sub.pt ?_) ?_
  · simp -implicitDefEqProofs only [push_cast, false_implies, reduceCtorEq, Classical.not_not, Nat.reduceAdd, Nat.reduceSub, Nat.reduceMul, Nat.reduceLeDiff, Nat.reduceLT, Nat.reduceEqDiff, Nat.reduceBEq, Nat.reduceBNe, Int.reduceNeg, Int.reduceToNat, Bool.or_false, Bool.false_or, Bool.or_true, Bool.true_or, BEq.rfl, Bool.not_eq_true, Bool.not_eq_false, decide_eq_true_eq, not_true_eq_false, not_false_eq_true, ite_true, ite_false, List.append_nil, and_assoc, Nat.mul_zero, Nat.zero_mul, bdD, bd0, Bd.rc, List.map_cons, List.map_nil, Nat.mul_zero, show bdN 0 = 1 from rfl]
  rintro ⟨k, lv, N⟩ (hk : k + lv = n) K hK
  have hlen : ((bdD w h n k).map Bd.rc).length = bdN k := by rw [List.length_map, bdD_length]
  have hN3 : bdN k = 1 + 3 * k := rfl
  have hN4 : bdN (k + 1) = 1 + 3 * (k + 1) := rfl
  by_cases h0 : 0 < lv
  · obtain ⟨lv, rfl⟩ : ∃ i, lv = i + 1 := ⟨lv - 1, by omega⟩
    have e1 : ((lv + 1 : Nat) : Int) - 1 = (lv : Int) := by omega
    have b1 := hlf_le w lv
    have b2 := hlf_le h lv
    have b3 := hlf_mono w lv
    have b4 := hlf_mono h lv
    generalize hlv : ((lv + 1 : Nat) : Int) = lvi at e1
    have en : lvi.toNat = lv + 1 := by omega
    simp -implicitDefEqProofs only [push_cast, false_implies, reduceCtorEq, Classical.not_not, Nat.reduceAdd, Nat.reduceSub, Nat.reduceMul, Nat.reduceLeDiff, Nat.reduceLT, Nat.reduceEqDiff, Nat.reduceBEq, Nat.reduceBNe, Int.reduceNeg, Int.reduceToNat, Bool.or_false, Bool.false_or, Bool.or_true, Bool.true_or, BEq.rfl, Bool.not_eq_true, Bool.not_eq_false, decide_eq_true_eq, not_true_eq_false, not_false_eq_true, ite_true, ite_false, List.append_nil, and_assoc, Nat.mul_zero, Nat.zero_mul, b27_1, r27_4, fs50, hlv, e1, en, hlen, Int.toNat_natCast, List.length_append, List.length_cons, List.length_nil]
    refine ⟨fun _ => ?_, fun hl => by omega⟩
    repeat (refine And.intro (by first | omega | trivial | (intros; omega)) ?_)
    intro X2
    repeat (refine And.intro (by first | omega | trivial | (intros; omega)) ?_)
    intro X3
    repeat (refine And.intro (by first | omega | trivial | (intros; omega)) ?_)
    intro X4
    repeat (refine And.intro (by first | omega | trivial | (intros; omega)) ?_)
    have q : (bdD w h n k).map Bd.rc ++ [[.int .i64 lvi, .int .i64 1, .int .i64 (hlf w (lv + 1)), .int .i64 0, .int .i64 ((hlf w lv : Int) - hlf w (lv + 1)), .int .i64 (hlf h (lv + 1))]] ++ [[.int .i64 lvi, .int .i64 2, .int .i64 0, .int .i64 (hlf h (lv + 1)), .int .i64 (hlf w (lv + 1)), .int .i64 ((hlf h lv : Int) - hlf h (lv + 1))]] ++ [[.int .i64 lvi, .int .i64 3, .int .i64 (hlf w (lv + 1)), .int .i64 (hlf h (lv + 1)), .int .i64 ((hlf w lv : Int) - hlf w (lv + 1)), .int .i64 ((hlf h lv : Int) - hlf h (lv + 1))]] = (bdD w h n (k + 1)).map Bd.rc := by
      rw [bdD, List.map_append, show n - k = lv + 1 by omega]
      simp [bd3, Bd.rc, ← hlv]
    refine hK (k + 1, lv, X4 12 29) (show k + 1 + lv = n by omega) (show lv < lv + 1 by omega) _ _ (Sub.of (mkG 33 [(14, 14), (15, 29)]) ?_)
    simp -implicitDefEqProofs only [push_cast, false_implies, reduceCtorEq, Classical.not_not, Nat.reduceAdd, Nat.reduceSub, Nat.reduceMul, Nat.reduceLeDiff, Nat.reduceLT, Nat.reduceEqDiff, Nat.reduceBEq, Nat.reduceBNe, Int.reduceNeg, Int.reduceToNat, Bool.or_false, Bool.false_or, Bool.or_true, Bool.true_or, BEq.rfl, Bool.not_eq_true, Bool.not_eq_false, decide_eq_true_eq, not_true_eq_false, not_false_eq_true, ite_true, ite_false, List.append_nil, and_assoc, Nat.mul_zero, Nat.zero_mul, q]
    omega
  · obtain rfl : lv = 0 := by omega
    obtain rfl : k = n := by omega
    clear hK
    have hall : bnA w h k = bdD w h k k := by unfold bnA; rw [if_pos e]; simp only [Int.toNat_natCast]
    have hle := bdD_length w h k k
    have hok := bdD_ok (w := w) (h := h) (n := k) (by omega) (by omega) k (Nat.le_refl _)
    have hL : bnL w h k = keptBd (bdD w h k k) := by unfold bnL; rw [hall]
    generalize bdD w h k k = l at hlen hle hok hL
    have hz : ¬ (1 : Int) ≤ 0 := by decide
    simp -implicitDefEqProofs only [push_cast, false_implies, reduceCtorEq, Classical.not_not, Nat.reduceAdd, Nat.reduceSub, Nat.reduceMul, Nat.reduceLeDiff, Nat.reduceLT, Nat.reduceEqDiff, Nat.reduceBEq, Nat.reduceBNe, Int.reduceNeg, Int.reduceToNat, Bool.or_false, Bool.false_or, Bool.or_true, Bool.true_or, BEq.rfl, Bool.not_eq_true, Bool.not_eq_false, decide_eq_true_eq, not_true_eq_false, not_false_eq_true, ite_true, ite_false, List.append_nil, and_assoc, Nat.mul_zero, Nat.zero_mul, b27_1, r27_4, hz, true_implies, true_and]
    refine evS_loopU (A := Nat × Xf.Loc) kp27_2 kl27_2 (fun y => [(16, .sl 32 y.2 (esz 6 (keptBd (l.take y.1)).length) 0 (keptBd (l.take y.1)).length), (110, .int .i64 y.1)]) (fun y => [(32, .mine, y.2, .recs 6 true [] ((keptBd (l.take y.1)).map Bd.rc))])
      (fun y => y.1 ≤ l.length ∧ ((keptBd (l.take y.1)).length = 0 → y.2 = nilLoc)) (fun y => l.length - y.1) (0, nilLoc) ⟨Nat.zero_le _, fun _ => rfl⟩ (Sub.pt ?_) ?_
    · simp -implicitDefEqProofs only [push_cast, false_implies, reduceCtorEq, Classical.not_not, Nat.reduceAdd, Nat.reduceSub, Nat.reduceMul, Nat.reduceLeDiff, Nat.reduceLT, Nat.reduceEqDiff, Nat.reduceBEq, Nat.reduceBNe, Int.reduceNeg, Int.reduceToNat, Bool.or_false, Bool.false_or, Bool.or_true, Bool.true_or, BEq.rfl, Bool.not_eq_true, Bool.not_eq_false, decide_eq_true_eq, not_true_eq_false, not_false_eq_true, ite_true, ite_false, List.append_nil, and_assoc, Nat.mul_zero, Nat.zero_mul, List.take_zero, keptBd, List.filter_nil, List.length_nil, List.map_nil, esz]
    rintro ⟨i, N2⟩ ⟨(hi : i ≤ l.length), (hN : (keptBd (l.take i)).length = 0 → N2 = nilLoc)⟩ K2 hK2
    by_cases hi' : i < l.length
    · have r1 := recAt_Bd' (l := l) (i := (i : Int)) (by omega) (by omega) []
      have o1 := hok _ (rdBd_mem hi')
      have kt := kept_take hi'
      obtain ⟨x, hx⟩ : ∃ x, rdBd l (i : Int) = x := ⟨_, rfl⟩
      rw [hx] at r1 o1 kt
      have kp := bd_keep o1
      obtain ⟨lv, kd, x, y, w', h'⟩ := x
      simp only at kp
      simp -implicitDefEqProofs only [push_cast, false_implies, reduceCtorEq, Classical.not_not, Nat.reduceAdd, Nat.reduceSub, Nat.reduceMul, Nat.reduceLeDiff, Nat.reduceLT, Nat.reduceEqDiff, Nat.reduceBEq, Nat.reduceBNe, Int.reduceNeg, Int.reduceToNat, Bool.or_false, Bool.false_or, Bool.or_true, Bool.true_or, BEq.rfl, Bool.not_eq_true, Bool.not_eq_false, decide_eq_true_eq, not_true_eq_false, not_false_eq_true, ite_true, ite_false, List.append_nil, and_assoc, Nat.mul_zero, Nat.zero_mul, b27_2, r27_3, r1, Bd.rc, hlen, hle, List.length_map]
      refine ⟨fun _ => ?_, fun hl => by omega⟩
      intro X1
      have hkl := keptBd_le (l.take i)
      rw [List.length_take] at hkl
      repeat (refine And.intro (by first | omega | trivial | (intros; omega)) ?_)
      refine ⟨fun hc => ?_, fun hc => ?_⟩
      · rw [if_pos (kp.1 hc)] at kt
        intro X2
        repeat (refine And.intro (by first | omega | trivial | (intros; omega)) ?_)
        refine hK2 (i + 1, X2 3 32) ⟨show i + 1 ≤ l.length by omega, fun q => ?_⟩ (show l.length - (i + 1) < l.length - i by omega) _ _ (Sub.pt ?_)
        · simp only [kt, List.length_append, List.length_cons, List.length_nil] at q; omega
        · have q : (keptBd (l.take i)).map Bd.rc ++ [[.int .i64 lv, .int .i64 kd, .int .i64 x, .int .i64 y, .int .i64 w', .int .i64 h']] = (keptBd (l.take (i + 1))).map Bd.rc := by rw [kt, List.map_append]; rfl
          have q2 : (keptBd (l.take (i + 1))).length = (keptBd (l.take i)).length + 1 := by rw [kt]; simp
          simp -implicitDefEqProofs only [push_cast, false_implies, reduceCtorEq, Classical.not_not, Nat.reduceAdd, Nat.reduceSub, Nat.reduceMul, Nat.reduceLeDiff, Nat.reduceLT, Nat.reduceEqDiff, Nat.reduceBEq, Nat.reduceBNe, Int.reduceNeg, Int.reduceToNat, Bool.or_false, Bool.false_or, Bool.or_true, Bool.true_or, BEq.rfl, Bool.not_eq_true, Bool.not_eq_false, decide_eq_true_eq, not_true_eq_false, not_false_eq_true, ite_true, ite_false, List.append_nil, and_assoc, Nat.mul_zero, Nat.zero_mul, q, q2, esz]
      · rw [if_neg (fun q => hc (kp.2 q)), List.append_nil] at kt
        repeat (refine And.intro (by first | omega | trivial | (intros; omega)) ?_)
        refine hK2 (i + 1, N2) ⟨show i + 1 ≤ l.length by omega, fun q => hN (by rw [← kt]; exact q)⟩ (show l.length - (i + 1) < l.length - i by omega) _ _ (Sub.pt ?_)
        simp -implicitDefEqProofs only [push_cast, false_implies, reduceCtorEq, Classical.not_not, Nat.reduceAdd, Nat.reduceSub, Nat.reduceMul, Nat.reduceLeDiff, Nat.reduceLT, Nat.reduceEqDiff, Nat.reduceBEq, Nat.reduceBNe, Int.reduceNeg, Int.reduceToNat, Bool.or_false, Bool.false_or, Bool.or_true, Bool.true_or, BEq.rfl, Bool.not_eq_true, Bool.not_eq_false, decide_eq_true_eq, not_true_eq_false, not_false_eq_true, ite_true, ite_false, List.append_nil, and_assoc, Nat.mul_zero, Nat.zero_mul, kt]
    · obtain rfl : i = l.length := by omega
      clear hK2
      rw [List.take_length] at hN ⊢
      simp -implicitDefEqProofs only [push_cast, false_implies, reduceCtorEq, Classical.not_not, Nat.reduceAdd, Nat.reduceSub, Nat.reduceMul, Nat.reduceLeDiff, Nat.reduceLT, Nat.reduceEqDiff, Nat.reduceBEq, Nat.reduceBNe, Int.reduceNeg, Int.reduceToNat, Bool.or_false, Bool.false_or, Bool.or_true, Bool.true_or, BEq.rfl, Bool.not_eq_true, Bool.not_eq_false, decide_eq_true_eq, not_true_eq_false, not_false_eq_true, ite_true, ite_false, List.append_nil, and_assoc, Nat.mul_zero, Nat.zero_mul, b27_2, r27_3, hle, Int.lt_irrefl, true_implies, true_and, not_false_eq_true]
      refine postF.mk' (fun _ => N2) [some 32] ?_
      by_cases h0 : 0 < (keptBd l).length
      · simp -implicitDefEqProofs only [push_cast, false_implies, reduceCtorEq, Classical.not_not, Nat.reduceAdd, Nat.reduceSub, Nat.reduceMul, Nat.reduceLeDiff, Nat.reduceLT, Nat.reduceEqDiff, Nat.reduceBEq, Nat.reduceBNe, Int.reduceNeg, Int.reduceToNat, Bool.or_false, Bool.false_or, Bool.or_true, Bool.true_or, BEq.rfl, Bool.not_eq_true, Bool.not_eq_false, decide_eq_true_eq, not_true_eq_false, not_false_eq_true, ite_true, ite_false, List.append_nil, and_assoc, Nat.mul_zero, Nat.zero_mul, fs27, hL, h0, e, if_true, lx]
      · obtain rfl := hN (by omega)
        simp -implicitDefEqProofs only [push_cast, false_implies, reduceCtorEq, Classical.not_not, Nat.reduceAdd, Nat.reduceSub, Nat.reduceMul, Nat.reduceLeDiff, Nat.reduceLT, Nat.reduceEqDiff, Nat.reduceBEq, Nat.reduceBNe, Int.reduceNeg, Int.reduceToNat, Bool.or_false, Bool.false_or, Bool.or_true, Bool.true_or, BEq.rfl, Bool.not_eq_true, Bool.not_eq_false, decide_eq_true_eq, not_true_eq_false, not_false_eq_true, ite_true, ite_false, List.append_nil, and_assoc, Nat.mul_zero, Nat.zero_mul, fs27, hL, h0, e, if_true, if_false, lx]
def ent27 : Entry := spOf fs27 inv26
theorem e27 : EntryOk Try.prog 27 ent27 := entry_of ok27 inv26
@[push_cast] theorem ent27_app (us : List SV) (look : Look) (x : Nat → Xf.Loc) (k : Nat) : ent27 us look x k = spOf fs27 inv26 us look x k := rfl
/-- Truths by their places. -/
def tabB (n : Nat) (f : Nat → Bool) : List Bool := (List.range n).map f
theorem tabB_length (n : Nat) (f : Nat → Bool) : (tabB n f).length = n := by simp [tabB]
theorem tabB_congr {n : Nat} {f g : Nat → Bool} (h : ∀ j, j < n → f j = g j) : tabB n f = tabB n g := List.map_congr_left fun j hj => h j (by simpa using hj)
theorem tabB_rep (n : Nat) (b : Bool) : List.replicate n b = tabB n (fun _ => b) := by
  apply List.ext_getElem (by simp [tabB])
  intro i h1 h2; simp [tabB]
theorem tabB_set {n i : Nat} (f : Nat → Bool) (c : Bool) : (tabB n f).set i c = tabB n (fun j => if j = i then c else f j) := by
  apply List.ext_getElem (by simp [tabB])
  intro j h1 h2
  simp only [tabB, List.getElem_set, List.getElem_map, List.getElem_range]
  by_cases e : j = i
  · subst e; simp
  · simp [e, Ne.symm e]
theorem rdB_tabB {n j : Nat} (h : j < n) (f : Nat → Bool) : rdB (tabB n f) (j : Int) = f j := by simp [rdB, tabB, h]
def cnt (n : Nat) (f : Nat → Bool) : Nat := (List.range n).countP f
theorem cnt_none (n : Nat) : cnt n (fun _ => false) = 0 := by simp [cnt]
theorem cnt_all {n : Nat} {f : Nat → Bool} (h : ∀ j, j < n → f j = true) : cnt n f = n := by
  unfold cnt
  have : (List.range n).countP f = (List.range n).length := List.countP_eq_length.2 fun j hj => h j (by simpa using hj)
  rw [this, List.length_range]
theorem cnt_le (n : Nat) (f : Nat → Bool) : cnt n f ≤ n := by
  have := List.countP_le_length (p := f) (l := List.range n)
  rwa [List.length_range] at this
theorem cnt_set {i : Nat} (f : Nat → Bool) (h0 : f i = false) : ∀ {n : Nat}, i < n → cnt n (fun j => if j = i then true else f j) = cnt n f + 1
  | 0, h => by omega
  | n + 1, h => by
    unfold cnt
    rw [List.range_succ, List.countP_append, List.countP_append]
    by_cases e : i = n
    · subst e
      have : (List.range i).countP (fun j => if j = i then true else f j) = (List.range i).countP f := by
        refine List.countP_congr fun j hj => ?_
        simp only [List.mem_range] at hj
        simp [show ¬ j = i by omega]
      rw [this]
      simp [h0]
    · have ih := cnt_set f h0 (n := n) (by omega)
      unfold cnt at ih
      rw [ih]
      simp [show ¬ n = i by omega]
      omega
def inBd (b : Bd) (r c : Int) : Bool := decide (b.x ≤ c ∧ c < b.x + b.w ∧ b.y ≤ r ∧ r < b.y + b.h)
def cov (l : List Bd) (r c : Int) : Nat := l.countP fun b => inBd b r c
theorem cov_app (l m : List Bd) (r c : Int) : cov (l ++ m) r c = cov l r c + cov m r c := List.countP_append
theorem cov_one (b : Bd) (r c : Int) : cov [b] r c = if b.x ≤ c ∧ c < b.x + b.w ∧ b.y ≤ r ∧ r < b.y + b.h then 1 else 0 := by
  unfold cov inBd
  by_cases h : b.x ≤ c ∧ c < b.x + b.w ∧ b.y ≤ r ∧ r < b.y + b.h <;> simp [h]
theorem cov_three (a b d : Bd) (r c : Int) : cov [a, b, d] r c = cov [a] r c + (cov [b] r c + cov [d] r c) := by
  rw [← cov_app, ← cov_app]; rfl
theorem three_sum {W H w h r c : Int} (h1 : 0 ≤ w) (h2 : w ≤ W) (h3 : 0 ≤ h) (h4 : h ≤ H) (hr : 0 ≤ r) (hc : 0 ≤ c) :
    (if r < h ∧ c < w then 1 else 0) + ((if w ≤ c ∧ c < w + (W - w) ∧ 0 ≤ r ∧ r < 0 + h then 1 else 0) + ((if 0 ≤ c ∧ c < 0 + w ∧ h ≤ r ∧ r < h + (H - h) then 1 else 0) + (if w ≤ c ∧ c < w + (W - w) ∧ h ≤ r ∧ r < h + (H - h) then 1 else 0))) = if r < H ∧ c < W then 1 else (0 : Nat) := by
  by_cases a : c < w <;> by_cases b : r < h <;> by_cases A : c < W <;> by_cases B : r < H <;>
    simp [a, b, A, B, hr, hc, show w ≤ c ↔ ¬ c < w by omega, show h ≤ r ↔ ¬ r < h by omega, show w + (W - w) = W by omega, show h + (H - h) = H by omega] <;> omega
theorem cov_down (w h n : Nat) (r c : Int) (hr : 0 ≤ r) (hc : 0 ≤ c) : ∀ k, k ≤ n → cov (bdD w h n k) r c = if r < hlf h (n - k) ∧ c < hlf w (n - k) then 1 else 0
  | 0, _ => by
    rw [bdD, cov_one]
    simp only [bd0, Nat.sub_zero, Int.zero_add, hr, hc, true_and]
    by_cases a : c < hlf w n <;> by_cases b : r < hlf h n <;> simp [a, b]
  | k + 1, hk => by
    obtain ⟨i, hi⟩ : ∃ i, n - k = i + 1 := ⟨n - k - 1, by omega⟩
    have hi2 : n - (k + 1) = i := by omega
    rw [bdD, cov_app, cov_down w h n r c hr hc k (by omega), hi, hi2, bd3, cov_three, cov_one, cov_one, cov_one]
    simp only [Nat.add_sub_cancel]
    exact three_sum (by omega) (by have := hlf_mono w i; omega) (by omega) (by have := hlf_mono h i; omega) hr hc
theorem gone_out {b : Bd} (h : b.gone = true) (hk : b.ok) (r c : Int) : inBd b r c = false := by
  obtain ⟨h1, h2, h3, h4⟩ := hk
  unfold Bd.gone at h
  rw [decide_eq_true_eq, Int.mul_eq_zero] at h
  unfold inBd
  rw [decide_eq_false_iff_not]
  omega
theorem cov_kept {l : List Bd} (hl : ∀ x ∈ l, x.ok) (r c : Int) : cov (keptBd l) r c = cov l r c := by
  unfold cov keptBd
  rw [List.countP_filter]
  refine List.countP_congr fun b hb => ?_
  cases hg : b.gone with
  | false => simp
  | true => simp [gone_out hg (hl b hb) r c]
theorem cov_all {w h n : Nat} (hw : w ≤ 200) (hh : h ≤ 200) (r c : Nat) (hr : r < h) (hc : c < w) : cov (keptBd (bdD w h n n)) r c = 1 := by
  rw [cov_kept (bdD_ok hw hh n (Nat.le_refl n)), cov_down w h n r c (by omega) (by omega) n (Nat.le_refl n), Nat.sub_self, if_pos]
  simp only [hlf]; omega
/-- Within the plane. -/
theorem kept_in {w h n : Nat} (hw : w ≤ 200) (hh : h ≤ 200) {b : Bd} (hb : b ∈ keptBd (bdD w h n n)) : 0 ≤ b.x ∧ 0 ≤ b.y ∧ 1 ≤ b.w ∧ 1 ≤ b.h ∧ b.x + b.w ≤ w ∧ b.y + b.h ≤ h := by
  have hm : b ∈ bdD w h n n ∧ b.gone = false := by
    unfold keptBd at hb
    rw [List.mem_filter] at hb
    exact ⟨hb.1, by simpa using hb.2⟩
  have ho := bdD_ok hw hh n (Nat.le_refl n) b hm.1
  have hp := (bd_keep ho).2 hm.2
  have key : ∀ k, k ≤ n → ∀ x ∈ bdD w h n k, 0 ≤ x.x ∧ 0 ≤ x.y ∧ x.x + x.w ≤ w ∧ x.y + x.h ≤ h := by
    intro k
    induction k with
    | zero =>
      intro _ x hx
      have b1 := hlf_le w n
      have b2 := hlf_le h n
      simp only [bdD, List.mem_singleton] at hx
      subst hx
      simp only [bd0]; omega
    | succ k ih =>
      intro hk x hx
      rw [bdD, List.mem_append] at hx
      rcases hx with hx | hx
      · exact ih (by omega) x hx
      · obtain ⟨i, hi⟩ : ∃ i, n - k = i + 1 := ⟨n - k - 1, by omega⟩
        rw [hi] at hx
        have b1 := hlf_le w i
        have b2 := hlf_le h i
        have b3 := hlf_mono w i
        have b4 := hlf_mono h i
        simp only [bd3, Nat.add_sub_cancel, List.mem_cons, List.not_mem_nil, or_false] at hx
        rcases hx with rfl | rfl | rfl <;> simp only <;> omega
  have := key n (Nat.le_refl n) b hm.1
  omega
/-- Which places have been seen: those of the first bands, and of a part of one. -/
def seenF (w : Nat) (l : List Bd) (i : Nat) (y x : Int) (k : Nat) : Bool :=
  let r : Int := ((k / w : Nat) : Int); let c : Int := ((k % w : Nat) : Int)
  decide (0 < cov (l.take i) r c) || (inBd (rdBd l i) r c && decide (r < y ∨ r = y ∧ c < x))
theorem cov_take {l : List Bd} {i : Nat} (h : i < l.length) (r c : Int) : cov (l.take (i + 1)) r c = cov (l.take i) r c + (if inBd (rdBd l i) r c = true then 1 else 0) := by
  rw [List.take_succ_eq_append_getElem h, cov_app, rdBd_nat h]
  unfold cov
  by_cases e : inBd l[i] r c = true <;> simp [e]
theorem cov_take_le (l : List Bd) (i : Nat) (r c : Int) : cov (l.take i) r c ≤ cov l r c := by
  have : l = l.take i ++ l.drop i := (List.take_append_drop i l).symm
  conv => rhs; rw [this]
  rw [cov_app]; omega
def covF (w : Nat) (l : List Bd) (i : Nat) (k : Nat) : Bool := decide (0 < cov (l.take i) ((k / w : Nat) : Int) ((k % w : Nat) : Int))
section
variable {w h n : Nat} {l : List Bd} (hl : ∀ r c : Nat, r < h → c < w → cov l r c = 1) {i : Nat} (hi : i < l.length)
theorem seen_first (h0 : 0 < w) {b : Bd} (hb : rdBd l i = b) (hn : n = h * w) : tabB n (covF w l i) = tabB n (seenF w l i b.y b.x) := by
  refine tabB_congr fun k hk => ?_
  unfold covF seenF
  subst hb
  simp only
  cases hin : inBd (rdBd l i) ((k / w : Nat) : Int) ((k % w : Nat) : Int) with
  | false => simp
  | true =>
    unfold inBd at hin
    rw [decide_eq_true_eq] at hin
    rw [decide_eq_false (p := ((k / w : Nat) : Int) < (rdBd l i).y ∨ ((k / w : Nat) : Int) = (rdBd l i).y ∧ ((k % w : Nat) : Int) < (rdBd l i).x) (by omega)]
    simp
include hl hi in
theorem seen_free {b : Bd} (hb : rdBd l i = b) {y x : Nat} (hy : y < h) (hx : x < w) (hin : inBd b y x = true) : seenF w l i y x (y * w + x) = false := by
  have hd : (y * w + x) / w = y := by rw [Nat.mul_comm, Nat.mul_add_div (by omega), Nat.div_eq_of_lt hx, Nat.add_zero]
  have hm : (y * w + x) % w = x := by rw [Nat.mul_comm, Nat.mul_add_mod, Nat.mod_eq_of_lt hx]
  unfold seenF
  subst hb
  simp only [hd, hm]
  have h1 := hl y x hy hx
  have h2 := cov_take hi y x
  have h3 := cov_take_le l (i + 1) y x
  rw [if_pos hin] at h2
  rw [decide_eq_false (by omega), decide_eq_false (by omega)]
  simp
theorem seen_set (h0 : 0 < w) {b : Bd} (hb : rdBd l i = b) {y x : Nat} (hy : y < h) (hx : x < w) (hin : inBd b y x = true) (hn : n = h * w) :
    (tabB n (seenF w l i y x)).set (y * w + x) true = tabB n (seenF w l i y ((x : Int) + 1)) := by
  have hd : (y * w + x) / w = y := by rw [Nat.mul_comm, Nat.mul_add_div (by omega), Nat.div_eq_of_lt hx, Nat.add_zero]
  have hm : (y * w + x) % w = x := by rw [Nat.mul_comm, Nat.mul_add_mod, Nat.mod_eq_of_lt hx]
  rw [tabB_set]
  refine tabB_congr fun k hk => ?_
  subst hb
  by_cases e : k = y * w + x
  · rw [if_pos e]
    subst e
    unfold seenF
    simp only [hd, hm, hin, Bool.true_and]
    rw [decide_eq_true (p := (y : Int) < y ∨ True ∧ (x : Int) < (x : Int) + 1) (.inr ⟨trivial, by omega⟩), Bool.or_true]
  · rw [if_neg e]
    have hne : ¬ (k / w = y ∧ k % w = x) := fun ⟨a, b⟩ => e (by rw [← a, ← b]; exact place)
    unfold seenF
    simp only
    congr 2
    rw [decide_eq_decide]
    omega
theorem seen_row {b : Bd} (hb : rdBd l i = b) (y : Int) (h1 : 0 ≤ b.w) : tabB n (seenF w l i y (b.x + b.w)) = tabB n (seenF w l i (y + 1) b.x) := by
  refine tabB_congr fun k hk => ?_
  subst hb
  unfold seenF
  simp only
  cases hin : inBd (rdBd l i) ((k / w : Nat) : Int) ((k % w : Nat) : Int) with
  | false => simp
  | true =>
    unfold inBd at hin
    rw [decide_eq_true_eq] at hin
    congr 2
    rw [decide_eq_decide]
    omega
include hi in
theorem seen_last {b : Bd} (hb : rdBd l i = b) : tabB n (seenF w l i (b.y + b.h) b.x) = tabB n (covF w l (i + 1)) := by
  refine tabB_congr fun k hk => ?_
  subst hb
  unfold seenF covF
  have h2 := cov_take hi ((k / w : Nat) : Int) ((k % w : Nat) : Int)
  simp only
  cases hin : inBd (rdBd l i) ((k / w : Nat) : Int) ((k % w : Nat) : Int) with
  | false =>
    rw [hin, if_neg (by decide), Nat.add_zero] at h2
    rw [h2]; simp
  | true =>
    rw [hin, if_pos rfl] at h2
    unfold inBd at hin
    rw [decide_eq_true_eq] at hin
    rw [decide_eq_true (p := ((k / w : Nat) : Int) < (rdBd l i).y + (rdBd l i).h ∨ ((k / w : Nat) : Int) = (rdBd l i).y + (rdBd l i).h ∧ ((k % w : Nat) : Int) < (rdBd l i).x) (by omega), decide_eq_true (p := 0 < cov (l.take (i + 1)) ((k / w : Nat) : Int) ((k % w : Nat) : Int)) (by omega)]
    simp
include hl in
theorem seen_all (hn : n = h * w) : cnt n (covF w l l.length) = n := by
  refine cnt_all fun k hk => ?_
  subst hn
  unfold covF
  rw [List.take_length, hl (k / w) (k % w) (Nat.div_lt_of_lt_mul (by rw [Nat.mul_comm]; exact hk)) (Nat.mod_lt _ (Nat.pos_of_ne_zero fun e => by subst e; rw [Nat.mul_zero] at hk; omega))]
  simp
end
theorem cnt_tab {n : Nat} {f g : Nat → Bool} (h : tabB n f = tabB n g) : cnt n f = cnt n g := by
  unfold cnt
  refine List.countP_congr fun j hj => ?_
  have hj : j < n := by simpa using hj
  rw [← rdB_tabB hj f, ← rdB_tabB hj g, h]
def b6_3 : IR :=
  .seq (.seq (.reg false [⟨some 84, none, ⟨[], []⟩, .mov (.t 16)⟩,
    ⟨some 85, none, ⟨[], []⟩, .fld (.t 14) 2⟩,
    ⟨some 86, none, ⟨[], []⟩, .ld false none 0 0 (.t 85)⟩,
    ⟨some 87, none, ⟨[], []⟩, .fld (.t 14) 4⟩,
    ⟨some 88, none, ⟨[], []⟩, .ld false none 0 0 (.t 87)⟩,
    ⟨some 89, none, ⟨[], []⟩, .bin 0 .add (.t 86) (.t 88)⟩,
    ⟨some 90, none, ⟨[], []⟩, .bin 0 .lss (.t 84) (.t 89)⟩] [84, 85, 86, 87, 88, 89] []) (.cond (.t 90) (.skip) (.exit 4))) (.seq (.block 5 (.seq (.seq (.reg false [⟨some 93, none, ⟨[], []⟩, .mov (.t 11)⟩,
    ⟨some 94, none, ⟨[], []⟩, .mov (.t 15)⟩,
    ⟨some 95, none, ⟨[], []⟩, .mov (.t 0)⟩,
    ⟨some 96, none, ⟨[], []⟩, .bin 0 .mul (.t 94) (.t 95)⟩,
    ⟨some 97, none, ⟨[], []⟩, .mov (.t 16)⟩,
    ⟨some 98, none, ⟨[], []⟩, .bin 0 .add (.t 96) (.t 97)⟩,
    ⟨some 99, none, ⟨[], []⟩, .idxS (.t 93) (.t 98) 1⟩,
    ⟨some 100, none, ⟨[], []⟩, .ld true none 0 0 (.t 99)⟩] [90, 93, 94, 95, 96, 97, 98, 99] []) (.cond (.t 100) (.seq (.reg false [⟨some 6, none, ⟨[], []⟩, .mov (.k (.bool false))⟩] [0, 1, 9, 11, 12, 14, 15, 16, 48, 49, 50, 100] []) (.ret)) (.skip))) (.seq (.reg false [⟨some 101, none, ⟨[], []⟩, .mov (.t 11)⟩,
    ⟨some 102, none, ⟨[], []⟩, .mov (.t 15)⟩,
    ⟨some 103, none, ⟨[], []⟩, .mov (.t 0)⟩,
    ⟨some 104, none, ⟨[], []⟩, .bin 0 .mul (.t 102) (.t 103)⟩,
    ⟨some 105, none, ⟨[], []⟩, .mov (.t 16)⟩,
    ⟨some 106, none, ⟨[], []⟩, .bin 0 .add (.t 104) (.t 105)⟩,
    ⟨some 107, none, ⟨[], []⟩, .idxS (.t 101) (.t 106) 1⟩,
    ⟨none, none, ⟨[], []⟩, .sto true 1 .i64 (.t 107) (.k (.bool true))⟩] [6, 100, 101, 102, 103, 104, 105, 106, 107] []) (.reg false [⟨some 108, none, ⟨[], []⟩, .mov (.t 12)⟩,
    ⟨some 109, none, ⟨[], []⟩, .bin 0 .add (.t 108) (.k (.int .i64 1))⟩,
    ⟨some 12, none, ⟨[], []⟩, .mov (.t 109)⟩] [108, 109] [])))) (.reg false [⟨some 91, none, ⟨[], []⟩, .mov (.t 16)⟩,
    ⟨some 92, none, ⟨[], []⟩, .bin 0 .add (.t 91) (.k (.int .i64 1))⟩,
    ⟨some 16, none, ⟨[], []⟩, .mov (.t 92)⟩] [91, 92] []))
def r6_4 : IR :=
  .reg false [⟨some 80, none, ⟨[], []⟩, .mov (.t 15)⟩,
    ⟨some 81, none, ⟨[], []⟩, .bin 0 .add (.t 80) (.k (.int .i64 1))⟩,
    ⟨some 15, none, ⟨[], []⟩, .mov (.t 81)⟩] [16, 80, 81] []
def b6_2 : IR :=
  .seq (.seq (.reg false [⟨some 73, none, ⟨[], []⟩, .mov (.t 15)⟩,
    ⟨some 74, none, ⟨[], []⟩, .fld (.t 14) 3⟩,
    ⟨some 75, none, ⟨[], []⟩, .ld false none 0 0 (.t 74)⟩,
    ⟨some 76, none, ⟨[], []⟩, .fld (.t 14) 5⟩,
    ⟨some 77, none, ⟨[], []⟩, .ld false none 0 0 (.t 76)⟩,
    ⟨some 78, none, ⟨[], []⟩, .bin 0 .add (.t 75) (.t 77)⟩,
    ⟨some 79, none, ⟨[], []⟩, .bin 0 .lss (.t 73) (.t 78)⟩] [73, 74, 75, 76, 77, 78] []) (.cond (.t 79) (.skip) (.exit 2))) (.seq (.block 3 (.seq (.reg false [⟨some 82, none, ⟨[], []⟩, .fld (.t 14) 2⟩,
    ⟨some 83, none, ⟨[], []⟩, .ld false none 0 0 (.t 82)⟩,
    ⟨some 16, none, ⟨[], []⟩, .mov (.t 83)⟩] [79, 82, 83] []) (.block 4 (.loop b6_3)))) (r6_4))
def r6_5 : IR :=
  .reg false [⟨some 110, none, ⟨[], []⟩, .bin 0 .add (.t 50) (.k (.int .i64 1))⟩,
    ⟨some 50, none, ⟨[], []⟩, .mov (.t 110)⟩] [14, 15, 110] []
def b6_1 : IR :=
  .seq (.reg false [⟨some 51, none, ⟨[], []⟩, .bin 0 .lss (.t 50) (.t 49)⟩] [] []) (.seq (.cond (.t 51) (.skip) (.exit 0)) (.seq (.block 1 (.seq (.reg false [⟨some 52, none, ⟨[], []⟩, .mov (.t 50)⟩,
    ⟨some 53, none, ⟨[], []⟩, .idxS (.t 48) (.t 50) 6⟩,
    ⟨some 54, none, ⟨[], []⟩, .ld true (some 6) 0 0 (.t 53)⟩,
    ⟨some 14, none, ⟨[], []⟩, .alloc 23 [.int .i64 0, .int .i64 0, .int .i64 0, .int .i64 0, .int .i64 0, .int .i64 0]⟩,
    ⟨some 13, none, ⟨[], []⟩, .mov (.t 52)⟩,
    ⟨none, none, ⟨[], []⟩, .sto false 6 .i64 (.t 14) (.t 54)⟩] [51, 52, 53, 54] []) (.seq (.seq (.reg true [⟨some 55, none, ⟨[], []⟩, .ld false (some 6) 0 0 (.t 14)⟩,
    ⟨some 56, none, ⟨[], []⟩, .mov (.t 9)⟩,
    ⟨some 57, none, ⟨[], []⟩, .mov (.t 13)⟩,
    ⟨some 58, none, ⟨[], []⟩, .idxS (.t 56) (.t 57) 6⟩,
    ⟨some 59, none, ⟨[], []⟩, .ld true (some 6) 0 0 (.t 58)⟩,
    ⟨some 60, none, ⟨[], []⟩, .binA .neq [true, true, true, true, true, true] (.t 55) (.t 59)⟩,
    ⟨some 61, none, ⟨[], []⟩, .mov (.t 60)⟩,
    ⟨some 62, some (61, false), ⟨[], []⟩, .fld (.t 14) 4⟩,
    ⟨some 63, some (61, false), ⟨[], []⟩, .ld false none 0 0 (.t 62)⟩,
    ⟨some 64, some (61, false), ⟨[], []⟩, .bin 0 .lss (.t 63) (.k (.int .i64 1))⟩,
    ⟨some 65, none, ⟨[], []⟩, .pick (.t 61) (.k (.bool true)) (.t 64)⟩,
    ⟨some 66, none, ⟨[], []⟩, .mov (.t 65)⟩,
    ⟨some 67, some (66, false), ⟨[], []⟩, .fld (.t 14) 5⟩,
    ⟨some 68, some (66, false), ⟨[], []⟩, .ld false none 0 0 (.t 67)⟩,
    ⟨some 69, some (66, false), ⟨[], []⟩, .bin 0 .lss (.t 68) (.k (.int .i64 1))⟩,
    ⟨some 70, none, ⟨[], []⟩, .pick (.t 66) (.k (.bool true)) (.t 69)⟩] [13, 55, 56, 57, 58, 59, 60, 61, 62, 63, 64, 65, 66, 67, 68, 69] []) (.cond (.t 70) (.seq (.reg false [⟨some 6, none, ⟨[], []⟩, .mov (.k (.bool false))⟩] [0, 1, 9, 11, 12, 14, 48, 49, 50, 70] []) (.ret)) (.skip))) (.seq (.reg false [⟨some 71, none, ⟨[], []⟩, .fld (.t 14) 3⟩,
    ⟨some 72, none, ⟨[], []⟩, .ld false none 0 0 (.t 71)⟩,
    ⟨some 15, none, ⟨[], []⟩, .mov (.t 72)⟩] [6, 70, 71, 72] []) (.block 2 (.loop b6_2)))))) (r6_5)))
def r6_6 : IR :=
  .seq (.reg false [⟨some 111, none, ⟨[], []⟩, .mov (.t 12)⟩,
    ⟨some 112, none, ⟨[], []⟩, .mov (.t 0)⟩,
    ⟨some 113, none, ⟨[], []⟩, .mov (.t 1)⟩,
    ⟨some 114, none, ⟨[], []⟩, .bin 0 .mul (.t 112) (.t 113)⟩,
    ⟨some 115, none, ⟨[], []⟩, .bin 0 .eql (.t 111) (.t 114)⟩,
    ⟨some 116, none, ⟨[], []⟩, .mov (.t 115)⟩,
    ⟨some 117, some (116, true), ⟨[], []⟩, .call (some 4) 24 13 []⟩,
    ⟨some 118, none, ⟨[], []⟩, .pick (.t 116) (.t 117) (.k (.bool false))⟩,
    ⟨some 6, none, ⟨[], []⟩, .mov (.t 118)⟩] [0, 1, 9, 11, 12, 48, 49, 50, 111, 112, 113, 114, 115, 116, 117, 118] []) (.ret)
def ir6 : IR :=
  .seq (.reg false [⟨some 6, none, ⟨[], []⟩, .mov (.k (.bool false))⟩] [6] []) (.seq (.reg false [⟨some 18, none, ⟨[], []⟩, .mov (.t 0)⟩,
    ⟨some 19, none, ⟨[], []⟩, .mov (.t 1)⟩,
    ⟨some 20, none, ⟨[], []⟩, .mov (.t 2)⟩,
    ⟨some 21, none, ⟨[], []⟩, .call (some 4) 10 26 [.t 18, .t 19, .t 20]⟩,
    ⟨some 17, none, ⟨[], []⟩, .mov (.t 21)⟩,
    ⟨some 22, none, ⟨[], []⟩, .ext (.t 17) 0⟩,
    ⟨some 23, none, ⟨[], []⟩, .ext (.t 17) 1⟩,
    ⟨some 7, none, ⟨[], []⟩, .mov (.t 22)⟩,
    ⟨some 8, none, ⟨[], []⟩, .mov (.t 23)⟩] [17, 18, 19, 20, 21, 22, 23] []) (.seq (.reg false [⟨some 25, none, ⟨[], []⟩, .mov (.t 0)⟩,
    ⟨some 26, none, ⟨[], []⟩, .mov (.t 1)⟩,
    ⟨some 27, none, ⟨[], []⟩, .mov (.t 2)⟩,
    ⟨some 28, none, ⟨[], []⟩, .call (some 4) 14 27 [.t 25, .t 26, .t 27]⟩,
    ⟨some 24, none, ⟨[], []⟩, .mov (.t 28)⟩,
    ⟨some 29, none, ⟨[], []⟩, .ext (.t 24) 0⟩,
    ⟨some 30, none, ⟨[], []⟩, .ext (.t 24) 1⟩,
    ⟨some 9, none, ⟨[], []⟩, .mov (.t 29)⟩,
    ⟨some 10, none, ⟨[], []⟩, .mov (.t 30)⟩] [2, 24, 25, 26, 27, 28, 29, 30] []) (.seq (.seq (.reg false [⟨some 31, none, ⟨[], []⟩, .mov (.t 8)⟩,
    ⟨some 32, none, ⟨[], []⟩, .mov (.t 10)⟩,
    ⟨some 33, none, ⟨[], []⟩, .bin 0 .neq (.t 31) (.t 32)⟩,
    ⟨some 34, none, ⟨[], []⟩, .mov (.t 33)⟩,
    ⟨some 35, some (34, false), ⟨[], []⟩, .mov (.t 7)⟩,
    ⟨some 36, some (34, false), ⟨[], []⟩, .len (.t 35)⟩,
    ⟨some 37, some (34, false), ⟨[], []⟩, .mov (.t 9)⟩,
    ⟨some 38, some (34, false), ⟨[], []⟩, .len (.t 37)⟩,
    ⟨some 39, some (34, false), ⟨[], []⟩, .bin 0 .neq (.t 36) (.t 38)⟩,
    ⟨some 40, none, ⟨[], []⟩, .pick (.t 34) (.k (.bool true)) (.t 39)⟩] [10, 31, 32, 33, 34, 35, 36, 37, 38, 39] []) (.cond (.t 40) (.seq (.reg false [⟨some 6, none, ⟨[], []⟩, .mov (.k (.bool false))⟩] [0, 1, 7, 8, 9, 40] []) (.ret)) (.skip))) (.seq (.seq (.reg false [⟨some 41, none, ⟨[], []⟩, .mov (.t 8)⟩,
    ⟨some 42, none, ⟨[], []⟩, .bin 0 .neq (.t 41) (.k (.int .i64 0))⟩] [6, 8, 40, 41] []) (.cond (.t 42) (.seq (.reg false [⟨some 43, none, ⟨[], []⟩, .call (some 4) 18 13 []⟩,
    ⟨some 6, none, ⟨[], []⟩, .mov (.t 43)⟩] [0, 1, 7, 9, 42, 43] []) (.ret)) (.skip))) (.seq (.reg false [⟨some 44, none, ⟨[], []⟩, .mov (.t 0)⟩,
    ⟨some 45, none, ⟨[], []⟩, .mov (.t 1)⟩,
    ⟨some 46, none, ⟨[], []⟩, .bin 0 .mul (.t 44) (.t 45)⟩,
    ⟨some 47, none, ⟨[], []⟩, .mks 22 (.bool false) 1 (.t 46) (.t 46)⟩,
    ⟨some 11, none, ⟨[], []⟩, .mov (.t 47)⟩] [6, 42, 44, 45, 46, 47] []) (.seq (.reg false [⟨some 12, none, ⟨[], []⟩, .mov (.k (.int .i64 0))⟩] [] []) (.seq (.seq (.reg false [⟨some 48, none, ⟨[], []⟩, .mov (.t 7)⟩,
    ⟨some 49, none, ⟨[], []⟩, .len (.t 48)⟩,
    ⟨some 50, none, ⟨[], []⟩, .mov (.k (.int .i64 0))⟩] [7] []) (.block 0 (.loop b6_1))) (r6_6))))))))
def kp6_3 : List Nat := [0, 1, 9, 11, 12, 14, 15, 16, 48, 49, 50]
def kl6_3 : List Nat := []
attribute [push_cast] kp6_3 kl6_3
def kp6_2 : List Nat := [0, 1, 9, 11, 12, 14, 15, 48, 49, 50]
def kl6_2 : List Nat := []
attribute [push_cast] kp6_2 kl6_2
def kp6_1 : List Nat := [0, 1, 9, 11, 12, 48, 49, 50]
def kl6_1 : List Nat := [23]
attribute [push_cast] kp6_1 kl6_1
set_option maxRecDepth 4000 in
theorem comp6 : (Try.f6.body.bind fun c => compC tab isP chkAll ir6 c) = some ir6 := by kernel_rfl
set_option maxHeartbeats 1000000 in
theorem tri6 (w h n : Int) : Tri Try.prog 6 [.int .i64 w, .int .i64 h, .int .i64 n] [] (fun v _ => v = .bool true) := by
  have hle := bnL_le w h n
  by_cases e : bnOk w h n
  · obtain ⟨q1, q2, q3, q4, q5, q6⟩ := id e
    obtain ⟨w, rfl⟩ : ∃ m : Nat, w = (m : Int) := ⟨w.toNat, by omega⟩
    obtain ⟨h, rfl⟩ : ∃ m : Nat, h = (m : Int) := ⟨h.toNat, by omega⟩
    obtain ⟨n, rfl⟩ : ∃ m : Nat, n = (m : Int) := ⟨n.toNat, by omega⟩
    have hL : bnL w h n = keptBd (bdD w h n n) := by unfold bnL bnA; rw [if_pos e]; simp only [Int.toNat_natCast]
    have hall : ∀ r c : Nat, r < h → c < w → cov (bnL w h n) r c = 1 := fun r c hr hc => by rw [hL]; exact cov_all (by omega) (by omega) r c hr hc
    have hin : ∀ b ∈ bnL w h n, 0 ≤ b.x ∧ 0 ≤ b.y ∧ 1 ≤ b.w ∧ 1 ≤ b.h ∧ b.x + b.w ≤ w ∧ b.y + b.h ≤ h := fun b hb => by rw [hL] at hb; exact kept_in (by omega) (by omega) hb
    have r1 : ∀ i : Nat, i < (bnL w h n).length → recAt (i : Int) [] (bnZ w h n) = (rdBd (bnL w h n) i).rc := fun i hi => recAt_Bd (by omega) (by omega) [] _
    have r2 : ∀ i : Nat, i < (bnL w h n).length → recAt (i : Int) [] ((bnL w h n).map Bd.rc) = (rdBd (bnL w h n) i).rc := fun i hi => recAt_Bd' (by omega) (by omega) []
    have zl : (bnL w h n).length ≤ (bnZ w h n).length := by unfold bnZ; simp
    have hm := mul_bd (a := (w : Int)) (b := (h : Int)) (A := 200) (B := 200) (by omega) (by omega) (by omega) (by omega)
    have em : ((w : Int) * h).toNat = h * w := by rw [← Int.natCast_mul, Int.toNat_natCast, Nat.mul_comm]
    have em2 : ((h * w : Nat) : Int) = (w : Int) * h := by rw [Nat.mul_comm]; simp
    generalize hbl : bnL w h n = l at hle hall hin r1 r2 zl
    generalize hbz : bnZ w h n = z at r1 zl
    refine tri_evS (hyp (l := [(13, ent13), (26, ent26), (27, ent27)]) (lp := []) ⟨e13, e26, e27, trivial⟩ trivial) Try.func6 comp6 (rs := [.tmp 6]) (by rfl) Try.ntmps6 28 ?_
    simp -implicitDefEqProofs only [push_cast, false_implies, reduceCtorEq, Classical.not_not, Nat.reduceAdd, Nat.reduceSub, Nat.reduceMul, Nat.reduceLeDiff, Nat.reduceLT, Nat.reduceEqDiff, Nat.reduceBEq, Nat.reduceBNe, Int.reduceNeg, Int.reduceToNat, Bool.or_false, Bool.false_or, Bool.or_true, Bool.true_or, BEq.rfl, Bool.not_eq_true, Bool.not_eq_false, decide_eq_true_eq, not_true_eq_false, not_false_eq_true, ite_true, ite_false, List.append_nil, and_assoc, Nat.mul_zero, Nat.zero_mul, ir6, fs13, fs26, fs27, e, hbl, hbz, if_true, true_implies, true_and, not_true_eq_false, and_true, em]
    intro X0 X1 X2
    repeat (refine And.intro (by first | omega | trivial | (intros; omega)) ?_)
    refine evS_loopU (A := Nat) kp6_1 kl6_1 (fun i => [(12, .int .i64 (cnt (h * w) (covF w l i))), (50, .int .i64 i)]) (fun i => [(22, .mine, X2 3 22, .bools (tabB (h * w) (covF w l i)))]) (fun i => i ≤ l.length) (fun i => l.length - i) 0 (Nat.zero_le _) (Sub.pt ?_) ?_
    · have c0 : tabB (h * w) (covF w l 0) = List.replicate (h * w) false := by
        rw [tabB_rep]; exact tabB_congr fun k _ => by unfold covF; simp [cov]
      have c1 : cnt (h * w) (covF w l 0) = 0 := by
        rw [cnt_tab (c0.trans (tabB_rep _ _))]; exact cnt_none _
      simp -implicitDefEqProofs only [push_cast, false_implies, reduceCtorEq, Classical.not_not, Nat.reduceAdd, Nat.reduceSub, Nat.reduceMul, Nat.reduceLeDiff, Nat.reduceLT, Nat.reduceEqDiff, Nat.reduceBEq, Nat.reduceBNe, Int.reduceNeg, Int.reduceToNat, Bool.or_false, Bool.false_or, Bool.or_true, Bool.true_or, BEq.rfl, Bool.not_eq_true, Bool.not_eq_false, decide_eq_true_eq, not_true_eq_false, not_false_eq_true, ite_true, ite_false, List.append_nil, and_assoc, Nat.mul_zero, Nat.zero_mul, c0, c1]
    intro i (hi : i ≤ l.length) K hK
    by_cases hi' : i < l.length
    · have p1 := r1 i hi'
      have p2 := r2 i hi'
      have g0 := hin _ (rdBd_mem hi')
      have es : esz 6 l.length = 6 := esz_pos (by omega)
      obtain ⟨b, hb⟩ : ∃ b, rdBd l (i : Int) = b := ⟨_, rfl⟩
      have hb' : l[i] = b := by rw [← rdBd_nat hi', hb]
      rw [hb] at p1 p2 g0
      have hfirst := seen_first (w := w) (h := h) (l := l) (i := i) (by omega) hb rfl
      have hlast := seen_last (w := w) (n := h * w) hi' hb
      have hrow := fun y => seen_row (w := w) (n := h * w) hb y (by omega)
      have hfree := fun {y x : Nat} (hy : y < h) (hx : x < w) => seen_free (w := w) (h := h) hall hi' hb hy hx
      have hset := fun {y x : Nat} (hy : y < h) (hx : x < w) (hin : inBd b y x = true) => seen_set (w := w) (h := h) (by omega) hb hy hx hin rfl
      have hlm : (l.map Bd.rc).length = l.length := List.length_map _
      obtain ⟨lv, kd, bx, by', bw, bh⟩ := b
      obtain ⟨g1, g2, g3, g4, g5, g6⟩ := g0
      simp only at g1 g2 g3 g4 g5 g6 hfirst hlast hrow
      have b1 : ¬ bw < 1 := by omega
      have b2 : ¬ bh < 1 := by omega
      simp -implicitDefEqProofs only [push_cast, false_implies, reduceCtorEq, Classical.not_not, Nat.reduceAdd, Nat.reduceSub, Nat.reduceMul, Nat.reduceLeDiff, Nat.reduceLT, Nat.reduceEqDiff, Nat.reduceBEq, Nat.reduceBNe, Int.reduceNeg, Int.reduceToNat, Bool.or_false, Bool.false_or, Bool.or_true, Bool.true_or, BEq.rfl, Bool.not_eq_true, Bool.not_eq_false, decide_eq_true_eq, not_true_eq_false, not_false_eq_true, ite_true, ite_false, List.append_nil, and_assoc, Nat.mul_zero, Nat.zero_mul, b6_1, r6_5, r6_6, p1, p2, es, hlm, Bd.rc, b1, b2, eq_self, decide_true, Bool.and_self, Bool.not_true]
      refine ⟨fun _ => ?_, fun hl => by omega⟩
      intro X3
      repeat (refine And.intro (by first | omega | trivial | (intros; omega)) ?_)
      refine evS_loopU (A := Int) kp6_2 kl6_2 (fun y => [(12, .int .i64 (cnt (h * w) (seenF w l i y bx))), (15, .int .i64 y)]) (fun y => [(22, .mine, X2 3 22, .bools (tabB (h * w) (seenF w l i y bx)))]) (fun y => by' ≤ y ∧ y ≤ by' + bh) (fun y => (by' + bh - y).toNat) by' ⟨by omega, by omega⟩ (Sub.pt ?_) ?_
      · have c1 := cnt_tab hfirst
        simp -implicitDefEqProofs only [push_cast, false_implies, reduceCtorEq, Classical.not_not, Nat.reduceAdd, Nat.reduceSub, Nat.reduceMul, Nat.reduceLeDiff, Nat.reduceLT, Nat.reduceEqDiff, Nat.reduceBEq, Nat.reduceBNe, Int.reduceNeg, Int.reduceToNat, Bool.or_false, Bool.false_or, Bool.or_true, Bool.true_or, BEq.rfl, Bool.not_eq_true, Bool.not_eq_false, decide_eq_true_eq, not_true_eq_false, not_false_eq_true, ite_true, ite_false, List.append_nil, and_assoc, Nat.mul_zero, Nat.zero_mul, hfirst, c1]
      intro y ⟨hy1, hy2⟩ K2 hK2
      by_cases hy : y < by' + bh
      · simp -implicitDefEqProofs only [push_cast, false_implies, reduceCtorEq, Classical.not_not, Nat.reduceAdd, Nat.reduceSub, Nat.reduceMul, Nat.reduceLeDiff, Nat.reduceLT, Nat.reduceEqDiff, Nat.reduceBEq, Nat.reduceBNe, Int.reduceNeg, Int.reduceToNat, Bool.or_false, Bool.false_or, Bool.or_true, Bool.true_or, BEq.rfl, Bool.not_eq_true, Bool.not_eq_false, decide_eq_true_eq, not_true_eq_false, not_false_eq_true, ite_true, ite_false, List.append_nil, and_assoc, Nat.mul_zero, Nat.zero_mul, b6_2, r6_4]
        refine ⟨by omega, by omega, fun _ => ?_, fun hl => by omega⟩
        refine evS_loopU (A := Int) kp6_3 kl6_3 (fun x => [(12, .int .i64 (cnt (h * w) (seenF w l i y x))), (16, .int .i64 x)]) (fun x => [(22, .mine, X2 3 22, .bools (tabB (h * w) (seenF w l i y x)))]) (fun x => bx ≤ x ∧ x ≤ bx + bw) (fun x => (bx + bw - x).toNat) bx ⟨by omega, by omega⟩ (Sub.pt ?_) ?_
        · simp -implicitDefEqProofs only [push_cast, false_implies, reduceCtorEq, Classical.not_not, Nat.reduceAdd, Nat.reduceSub, Nat.reduceMul, Nat.reduceLeDiff, Nat.reduceLT, Nat.reduceEqDiff, Nat.reduceBEq, Nat.reduceBNe, Int.reduceNeg, Int.reduceToNat, Bool.or_false, Bool.false_or, Bool.or_true, Bool.true_or, BEq.rfl, Bool.not_eq_true, Bool.not_eq_false, decide_eq_true_eq, not_true_eq_false, not_false_eq_true, ite_true, ite_false, List.append_nil, and_assoc, Nat.mul_zero, Nat.zero_mul]
        intro x ⟨hx1, hx2⟩ K3 hK3
        by_cases hx : x < bx + bw
        · obtain ⟨yn, rfl⟩ : ∃ m : Nat, y = (m : Int) := ⟨y.toNat, by omega⟩
          obtain ⟨xn, rfl⟩ : ∃ m : Nat, x = (m : Int) := ⟨x.toNat, by omega⟩
          have hy3 : yn < h := by omega
          have hx3 : xn < w := by omega
          have hin3 : inBd ⟨lv, kd, bx, by', bw, bh⟩ yn xn = true := by unfold inBd; rw [decide_eq_true_eq]; simp only; omega
          have f1 := hfree hy3 hx3 hin3
          have f2 := hset hy3 hx3 hin3
          have ei : (yn : Int) * w + xn = ((yn * w + xn : Nat) : Int) := by simp
          have hlt : yn * w + xn < h * w := by
            have : (yn + 1) * w ≤ h * w := Nat.mul_le_mul_right _ hy3
            rw [Nat.add_mul] at this; omega
          have hmm := mul_bd (a := (yn : Int)) (b := (w : Int)) (A := 200) (B := 200) (by omega) (by omega) (by omega) (by omega)
          have f3 := rdB_tabB hlt (seenF w l i yn xn)
          rw [f1] at f3
          have f4 : cnt (h * w) (seenF w l i yn ((xn : Int) + 1)) = cnt (h * w) (seenF w l i yn xn) + 1 := by
            rw [tabB_set] at f2
            rw [← cnt_tab f2, cnt_set _ f1 hlt]
          have f5 := cnt_le (h * w) (seenF w l i yn xn)
          have f6 : ((h * w : Nat) : Int) ≤ 40000 := by rw [em2]; omega
          generalize hk : yn * w + xn = kk at ei f2 f3 hlt
          have hkk : ((kk : Nat) : Int) < (w : Int) * h := by rw [← em2]; omega
          simp -implicitDefEqProofs only [push_cast, false_implies, reduceCtorEq, Classical.not_not, Nat.reduceAdd, Nat.reduceSub, Nat.reduceMul, Nat.reduceLeDiff, Nat.reduceLT, Nat.reduceEqDiff, Nat.reduceBEq, Nat.reduceBNe, Int.reduceNeg, Int.reduceToNat, Bool.or_false, Bool.false_or, Bool.or_true, Bool.true_or, BEq.rfl, Bool.not_eq_true, Bool.not_eq_false, decide_eq_true_eq, not_true_eq_false, not_false_eq_true, ite_true, ite_false, List.append_nil, and_assoc, Nat.mul_zero, Nat.zero_mul, b6_3, ei, f3, tabB_length]
          refine ⟨by omega, by omega, fun _ => ?_, fun hl => by omega⟩
          have hkk2 : ((kk : Nat) : Int) < (h : Int) * w := by rw [Int.mul_comm]; exact hkk
          repeat (refine And.intro (by first | omega | trivial | (intros; omega)) ?_)
          refine hK3 ((xn : Int) + 1) ⟨by omega, by omega⟩ (by omega) _ _ (Sub.pt ?_)
          simp -implicitDefEqProofs only [push_cast, false_implies, reduceCtorEq, Classical.not_not, Nat.reduceAdd, Nat.reduceSub, Nat.reduceMul, Nat.reduceLeDiff, Nat.reduceLT, Nat.reduceEqDiff, Nat.reduceBEq, Nat.reduceBNe, Int.reduceNeg, Int.reduceToNat, Bool.or_false, Bool.false_or, Bool.or_true, Bool.true_or, BEq.rfl, Bool.not_eq_true, Bool.not_eq_false, decide_eq_true_eq, not_true_eq_false, not_false_eq_true, ite_true, ite_false, List.append_nil, and_assoc, Nat.mul_zero, Nat.zero_mul, Int.toNat_natCast, f2, f4]
        · obtain rfl : x = bx + bw := by omega
          clear hK3
          simp -implicitDefEqProofs only [push_cast, false_implies, reduceCtorEq, Classical.not_not, Nat.reduceAdd, Nat.reduceSub, Nat.reduceMul, Nat.reduceLeDiff, Nat.reduceLT, Nat.reduceEqDiff, Nat.reduceBEq, Nat.reduceBNe, Int.reduceNeg, Int.reduceToNat, Bool.or_false, Bool.false_or, Bool.or_true, Bool.true_or, BEq.rfl, Bool.not_eq_true, Bool.not_eq_false, decide_eq_true_eq, not_true_eq_false, not_false_eq_true, ite_true, ite_false, List.append_nil, and_assoc, Nat.mul_zero, Nat.zero_mul, b6_3, Int.lt_irrefl]
          repeat (refine And.intro (by first | omega | trivial | (intros; omega)) ?_)
          refine hK2 (y + 1) ⟨by omega, by omega⟩ (by omega) _ _ (Sub.pt ?_)
          have c1 := cnt_tab (hrow y)
          simp -implicitDefEqProofs only [push_cast, false_implies, reduceCtorEq, Classical.not_not, Nat.reduceAdd, Nat.reduceSub, Nat.reduceMul, Nat.reduceLeDiff, Nat.reduceLT, Nat.reduceEqDiff, Nat.reduceBEq, Nat.reduceBNe, Int.reduceNeg, Int.reduceToNat, Bool.or_false, Bool.false_or, Bool.or_true, Bool.true_or, BEq.rfl, Bool.not_eq_true, Bool.not_eq_false, decide_eq_true_eq, not_true_eq_false, not_false_eq_true, ite_true, ite_false, List.append_nil, and_assoc, Nat.mul_zero, Nat.zero_mul, hrow y, c1]
      · obtain rfl : y = by' + bh := by omega
        clear hK2
        simp -implicitDefEqProofs only [push_cast, false_implies, reduceCtorEq, Classical.not_not, Nat.reduceAdd, Nat.reduceSub, Nat.reduceMul, Nat.reduceLeDiff, Nat.reduceLT, Nat.reduceEqDiff, Nat.reduceBEq, Nat.reduceBNe, Int.reduceNeg, Int.reduceToNat, Bool.or_false, Bool.false_or, Bool.or_true, Bool.true_or, BEq.rfl, Bool.not_eq_true, Bool.not_eq_false, decide_eq_true_eq, not_true_eq_false, not_false_eq_true, ite_true, ite_false, List.append_nil, and_assoc, Nat.mul_zero, Nat.zero_mul, b6_2, r6_4, Int.lt_irrefl]
        repeat (refine And.intro (by first | omega | trivial | (intros; omega)) ?_)
        refine hK (i + 1) (by omega) (by omega) _ _ (Sub.pt ?_)
        have c1 := cnt_tab hlast
        simp -implicitDefEqProofs only [push_cast, false_implies, reduceCtorEq, Classical.not_not, Nat.reduceAdd, Nat.reduceSub, Nat.reduceMul, Nat.reduceLeDiff, Nat.reduceLT, Nat.reduceEqDiff, Nat.reduceBEq, Nat.reduceBNe, Int.reduceNeg, Int.reduceToNat, Bool.or_false, Bool.false_or, Bool.or_true, Bool.true_or, BEq.rfl, Bool.not_eq_true, Bool.not_eq_false, decide_eq_true_eq, not_true_eq_false, not_false_eq_true, ite_true, ite_false, List.append_nil, and_assoc, Nat.mul_zero, Nat.zero_mul, hlast, c1, es]
    · obtain rfl : i = l.length := by omega
      clear hK
      have hc := seen_all (n := h * w) hall rfl
      simp -implicitDefEqProofs only [push_cast, false_implies, reduceCtorEq, Classical.not_not, Nat.reduceAdd, Nat.reduceSub, Nat.reduceMul, Nat.reduceLeDiff, Nat.reduceLT, Nat.reduceEqDiff, Nat.reduceBEq, Nat.reduceBNe, Int.reduceNeg, Int.reduceToNat, Bool.or_false, Bool.false_or, Bool.or_true, Bool.true_or, BEq.rfl, Bool.not_eq_true, Bool.not_eq_false, decide_eq_true_eq, not_true_eq_false, not_false_eq_true, ite_true, ite_false, List.append_nil, and_assoc, Nat.mul_zero, Nat.zero_mul, b6_1, r6_5, r6_6, fs13, hc, em2, Int.lt_irrefl, true_implies, true_and, not_false_eq_true, eq_self, decide_true]
      omega
  · have hL : bnL w h n = [] := by unfold bnL bnA; rw [if_neg e]; rfl
    refine tri_evS (hyp (l := [(13, ent13), (26, ent26), (27, ent27)]) (lp := []) ⟨e13, e26, e27, trivial⟩ trivial) Try.func6 comp6 (rs := [.tmp 6]) (by rfl) Try.ntmps6 28 ?_
    have h2 : ¬ (2 : Int) = 0 := by decide
    simp -implicitDefEqProofs only [push_cast, false_implies, reduceCtorEq, Classical.not_not, Nat.reduceAdd, Nat.reduceSub, Nat.reduceMul, Nat.reduceLeDiff, Nat.reduceLT, Nat.reduceEqDiff, Nat.reduceBEq, Nat.reduceBNe, Int.reduceNeg, Int.reduceToNat, Bool.or_false, Bool.false_or, Bool.or_true, Bool.true_or, BEq.rfl, Bool.not_eq_true, Bool.not_eq_false, decide_eq_true_eq, not_true_eq_false, not_false_eq_true, ite_true, ite_false, List.append_nil, and_assoc, Nat.mul_zero, Nat.zero_mul, ir6, fs13, fs26, fs27, e, hL, h2, if_false, true_implies, true_and, not_true_eq_false, not_false_eq_true, and_true, List.length_nil, Nat.lt_irrefl]
end Go.Proofs.Ytefggfjblhniaaa
