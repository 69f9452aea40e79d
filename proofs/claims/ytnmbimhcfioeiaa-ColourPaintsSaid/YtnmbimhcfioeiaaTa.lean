import Derived.Test.YtnmbimhcfioeiaaGb
import Derived.Test.YtnmbimhcfioeiaaProg
import Derived.Test.YtnmbimhcfioeiaaChecked
set_option linter.unusedVariables false
set_option linter.unusedSimpArgs false
set_option maxRecDepth 4000
/-! The table of types. -/
namespace Go.Proofs.Ytnmbimhcfioeiaa
open Xf

def tab : Tab := fun t => match t with
  | 2 => some ⟨1, 8, [.int .i64 0], .int .i64, none⟩
  | 3 => some ⟨1, 8, [.int .i64 0], .int .i64, none⟩
  | 4 => some ⟨1, 1, [.bool false], .bool, none⟩
  | 5 => some ⟨1, 1, [.int .u8 0], .int .u8, none⟩
  | 6 => some ⟨1, 1, [.int .u8 0], .int .u8, none⟩
  | 7 => some ⟨4, 24, [.int .i64 0, .int .i64 0, .bool false, .int .u8 0], .struct [(0, 2), (1, 3), (2, 4), (3, 6)], (some [true, true, false, true])⟩
  | 8 => some ⟨4, 24, [.int .i64 0, .int .i64 0, .bool false, .int .u8 0], .struct [(0, 2), (1, 3), (2, 4), (3, 6)], (some [true, true, false, true])⟩
  | 12 => some ⟨1, 8, [.int .u64 0], .int .u64, none⟩
  | 15 => some ⟨1, 8, [.val (.pointer none)], .pointer, none⟩
  | 16 => some ⟨1, 8, [.val (.pointer none)], .pointer, none⟩
  | 17 => some ⟨1, 8, [.val (.pointer none)], .pointer, none⟩
  | 18 => some ⟨1, 8, [.val (.pointer none)], .struct [(0, 17)], none⟩
  | 19 => some ⟨1, 8, [.val (.pointer none)], .struct [(0, 17)], none⟩
  | 21 => some ⟨1, 4, [.int .i32 0], .int .i32, none⟩
  | 22 => some ⟨1, 24, [nilSV], .slice 3, none⟩
  | 23 => some ⟨5, 88, [.int .i64 0, .int .i64 0, nilSV, nilSV, nilSV], .struct [(0, 3), (1, 3), (2, 22), (3, 22), (4, 22)], none⟩
  | 24 => some ⟨5, 88, [.int .i64 0, .int .i64 0, nilSV, nilSV, nilSV], .struct [(0, 3), (1, 3), (2, 22), (3, 22), (4, 22)], none⟩
  | 25 => some ⟨10, 128, [.int .i64 0, .int .i64 0, nilSV, nilSV, nilSV, .int .i64 0, .int .i64 0, .int .i64 0, .int .i64 0, .int .i64 0], .struct [(0, 24), (5, 3), (6, 3), (7, 3), (8, 3), (9, 3)], none⟩
  | 26 => some ⟨10, 128, [.int .i64 0, .int .i64 0, nilSV, nilSV, nilSV, .int .i64 0, .int .i64 0, .int .i64 0, .int .i64 0, .int .i64 0], .struct [(0, 24), (5, 3), (6, 3), (7, 3), (8, 3), (9, 3)], none⟩
  | 29 => some ⟨1, 8, [.int .i64 0], .int .i64, none⟩
  | 34 => some ⟨9, 120, [.int .i64 0, .int .i64 0, nilSV, nilSV, nilSV, .int .i64 0, .int .i64 0, .int .i64 0, .int .i64 0], .struct [(0, 24), (5, 3), (6, 3), (7, 3), (8, 3)], none⟩
  | 35 => some ⟨9, 120, [.int .i64 0, .int .i64 0, nilSV, nilSV, nilSV, .int .i64 0, .int .i64 0, .int .i64 0, .int .i64 0], .struct [(0, 24), (5, 3), (6, 3), (7, 3), (8, 3)], none⟩
  | 38 => some ⟨3, 40, [.int .i64 0, .int .i64 0, nilSV], .struct [(0, 3), (1, 3), (2, 22)], none⟩
  | 39 => some ⟨3, 40, [.int .i64 0, .int .i64 0, nilSV], .struct [(0, 3), (1, 3), (2, 22)], none⟩
  | 49 => some ⟨1, 24, [nilSV], .slice 5, none⟩
  | 50 => some ⟨3, 40, [.int .i64 0, .int .i64 0, nilSV], .struct [(0, 3), (1, 3), (2, 49)], none⟩
  | 51 => some ⟨3, 40, [.int .i64 0, .int .i64 0, nilSV], .struct [(0, 3), (1, 3), (2, 49)], none⟩
  | 52 => some ⟨13, 168, [.int .i64 0, .int .i64 0, nilSV, nilSV, nilSV, .int .i64 0, .int .i64 0, nilSV, .int .i64 0, .int .i64 0, .int .i64 0, .int .i64 0, .int .i64 0], .struct [(0, 24), (5, 51), (8, 3), (9, 3), (10, 3), (11, 3), (12, 3)], none⟩
  | 53 => some ⟨13, 168, [.int .i64 0, .int .i64 0, nilSV, nilSV, nilSV, .int .i64 0, .int .i64 0, nilSV, .int .i64 0, .int .i64 0, .int .i64 0, .int .i64 0, .int .i64 0], .struct [(0, 24), (5, 51), (8, 3), (9, 3), (10, 3), (11, 3), (12, 3)], none⟩
  | 66 => some ⟨1, 8, [.val (.pointer none)], .pointer, none⟩
  | 72 => some ⟨1, 8, [.int .u64 0], .int .u64, none⟩
  | 78 => some ⟨1, 24, [nilSV], .slice 80, none⟩
  | 79 => some ⟨4, 32, [.int .i64 0, .int .i64 0, .int .i64 0, .int .i64 0], .struct [(0, 3), (1, 3), (2, 3), (3, 3)], (some [true, true, true, true])⟩
  | 80 => some ⟨4, 32, [.int .i64 0, .int .i64 0, .int .i64 0, .int .i64 0], .struct [(0, 3), (1, 3), (2, 3), (3, 3)], (some [true, true, true, true])⟩
  | 82 => some ⟨3, 24, [.int .i64 0, .int .i64 0, .int .i64 0], .array 3 3, (some [true, true, true])⟩
  | 87 => some ⟨1, 8, [.val (.pointer none)], .pointer, none⟩
  | 92 => some ⟨0, 0, [], .array 0 16, none⟩
  | 93 => some ⟨0, 0, [], .struct [(0, 92)], none⟩
  | 94 => some ⟨0, 0, [], .struct [(0, 92)], none⟩
  | 96 => some ⟨1, 4, [.int .u32 0], .int .u32, none⟩
  | 97 => some ⟨1, 1, [.int .u8 0], .int .u8, none⟩
  | 98 => some ⟨1, 1, [.int .u8 0], .int .u8, none⟩
  | 100 => some ⟨1, 8, [.val (.pointer none)], .pointer, none⟩
  | 101 => some ⟨1, 4, [.int .i32 0], .int .i32, none⟩
  | 102 => some ⟨1, 4, [.int .i32 0], .int .i32, none⟩
  | 103 => some ⟨11, 48, [.int .u64 0, .int .u64 0, .int .u32 0, .int .u8 0, .int .u8 0, .int .u8 0, .int .u8 0, .val .nilFunc, .val (.pointer none), .int .i32 0, .int .i32 0], .struct [(0, 12), (1, 12), (2, 96), (3, 97), (4, 5), (5, 5), (6, 98), (7, 99), (8, 100), (9, 101), (10, 102)], none⟩
  | 104 => some ⟨11, 48, [.int .u64 0, .int .u64 0, .int .u32 0, .int .u8 0, .int .u8 0, .int .u8 0, .int .u8 0, .val .nilFunc, .val (.pointer none), .int .i32 0, .int .i32 0], .struct [(0, 12), (1, 12), (2, 96), (3, 97), (4, 5), (5, 5), (6, 98), (7, 99), (8, 100), (9, 101), (10, 102)], none⟩
  | _ => none
theorem tt2 : TtOk Try.prog 2 ⟨1, 8, [.int .i64 0], .int .i64, none⟩ := TtOk.of (z := .int .i64 0) (by kernel_rfl) (by kernel_rfl) (by simp [Dens, Den, nilSV, nilLoc0, Value.cells]) (by simp [TT.agg, Value.cells]) Try.underlying2 (by first | exact ⟨_, rfl, rfl⟩ | rfl | exact ⟨_, rfl⟩) (by first | rfl | kernel_rfl) rfl
theorem tt3 : TtOk Try.prog 3 ⟨1, 8, [.int .i64 0], .int .i64, none⟩ := TtOk.of (z := .int .i64 0) (by kernel_rfl) (by kernel_rfl) (by simp [Dens, Den, nilSV, nilLoc0, Value.cells]) (by simp [TT.agg, Value.cells]) Try.underlying3 (by first | exact ⟨_, rfl, rfl⟩ | rfl | exact ⟨_, rfl⟩) (by first | rfl | kernel_rfl) rfl
theorem tt4 : TtOk Try.prog 4 ⟨1, 1, [.bool false], .bool, none⟩ := TtOk.of (z := .bool false) (by kernel_rfl) (by kernel_rfl) (by simp [Dens, Den, nilSV, nilLoc0, Value.cells]) (by simp [TT.agg, Value.cells]) Try.underlying4 (by first | exact ⟨_, rfl, rfl⟩ | rfl | exact ⟨_, rfl⟩) (by first | rfl | kernel_rfl) rfl
theorem tt5 : TtOk Try.prog 5 ⟨1, 1, [.int .u8 0], .int .u8, none⟩ := TtOk.of (z := .int .u8 0) (by kernel_rfl) (by kernel_rfl) (by simp [Dens, Den, nilSV, nilLoc0, Value.cells]) (by simp [TT.agg, Value.cells]) Try.underlying5 (by first | exact ⟨_, rfl, rfl⟩ | rfl | exact ⟨_, rfl⟩) (by first | rfl | kernel_rfl) rfl
theorem tt6 : TtOk Try.prog 6 ⟨1, 1, [.int .u8 0], .int .u8, none⟩ := TtOk.of (z := .int .u8 0) (by kernel_rfl) (by kernel_rfl) (by simp [Dens, Den, nilSV, nilLoc0, Value.cells]) (by simp [TT.agg, Value.cells]) Try.underlying6 (by first | exact ⟨_, rfl, rfl⟩ | rfl | exact ⟨_, rfl⟩) (by first | rfl | kernel_rfl) rfl
theorem tt7 : TtOk Try.prog 7 ⟨4, 24, [.int .i64 0, .int .i64 0, .bool false, .int .u8 0], .struct [(0, 2), (1, 3), (2, 4), (3, 6)], (some [true, true, false, true])⟩ := TtOk.of (z := .agg #[.int .i64 0, .int .i64 0, .bool false, .int .u8 0]) (by kernel_rfl) (by kernel_rfl) (by simp [Dens, Den, nilSV, nilLoc0, Value.cells]) (by simp [TT.agg, Value.cells]) Try.underlying7 (by first | exact ⟨_, rfl, rfl⟩ | rfl | exact ⟨_, rfl⟩) (by first | rfl | kernel_rfl) rfl
theorem tt8 : TtOk Try.prog 8 ⟨4, 24, [.int .i64 0, .int .i64 0, .bool false, .int .u8 0], .struct [(0, 2), (1, 3), (2, 4), (3, 6)], (some [true, true, false, true])⟩ := TtOk.of (z := .agg #[.int .i64 0, .int .i64 0, .bool false, .int .u8 0]) (by kernel_rfl) (by kernel_rfl) (by simp [Dens, Den, nilSV, nilLoc0, Value.cells]) (by simp [TT.agg, Value.cells]) Try.underlying8 (by first | exact ⟨_, rfl, rfl⟩ | rfl | exact ⟨_, rfl⟩) (by first | rfl | kernel_rfl) rfl
theorem tt12 : TtOk Try.prog 12 ⟨1, 8, [.int .u64 0], .int .u64, none⟩ := TtOk.of (z := .int .u64 0) (by kernel_rfl) (by kernel_rfl) (by simp [Dens, Den, nilSV, nilLoc0, Value.cells]) (by simp [TT.agg, Value.cells]) Try.underlying12 (by first | exact ⟨_, rfl, rfl⟩ | rfl | exact ⟨_, rfl⟩) (by first | rfl | kernel_rfl) rfl
theorem tt15 : TtOk Try.prog 15 ⟨1, 8, [.val (.pointer none)], .pointer, none⟩ := TtOk.of (z := .pointer none) (by kernel_rfl) (by kernel_rfl) (by simp [Dens, Den, nilSV, nilLoc0, Value.cells]) (by simp [TT.agg, Value.cells]) Try.underlying15 (by first | exact ⟨_, rfl, rfl⟩ | rfl | exact ⟨_, rfl⟩) (by first | rfl | kernel_rfl) rfl
theorem tt16 : TtOk Try.prog 16 ⟨1, 8, [.val (.pointer none)], .pointer, none⟩ := TtOk.of (z := .pointer none) (by kernel_rfl) (by kernel_rfl) (by simp [Dens, Den, nilSV, nilLoc0, Value.cells]) (by simp [TT.agg, Value.cells]) Try.underlying16 (by first | exact ⟨_, rfl, rfl⟩ | rfl | exact ⟨_, rfl⟩) (by first | rfl | kernel_rfl) rfl
theorem tt17 : TtOk Try.prog 17 ⟨1, 8, [.val (.pointer none)], .pointer, none⟩ := TtOk.of (z := .pointer none) (by kernel_rfl) (by kernel_rfl) (by simp [Dens, Den, nilSV, nilLoc0, Value.cells]) (by simp [TT.agg, Value.cells]) Try.underlying17 (by first | exact ⟨_, rfl, rfl⟩ | rfl | exact ⟨_, rfl⟩) (by first | rfl | kernel_rfl) rfl
theorem tt18 : TtOk Try.prog 18 ⟨1, 8, [.val (.pointer none)], .struct [(0, 17)], none⟩ := TtOk.of (z := .agg #[.pointer none]) (by kernel_rfl) (by kernel_rfl) (by simp [Dens, Den, nilSV, nilLoc0, Value.cells]) (by simp [TT.agg, Value.cells]) Try.underlying18 (by first | exact ⟨_, rfl, rfl⟩ | rfl | exact ⟨_, rfl⟩) (by first | rfl | kernel_rfl) rfl
theorem tt19 : TtOk Try.prog 19 ⟨1, 8, [.val (.pointer none)], .struct [(0, 17)], none⟩ := TtOk.of (z := .agg #[.pointer none]) (by kernel_rfl) (by kernel_rfl) (by simp [Dens, Den, nilSV, nilLoc0, Value.cells]) (by simp [TT.agg, Value.cells]) Try.underlying19 (by first | exact ⟨_, rfl, rfl⟩ | rfl | exact ⟨_, rfl⟩) (by first | rfl | kernel_rfl) rfl
theorem tt21 : TtOk Try.prog 21 ⟨1, 4, [.int .i32 0], .int .i32, none⟩ := TtOk.of (z := .int .i32 0) (by kernel_rfl) (by kernel_rfl) (by simp [Dens, Den, nilSV, nilLoc0, Value.cells]) (by simp [TT.agg, Value.cells]) Try.underlying21 (by first | exact ⟨_, rfl, rfl⟩ | rfl | exact ⟨_, rfl⟩) (by first | rfl | kernel_rfl) rfl
theorem tt22 : TtOk Try.prog 22 ⟨1, 24, [nilSV], .slice 3, none⟩ := TtOk.of (z := .slice none 0 0) (by kernel_rfl) (by kernel_rfl) (by simp [Dens, Den, nilSV, nilLoc0, Value.cells]) (by simp [TT.agg, Value.cells]) Try.underlying22 (by first | exact ⟨_, rfl, rfl⟩ | rfl | exact ⟨_, rfl⟩) (by first | rfl | kernel_rfl) rfl
theorem tt23 : TtOk Try.prog 23 ⟨5, 88, [.int .i64 0, .int .i64 0, nilSV, nilSV, nilSV], .struct [(0, 3), (1, 3), (2, 22), (3, 22), (4, 22)], none⟩ := TtOk.of (z := .agg #[.int .i64 0, .int .i64 0, .slice none 0 0, .slice none 0 0, .slice none 0 0]) (by kernel_rfl) (by kernel_rfl) (by simp [Dens, Den, nilSV, nilLoc0, Value.cells]) (by simp [TT.agg, Value.cells]) Try.underlying23 (by first | exact ⟨_, rfl, rfl⟩ | rfl | exact ⟨_, rfl⟩) (by first | rfl | kernel_rfl) rfl
theorem tt24 : TtOk Try.prog 24 ⟨5, 88, [.int .i64 0, .int .i64 0, nilSV, nilSV, nilSV], .struct [(0, 3), (1, 3), (2, 22), (3, 22), (4, 22)], none⟩ := TtOk.of (z := .agg #[.int .i64 0, .int .i64 0, .slice none 0 0, .slice none 0 0, .slice none 0 0]) (by kernel_rfl) (by kernel_rfl) (by simp [Dens, Den, nilSV, nilLoc0, Value.cells]) (by simp [TT.agg, Value.cells]) Try.underlying24 (by first | exact ⟨_, rfl, rfl⟩ | rfl | exact ⟨_, rfl⟩) (by first | rfl | kernel_rfl) rfl
theorem tt25 : TtOk Try.prog 25 ⟨10, 128, [.int .i64 0, .int .i64 0, nilSV, nilSV, nilSV, .int .i64 0, .int .i64 0, .int .i64 0, .int .i64 0, .int .i64 0], .struct [(0, 24), (5, 3), (6, 3), (7, 3), (8, 3), (9, 3)], none⟩ := TtOk.of (z := .agg #[.int .i64 0, .int .i64 0, .slice none 0 0, .slice none 0 0, .slice none 0 0, .int .i64 0, .int .i64 0, .int .i64 0, .int .i64 0, .int .i64 0]) (by kernel_rfl) (by kernel_rfl) (by simp [Dens, Den, nilSV, nilLoc0, Value.cells]) (by simp [TT.agg, Value.cells]) Try.underlying25 (by first | exact ⟨_, rfl, rfl⟩ | rfl | exact ⟨_, rfl⟩) (by first | rfl | kernel_rfl) rfl
theorem tt26 : TtOk Try.prog 26 ⟨10, 128, [.int .i64 0, .int .i64 0, nilSV, nilSV, nilSV, .int .i64 0, .int .i64 0, .int .i64 0, .int .i64 0, .int .i64 0], .struct [(0, 24), (5, 3), (6, 3), (7, 3), (8, 3), (9, 3)], none⟩ := TtOk.of (z := .agg #[.int .i64 0, .int .i64 0, .slice none 0 0, .slice none 0 0, .slice none 0 0, .int .i64 0, .int .i64 0, .int .i64 0, .int .i64 0, .int .i64 0]) (by kernel_rfl) (by kernel_rfl) (by simp [Dens, Den, nilSV, nilLoc0, Value.cells]) (by simp [TT.agg, Value.cells]) Try.underlying26 (by first | exact ⟨_, rfl, rfl⟩ | rfl | exact ⟨_, rfl⟩) (by first | rfl | kernel_rfl) rfl
theorem tt29 : TtOk Try.prog 29 ⟨1, 8, [.int .i64 0], .int .i64, none⟩ := TtOk.of (z := .int .i64 0) (by kernel_rfl) (by kernel_rfl) (by simp [Dens, Den, nilSV, nilLoc0, Value.cells]) (by simp [TT.agg, Value.cells]) Try.underlying29 (by first | exact ⟨_, rfl, rfl⟩ | rfl | exact ⟨_, rfl⟩) (by first | rfl | kernel_rfl) rfl
theorem tt34 : TtOk Try.prog 34 ⟨9, 120, [.int .i64 0, .int .i64 0, nilSV, nilSV, nilSV, .int .i64 0, .int .i64 0, .int .i64 0, .int .i64 0], .struct [(0, 24), (5, 3), (6, 3), (7, 3), (8, 3)], none⟩ := TtOk.of (z := .agg #[.int .i64 0, .int .i64 0, .slice none 0 0, .slice none 0 0, .slice none 0 0, .int .i64 0, .int .i64 0, .int .i64 0, .int .i64 0]) (by kernel_rfl) (by kernel_rfl) (by simp [Dens, Den, nilSV, nilLoc0, Value.cells]) (by simp [TT.agg, Value.cells]) Try.underlying34 (by first | exact ⟨_, rfl, rfl⟩ | rfl | exact ⟨_, rfl⟩) (by first | rfl | kernel_rfl) rfl
theorem tt35 : TtOk Try.prog 35 ⟨9, 120, [.int .i64 0, .int .i64 0, nilSV, nilSV, nilSV, .int .i64 0, .int .i64 0, .int .i64 0, .int .i64 0], .struct [(0, 24), (5, 3), (6, 3), (7, 3), (8, 3)], none⟩ := TtOk.of (z := .agg #[.int .i64 0, .int .i64 0, .slice none 0 0, .slice none 0 0, .slice none 0 0, .int .i64 0, .int .i64 0, .int .i64 0, .int .i64 0]) (by kernel_rfl) (by kernel_rfl) (by simp [Dens, Den, nilSV, nilLoc0, Value.cells]) (by simp [TT.agg, Value.cells]) Try.underlying35 (by first | exact ⟨_, rfl, rfl⟩ | rfl | exact ⟨_, rfl⟩) (by first | rfl | kernel_rfl) rfl
theorem tt38 : TtOk Try.prog 38 ⟨3, 40, [.int .i64 0, .int .i64 0, nilSV], .struct [(0, 3), (1, 3), (2, 22)], none⟩ := TtOk.of (z := .agg #[.int .i64 0, .int .i64 0, .slice none 0 0]) (by kernel_rfl) (by kernel_rfl) (by simp [Dens, Den, nilSV, nilLoc0, Value.cells]) (by simp [TT.agg, Value.cells]) Try.underlying38 (by first | exact ⟨_, rfl, rfl⟩ | rfl | exact ⟨_, rfl⟩) (by first | rfl | kernel_rfl) rfl
theorem tt39 : TtOk Try.prog 39 ⟨3, 40, [.int .i64 0, .int .i64 0, nilSV], .struct [(0, 3), (1, 3), (2, 22)], none⟩ := TtOk.of (z := .agg #[.int .i64 0, .int .i64 0, .slice none 0 0]) (by kernel_rfl) (by kernel_rfl) (by simp [Dens, Den, nilSV, nilLoc0, Value.cells]) (by simp [TT.agg, Value.cells]) Try.underlying39 (by first | exact ⟨_, rfl, rfl⟩ | rfl | exact ⟨_, rfl⟩) (by first | rfl | kernel_rfl) rfl
theorem tt49 : TtOk Try.prog 49 ⟨1, 24, [nilSV], .slice 5, none⟩ := TtOk.of (z := .slice none 0 0) (by kernel_rfl) (by kernel_rfl) (by simp [Dens, Den, nilSV, nilLoc0, Value.cells]) (by simp [TT.agg, Value.cells]) Try.underlying49 (by first | exact ⟨_, rfl, rfl⟩ | rfl | exact ⟨_, rfl⟩) (by first | rfl | kernel_rfl) rfl
theorem tt50 : TtOk Try.prog 50 ⟨3, 40, [.int .i64 0, .int .i64 0, nilSV], .struct [(0, 3), (1, 3), (2, 49)], none⟩ := TtOk.of (z := .agg #[.int .i64 0, .int .i64 0, .slice none 0 0]) (by kernel_rfl) (by kernel_rfl) (by simp [Dens, Den, nilSV, nilLoc0, Value.cells]) (by simp [TT.agg, Value.cells]) Try.underlying50 (by first | exact ⟨_, rfl, rfl⟩ | rfl | exact ⟨_, rfl⟩) (by first | rfl | kernel_rfl) rfl
theorem tt51 : TtOk Try.prog 51 ⟨3, 40, [.int .i64 0, .int .i64 0, nilSV], .struct [(0, 3), (1, 3), (2, 49)], none⟩ := TtOk.of (z := .agg #[.int .i64 0, .int .i64 0, .slice none 0 0]) (by kernel_rfl) (by kernel_rfl) (by simp [Dens, Den, nilSV, nilLoc0, Value.cells]) (by simp [TT.agg, Value.cells]) Try.underlying51 (by first | exact ⟨_, rfl, rfl⟩ | rfl | exact ⟨_, rfl⟩) (by first | rfl | kernel_rfl) rfl
theorem tt52 : TtOk Try.prog 52 ⟨13, 168, [.int .i64 0, .int .i64 0, nilSV, nilSV, nilSV, .int .i64 0, .int .i64 0, nilSV, .int .i64 0, .int .i64 0, .int .i64 0, .int .i64 0, .int .i64 0], .struct [(0, 24), (5, 51), (8, 3), (9, 3), (10, 3), (11, 3), (12, 3)], none⟩ := TtOk.of (z := .agg #[.int .i64 0, .int .i64 0, .slice none 0 0, .slice none 0 0, .slice none 0 0, .int .i64 0, .int .i64 0, .slice none 0 0, .int .i64 0, .int .i64 0, .int .i64 0, .int .i64 0, .int .i64 0]) (by kernel_rfl) (by kernel_rfl) (by simp [Dens, Den, nilSV, nilLoc0, Value.cells]) (by simp [TT.agg, Value.cells]) Try.underlying52 (by first | exact ⟨_, rfl, rfl⟩ | rfl | exact ⟨_, rfl⟩) (by first | rfl | kernel_rfl) rfl
theorem tt53 : TtOk Try.prog 53 ⟨13, 168, [.int .i64 0, .int .i64 0, nilSV, nilSV, nilSV, .int .i64 0, .int .i64 0, nilSV, .int .i64 0, .int .i64 0, .int .i64 0, .int .i64 0, .int .i64 0], .struct [(0, 24), (5, 51), (8, 3), (9, 3), (10, 3), (11, 3), (12, 3)], none⟩ := TtOk.of (z := .agg #[.int .i64 0, .int .i64 0, .slice none 0 0, .slice none 0 0, .slice none 0 0, .int .i64 0, .int .i64 0, .slice none 0 0, .int .i64 0, .int .i64 0, .int .i64 0, .int .i64 0, .int .i64 0]) (by kernel_rfl) (by kernel_rfl) (by simp [Dens, Den, nilSV, nilLoc0, Value.cells]) (by simp [TT.agg, Value.cells]) Try.underlying53 (by first | exact ⟨_, rfl, rfl⟩ | rfl | exact ⟨_, rfl⟩) (by first | rfl | kernel_rfl) rfl
theorem tt66 : TtOk Try.prog 66 ⟨1, 8, [.val (.pointer none)], .pointer, none⟩ := TtOk.of (z := .pointer none) (by kernel_rfl) (by kernel_rfl) (by simp [Dens, Den, nilSV, nilLoc0, Value.cells]) (by simp [TT.agg, Value.cells]) Try.underlying66 (by first | exact ⟨_, rfl, rfl⟩ | rfl | exact ⟨_, rfl⟩) (by first | rfl | kernel_rfl) rfl
theorem tt72 : TtOk Try.prog 72 ⟨1, 8, [.int .u64 0], .int .u64, none⟩ := TtOk.of (z := .int .u64 0) (by kernel_rfl) (by kernel_rfl) (by simp [Dens, Den, nilSV, nilLoc0, Value.cells]) (by simp [TT.agg, Value.cells]) Try.underlying72 (by first | exact ⟨_, rfl, rfl⟩ | rfl | exact ⟨_, rfl⟩) (by first | rfl | kernel_rfl) rfl
theorem tt78 : TtOk Try.prog 78 ⟨1, 24, [nilSV], .slice 80, none⟩ := TtOk.of (z := .slice none 0 0) (by kernel_rfl) (by kernel_rfl) (by simp [Dens, Den, nilSV, nilLoc0, Value.cells]) (by simp [TT.agg, Value.cells]) Try.underlying78 (by first | exact ⟨_, rfl, rfl⟩ | rfl | exact ⟨_, rfl⟩) (by first | rfl | kernel_rfl) rfl
theorem tt79 : TtOk Try.prog 79 ⟨4, 32, [.int .i64 0, .int .i64 0, .int .i64 0, .int .i64 0], .struct [(0, 3), (1, 3), (2, 3), (3, 3)], (some [true, true, true, true])⟩ := TtOk.of (z := .agg #[.int .i64 0, .int .i64 0, .int .i64 0, .int .i64 0]) (by kernel_rfl) (by kernel_rfl) (by simp [Dens, Den, nilSV, nilLoc0, Value.cells]) (by simp [TT.agg, Value.cells]) Try.underlying79 (by first | exact ⟨_, rfl, rfl⟩ | rfl | exact ⟨_, rfl⟩) (by first | rfl | kernel_rfl) rfl
theorem tt80 : TtOk Try.prog 80 ⟨4, 32, [.int .i64 0, .int .i64 0, .int .i64 0, .int .i64 0], .struct [(0, 3), (1, 3), (2, 3), (3, 3)], (some [true, true, true, true])⟩ := TtOk.of (z := .agg #[.int .i64 0, .int .i64 0, .int .i64 0, .int .i64 0]) (by kernel_rfl) (by kernel_rfl) (by simp [Dens, Den, nilSV, nilLoc0, Value.cells]) (by simp [TT.agg, Value.cells]) Try.underlying80 (by first | exact ⟨_, rfl, rfl⟩ | rfl | exact ⟨_, rfl⟩) (by first | rfl | kernel_rfl) rfl
theorem tt82 : TtOk Try.prog 82 ⟨3, 24, [.int .i64 0, .int .i64 0, .int .i64 0], .array 3 3, (some [true, true, true])⟩ := TtOk.of (z := .agg #[.int .i64 0, .int .i64 0, .int .i64 0]) (by kernel_rfl) (by kernel_rfl) (by simp [Dens, Den, nilSV, nilLoc0, Value.cells]) (by simp [TT.agg, Value.cells]) Try.underlying82 (by first | exact ⟨_, rfl, rfl⟩ | rfl | exact ⟨_, rfl⟩) (by first | rfl | kernel_rfl) rfl
theorem tt87 : TtOk Try.prog 87 ⟨1, 8, [.val (.pointer none)], .pointer, none⟩ := TtOk.of (z := .pointer none) (by kernel_rfl) (by kernel_rfl) (by simp [Dens, Den, nilSV, nilLoc0, Value.cells]) (by simp [TT.agg, Value.cells]) Try.underlying87 (by first | exact ⟨_, rfl, rfl⟩ | rfl | exact ⟨_, rfl⟩) (by first | rfl | kernel_rfl) rfl
theorem tt92 : TtOk Try.prog 92 ⟨0, 0, [], .array 0 16, none⟩ := TtOk.of (z := .agg #[]) (by kernel_rfl) (by kernel_rfl) (by simp [Dens, Den, nilSV, nilLoc0, Value.cells]) (by simp [TT.agg, Value.cells]) Try.underlying92 (by first | exact ⟨_, rfl, rfl⟩ | rfl | exact ⟨_, rfl⟩) (by first | rfl | kernel_rfl) rfl
theorem tt93 : TtOk Try.prog 93 ⟨0, 0, [], .struct [(0, 92)], none⟩ := TtOk.of (z := .agg #[]) (by kernel_rfl) (by kernel_rfl) (by simp [Dens, Den, nilSV, nilLoc0, Value.cells]) (by simp [TT.agg, Value.cells]) Try.underlying93 (by first | exact ⟨_, rfl, rfl⟩ | rfl | exact ⟨_, rfl⟩) (by first | rfl | kernel_rfl) rfl
theorem tt94 : TtOk Try.prog 94 ⟨0, 0, [], .struct [(0, 92)], none⟩ := TtOk.of (z := .agg #[]) (by kernel_rfl) (by kernel_rfl) (by simp [Dens, Den, nilSV, nilLoc0, Value.cells]) (by simp [TT.agg, Value.cells]) Try.underlying94 (by first | exact ⟨_, rfl, rfl⟩ | rfl | exact ⟨_, rfl⟩) (by first | rfl | kernel_rfl) rfl
theorem tt96 : TtOk Try.prog 96 ⟨1, 4, [.int .u32 0], .int .u32, none⟩ := TtOk.of (z := .int .u32 0) (by kernel_rfl) (by kernel_rfl) (by simp [Dens, Den, nilSV, nilLoc0, Value.cells]) (by simp [TT.agg, Value.cells]) Try.underlying96 (by first | exact ⟨_, rfl, rfl⟩ | rfl | exact ⟨_, rfl⟩) (by first | rfl | kernel_rfl) rfl
theorem tt97 : TtOk Try.prog 97 ⟨1, 1, [.int .u8 0], .int .u8, none⟩ := TtOk.of (z := .int .u8 0) (by kernel_rfl) (by kernel_rfl) (by simp [Dens, Den, nilSV, nilLoc0, Value.cells]) (by simp [TT.agg, Value.cells]) Try.underlying97 (by first | exact ⟨_, rfl, rfl⟩ | rfl | exact ⟨_, rfl⟩) (by first | rfl | kernel_rfl) rfl
theorem tt98 : TtOk Try.prog 98 ⟨1, 1, [.int .u8 0], .int .u8, none⟩ := TtOk.of (z := .int .u8 0) (by kernel_rfl) (by kernel_rfl) (by simp [Dens, Den, nilSV, nilLoc0, Value.cells]) (by simp [TT.agg, Value.cells]) Try.underlying98 (by first | exact ⟨_, rfl, rfl⟩ | rfl | exact ⟨_, rfl⟩) (by first | rfl | kernel_rfl) rfl
theorem tt100 : TtOk Try.prog 100 ⟨1, 8, [.val (.pointer none)], .pointer, none⟩ := TtOk.of (z := .pointer none) (by kernel_rfl) (by kernel_rfl) (by simp [Dens, Den, nilSV, nilLoc0, Value.cells]) (by simp [TT.agg, Value.cells]) Try.underlying100 (by first | exact ⟨_, rfl, rfl⟩ | rfl | exact ⟨_, rfl⟩) (by first | rfl | kernel_rfl) rfl
theorem tt101 : TtOk Try.prog 101 ⟨1, 4, [.int .i32 0], .int .i32, none⟩ := TtOk.of (z := .int .i32 0) (by kernel_rfl) (by kernel_rfl) (by simp [Dens, Den, nilSV, nilLoc0, Value.cells]) (by simp [TT.agg, Value.cells]) Try.underlying101 (by first | exact ⟨_, rfl, rfl⟩ | rfl | exact ⟨_, rfl⟩) (by first | rfl | kernel_rfl) rfl
theorem tt102 : TtOk Try.prog 102 ⟨1, 4, [.int .i32 0], .int .i32, none⟩ := TtOk.of (z := .int .i32 0) (by kernel_rfl) (by kernel_rfl) (by simp [Dens, Den, nilSV, nilLoc0, Value.cells]) (by simp [TT.agg, Value.cells]) Try.underlying102 (by first | exact ⟨_, rfl, rfl⟩ | rfl | exact ⟨_, rfl⟩) (by first | rfl | kernel_rfl) rfl
theorem tt103 : TtOk Try.prog 103 ⟨11, 48, [.int .u64 0, .int .u64 0, .int .u32 0, .int .u8 0, .int .u8 0, .int .u8 0, .int .u8 0, .val .nilFunc, .val (.pointer none), .int .i32 0, .int .i32 0], .struct [(0, 12), (1, 12), (2, 96), (3, 97), (4, 5), (5, 5), (6, 98), (7, 99), (8, 100), (9, 101), (10, 102)], none⟩ := TtOk.of (z := .agg #[.int .u64 0, .int .u64 0, .int .u32 0, .int .u8 0, .int .u8 0, .int .u8 0, .int .u8 0, .nilFunc, .pointer none, .int .i32 0, .int .i32 0]) (by kernel_rfl) (by kernel_rfl) (by simp [Dens, Den, nilSV, nilLoc0, Value.cells]) (by simp [TT.agg, Value.cells]) Try.underlying103 (by first | exact ⟨_, rfl, rfl⟩ | rfl | exact ⟨_, rfl⟩) (by first | rfl | kernel_rfl) rfl
theorem tt104 : TtOk Try.prog 104 ⟨11, 48, [.int .u64 0, .int .u64 0, .int .u32 0, .int .u8 0, .int .u8 0, .int .u8 0, .int .u8 0, .val .nilFunc, .val (.pointer none), .int .i32 0, .int .i32 0], .struct [(0, 12), (1, 12), (2, 96), (3, 97), (4, 5), (5, 5), (6, 98), (7, 99), (8, 100), (9, 101), (10, 102)], none⟩ := TtOk.of (z := .agg #[.int .u64 0, .int .u64 0, .int .u32 0, .int .u8 0, .int .u8 0, .int .u8 0, .int .u8 0, .nilFunc, .pointer none, .int .i32 0, .int .i32 0]) (by kernel_rfl) (by kernel_rfl) (by simp [Dens, Den, nilSV, nilLoc0, Value.cells]) (by simp [TT.agg, Value.cells]) Try.underlying104 (by first | exact ⟨_, rfl, rfl⟩ | rfl | exact ⟨_, rfl⟩) (by first | rfl | kernel_rfl) rfl
theorem hT : ∀ t tt, tab t = some tt → TtOk Try.prog t tt := by
  intro t tt h
  unfold tab at h
  split at h
  · cases h; exact tt2
  · cases h; exact tt3
  · cases h; exact tt4
  · cases h; exact tt5
  · cases h; exact tt6
  · cases h; exact tt7
  · cases h; exact tt8
  · cases h; exact tt12
  · cases h; exact tt15
  · cases h; exact tt16
  · cases h; exact tt17
  · cases h; exact tt18
  · cases h; exact tt19
  · cases h; exact tt21
  · cases h; exact tt22
  · cases h; exact tt23
  · cases h; exact tt24
  · cases h; exact tt25
  · cases h; exact tt26
  · cases h; exact tt29
  · cases h; exact tt34
  · cases h; exact tt35
  · cases h; exact tt38
  · cases h; exact tt39
  · cases h; exact tt49
  · cases h; exact tt50
  · cases h; exact tt51
  · cases h; exact tt52
  · cases h; exact tt53
  · cases h; exact tt66
  · cases h; exact tt72
  · cases h; exact tt78
  · cases h; exact tt79
  · cases h; exact tt80
  · cases h; exact tt82
  · cases h; exact tt87
  · cases h; exact tt92
  · cases h; exact tt93
  · cases h; exact tt94
  · cases h; exact tt96
  · cases h; exact tt97
  · cases h; exact tt98
  · cases h; exact tt100
  · cases h; exact tt101
  · cases h; exact tt102
  · cases h; exact tt103
  · cases h; exact tt104
  · cases h
def isP : FuncId → Bool := fun f => f == 39 || f == 40 || f == 43 || f == 44 || f == 48 || f == 50 || f == 52 || f == 58 || f == 62 || f == 63 || f == 69 || f == 72
end Go.Proofs.Ytnmbimhcfioeiaa
