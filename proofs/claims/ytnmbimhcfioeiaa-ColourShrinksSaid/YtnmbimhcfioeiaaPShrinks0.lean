import Derived.Test.YtnmbimhcfioeiaaKc
import Derived.Test.YtnmbimhcfioeiaaProg
import Derived.Test.YtnmbimhcfioeiaaChecked
set_option linter.unusedVariables false
set_option linter.unusedSimpArgs false
set_option maxRecDepth 1000
namespace Go.Proofs.Ytnmbimhcfioeiaa
open Xf
def tab : Tab := fun t => match t with
  | 2 => some ⟨1, 8, [.int .i64 0], .int .i64, none⟩
  | 3 => some ⟨1, 8, [.int .i64 0], .int .i64, none⟩
  | 4 => some ⟨1, 1, [.bool false], .bool, none⟩
  | 5 => some ⟨1, 1, [.int .u8 0], .int .u8, none⟩
  | 6 => some ⟨1, 1, [.int .u8 0], .int .u8, none⟩
  | 7 => some ⟨4, 24, [.int .i64 0, .int .i64 0, .bool false, .int .u8 0], .struct [(0, 2), (1, 3), (2, 4), (3, 6)], (some [true, true, false, true])⟩
  | 8 => some ⟨4, 24, [.int .i64 0, .int .i64 0, .bool false, .int .u8 0], .struct [(0, 2), (1, 3), (2, 4), (3, 6)], (some [true, true, false, true])⟩
  | 12 => some ⟨1, 8, [.int .u64 0], .int .u64, none⟩
  | 15 => some ⟨1, 8, [.val (.pointer none)], .pointer, none⟩
  | 16 => some ⟨1, 8, [.val (.pointer none)], .pointer, none⟩
  | 17 => some ⟨1, 8, [.val (.pointer none)], .pointer, none⟩
  | 18 => some ⟨1, 8, [.val (.pointer none)], .struct [(0, 17)], none⟩
  | 19 => some ⟨1, 8, [.val (.pointer none)], .struct [(0, 17)], none⟩
  | 21 => some ⟨1, 4, [.int .i32 0], .int .i32, none⟩
  | 22 => some ⟨1, 24, [nilSV], .slice 3, none⟩
  | 23 => some ⟨5, 88, [.int .i64 0, .int .i64 0, nilSV, nilSV, nilSV], .struct [(0, 3), (1, 3), (2, 22), (3, 22), (4, 22)], none⟩
  | 24 => some ⟨5, 88, [.int .i64 0, .int .i64 0, nilSV, nilSV, nilSV], .struct [(0, 3), (1, 3), (2, 22), (3, 22), (4, 22)], none⟩
  | 25 => some ⟨10, 128, [.int .i64 0, .int .i64 0, nilSV, nilSV, nilSV, .int .i64 0, .int .i64 0, .int .i64 0, .int .i64 0, .int .i64 0], .struct [(0, 24), (5, 3), (6, 3), (7, 3), (8, 3), (9, 3)], none⟩
  | 26 => some ⟨10, 128, [.int .i64 0, .int .i64 0, nilSV, nilSV, nilSV, .int .i64 0, .int .i64 0, .int .i64 0, .int .i64 0, .int .i64 0], .struct [(0, 24), (5, 3), (6, 3), (7, 3), (8, 3), (9, 3)], none⟩
  | 29 => some ⟨1, 8, [.int .i64 0], .int .i64, none⟩
  | 34 => some ⟨9, 120, [.int .i64 0, .int .i64 0, nilSV, nilSV, nilSV, .int .i64 0, .int .i64 0, .int .i64 0, .int .i64 0], .struct [(0, 24), (5, 3), (6, 3), (7, 3), (8, 3)], none⟩
  | 35 => some ⟨9, 120, [.int .i64 0, .int .i64 0, nilSV, nilSV, nilSV, .int .i64 0, .int .i64 0, .int .i64 0, .int .i64 0], .struct [(0, 24), (5, 3), (6, 3), (7, 3), (8, 3)], none⟩
  | 38 => some ⟨3, 40, [.int .i64 0, .int .i64 0, nilSV], .struct [(0, 3), (1, 3), (2, 22)], none⟩
  | 39 => some ⟨3, 40, [.int .i64 0, .int .i64 0, nilSV], .struct [(0, 3), (1, 3), (2, 22)], none⟩
  | 49 => some ⟨1, 24, [nilSV], .slice 5, none⟩
  | 50 => some ⟨3, 40, [.int .i64 0, .int .i64 0, nilSV], .struct [(0, 3), (1, 3), (2, 49)], none⟩
  | 51 => some ⟨3, 40, [.int .i64 0, .int .i64 0, nilSV], .struct [(0, 3), (1, 3), (2, 49)], none⟩
  | 52 => some ⟨13, 168, [.int .i64 0, .int .i64 0, nilSV, nilSV, nilSV, .int .i64 0, .int .i64 0, nilSV, .int .i64 0, .int .i64 0, .int .i64 0, .int .i64 0, .int .i64 0], .struct [(0, 24), (5, 51), (8, 3), (9, 3), (10, 3), (11, 3), (12, 3)], none⟩
  | 53 => some ⟨13, 168, [.int .i64 0, .int .i64 0, nilSV, nilSV, nilSV, .int .i64 0, .int .i64 0, nilSV, .int .i64 0, .int .i64 0, .int .i64 0, .int .i64 0, .int .i64 0], .struct [(0, 24), (5, 51), (8, 3), (9, 3), (10, 3), (11, 3), (12, 3)], none⟩
  | 66 => some ⟨1, 8, [.val (.pointer none)], .pointer, none⟩
  | 72 => some ⟨1, 8, [.int .u64 0], .int .u64, none⟩
  | 78 => some ⟨1, 24, [nilSV], .slice 80, none⟩
  | 79 => some ⟨4, 32, [.int .i64 0, .int .i64 0, .int .i64 0, .int .i64 0], .struct [(0, 3), (1, 3), (2, 3), (3, 3)], (some [true, true, true, true])⟩
  | 80 => some ⟨4, 32, [.int .i64 0, .int .i64 0, .int .i64 0, .int .i64 0], .struct [(0, 3), (1, 3), (2, 3), (3, 3)], (some [true, true, true, true])⟩
  | 82 => some ⟨3, 24, [.int .i64 0, .int .i64 0, .int .i64 0], .array 3 3, (some [true, true, true])⟩
  | 87 => some ⟨1, 8, [.val (.pointer none)], .pointer, none⟩
  | 92 => some ⟨0, 0, [], .array 0 16, none⟩
  | 93 => some ⟨0, 0, [], .struct [(0, 92)], none⟩
  | 94 => some ⟨0, 0, [], .struct [(0, 92)], none⟩
  | 96 => some ⟨1, 4, [.int .u32 0], .int .u32, none⟩
  | 97 => some ⟨1, 1, [.int .u8 0], .int .u8, none⟩
  | 98 => some ⟨1, 1, [.int .u8 0], .int .u8, none⟩
  | 100 => some ⟨1, 8, [.val (.pointer none)], .pointer, none⟩
  | 101 => some ⟨1, 4, [.int .i32 0], .int .i32, none⟩
  | 102 => some ⟨1, 4, [.int .i32 0], .int .i32, none⟩
  | 103 => some ⟨11, 48, [.int .u64 0, .int .u64 0, .int .u32 0, .int .u8 0, .int .u8 0, .int .u8 0, .int .u8 0, .val .nilFunc, .val (.pointer none), .int .i32 0, .int .i32 0], .struct [(0, 12), (1, 12), (2, 96), (3, 97), (4, 5), (5, 5), (6, 98), (7, 99), (8, 100), (9, 101), (10, 102)], none⟩
  | 104 => some ⟨11, 48, [.int .u64 0, .int .u64 0, .int .u32 0, .int .u8 0, .int .u8 0, .int .u8 0, .int .u8 0, .val .nilFunc, .val (.pointer none), .int .i32 0, .int .i32 0], .struct [(0, 12), (1, 12), (2, 96), (3, 97), (4, 5), (5, 5), (6, 98), (7, 99), (8, 100), (9, 101), (10, 102)], none⟩
  | _ => none
theorem tt2 : TtOk Try.prog 2 ⟨1, 8, [.int .i64 0], .int .i64, none⟩ := TtOk.of (z := .int .i64 0) (by kernel_rfl) (by kernel_rfl) (by simp [Dens, Den, nilSV, nilLoc0, Value.cells]) (by simp [TT.agg, Value.cells]) Try.underlying2 (by first | exact ⟨_, rfl, rfl⟩ | rfl | exact ⟨_, rfl⟩) (by first | rfl | kernel_rfl) rfl
theorem tt3 : TtOk Try.prog 3 ⟨1, 8, [.int .i64 0], .int .i64, none⟩ := TtOk.of (z := .int .i64 0) (by kernel_rfl) (by kernel_rfl) (by simp [Dens, Den, nilSV, nilLoc0, Value.cells]) (by simp [TT.agg, Value.cells]) Try.underlying3 (by first | exact ⟨_, rfl, rfl⟩ | rfl | exact ⟨_, rfl⟩) (by first | rfl | kernel_rfl) rfl
theorem tt4 : TtOk Try.prog 4 ⟨1, 1, [.bool false], .bool, none⟩ := TtOk.of (z := .bool false) (by kernel_rfl) (by kernel_rfl) (by simp [Dens, Den, nilSV, nilLoc0, Value.cells]) (by simp [TT.agg, Value.cells]) Try.underlying4 (by first | exact ⟨_, rfl, rfl⟩ | rfl | exact ⟨_, rfl⟩) (by first | rfl | kernel_rfl) rfl
theorem tt5 : TtOk Try.prog 5 ⟨1, 1, [.int .u8 0], .int .u8, none⟩ := TtOk.of (z := .int .u8 0) (by kernel_rfl) (by kernel_rfl) (by simp [Dens, Den, nilSV, nilLoc0, Value.cells]) (by simp [TT.agg, Value.cells]) Try.underlying5 (by first | exact ⟨_, rfl, rfl⟩ | rfl | exact ⟨_, rfl⟩) (by first | rfl | kernel_rfl) rfl
theorem tt6 : TtOk Try.prog 6 ⟨1, 1, [.int .u8 0], .int .u8, none⟩ := TtOk.of (z := .int .u8 0) (by kernel_rfl) (by kernel_rfl) (by simp [Dens, Den, nilSV, nilLoc0, Value.cells]) (by simp [TT.agg, Value.cells]) Try.underlying6 (by first | exact ⟨_, rfl, rfl⟩ | rfl | exact ⟨_, rfl⟩) (by first | rfl | kernel_rfl) rfl
theorem tt7 : TtOk Try.prog 7 ⟨4, 24, [.int .i64 0, .int .i64 0, .bool false, .int .u8 0], .struct [(0, 2), (1, 3), (2, 4), (3, 6)], (some [true, true, false, true])⟩ := TtOk.of (z := .agg #[.int .i64 0, .int .i64 0, .bool false, .int .u8 0]) (by kernel_rfl) (by kernel_rfl) (by simp [Dens, Den, nilSV, nilLoc0, Value.cells]) (by simp [TT.agg, Value.cells]) Try.underlying7 (by first | exact ⟨_, rfl, rfl⟩ | rfl | exact ⟨_, rfl⟩) (by first | rfl | kernel_rfl) rfl
theorem tt8 : TtOk Try.prog 8 ⟨4, 24, [.int .i64 0, .int .i64 0, .bool false, .int .u8 0], .struct [(0, 2), (1, 3), (2, 4), (3, 6)], (some [true, true, false, true])⟩ := TtOk.of (z := .agg #[.int .i64 0, .int .i64 0, .bool false, .int .u8 0]) (by kernel_rfl) (by kernel_rfl) (by simp [Dens, Den, nilSV, nilLoc0, Value.cells]) (by simp [TT.agg, Value.cells]) Try.underlying8 (by first | exact ⟨_, rfl, rfl⟩ | rfl | exact ⟨_, rfl⟩) (by first | rfl | kernel_rfl) rfl
theorem tt12 : TtOk Try.prog 12 ⟨1, 8, [.int .u64 0], .int .u64, none⟩ := TtOk.of (z := .int .u64 0) (by kernel_rfl) (by kernel_rfl) (by simp [Dens, Den, nilSV, nilLoc0, Value.cells]) (by simp [TT.agg, Value.cells]) Try.underlying12 (by first | exact ⟨_, rfl, rfl⟩ | rfl | exact ⟨_, rfl⟩) (by first | rfl | kernel_rfl) rfl
theorem tt15 : TtOk Try.prog 15 ⟨1, 8, [.val (.pointer none)], .pointer, none⟩ := TtOk.of (z := .pointer none) (by kernel_rfl) (by kernel_rfl) (by simp [Dens, Den, nilSV, nilLoc0, Value.cells]) (by simp [TT.agg, Value.cells]) Try.underlying15 (by first | exact ⟨_, rfl, rfl⟩ | rfl | exact ⟨_, rfl⟩) (by first | rfl | kernel_rfl) rfl
theorem tt16 : TtOk Try.prog 16 ⟨1, 8, [.val (.pointer none)], .pointer, none⟩ := TtOk.of (z := .pointer none) (by kernel_rfl) (by kernel_rfl) (by simp [Dens, Den, nilSV, nilLoc0, Value.cells]) (by simp [TT.agg, Value.cells]) Try.underlying16 (by first | exact ⟨_, rfl, rfl⟩ | rfl | exact ⟨_, rfl⟩) (by first | rfl | kernel_rfl) rfl
theorem tt17 : TtOk Try.prog 17 ⟨1, 8, [.val (.pointer none)], .pointer, none⟩ := TtOk.of (z := .pointer none) (by kernel_rfl) (by kernel_rfl) (by simp [Dens, Den, nilSV, nilLoc0, Value.cells]) (by simp [TT.agg, Value.cells]) Try.underlying17 (by first | exact ⟨_, rfl, rfl⟩ | rfl | exact ⟨_, rfl⟩) (by first | rfl | kernel_rfl) rfl
theorem tt18 : TtOk Try.prog 18 ⟨1, 8, [.val (.pointer none)], .struct [(0, 17)], none⟩ := TtOk.of (z := .agg #[.pointer none]) (by kernel_rfl) (by kernel_rfl) (by simp [Dens, Den, nilSV, nilLoc0, Value.cells]) (by simp [TT.agg, Value.cells]) Try.underlying18 (by first | exact ⟨_, rfl, rfl⟩ | rfl | exact ⟨_, rfl⟩) (by first | rfl | kernel_rfl) rfl
theorem tt19 : TtOk Try.prog 19 ⟨1, 8, [.val (.pointer none)], .struct [(0, 17)], none⟩ := TtOk.of (z := .agg #[.pointer none]) (by kernel_rfl) (by kernel_rfl) (by simp [Dens, Den, nilSV, nilLoc0, Value.cells]) (by simp [TT.agg, Value.cells]) Try.underlying19 (by first | exact ⟨_, rfl, rfl⟩ | rfl | exact ⟨_, rfl⟩) (by first | rfl | kernel_rfl) rfl
theorem tt21 : TtOk Try.prog 21 ⟨1, 4, [.int .i32 0], .int .i32, none⟩ := TtOk.of (z := .int .i32 0) (by kernel_rfl) (by kernel_rfl) (by simp [Dens, Den, nilSV, nilLoc0, Value.cells]) (by simp [TT.agg, Value.cells]) Try.underlying21 (by first | exact ⟨_, rfl, rfl⟩ | rfl | exact ⟨_, rfl⟩) (by first | rfl | kernel_rfl) rfl
theorem tt22 : TtOk Try.prog 22 ⟨1, 24, [nilSV], .slice 3, none⟩ := TtOk.of (z := .slice none 0 0) (by kernel_rfl) (by kernel_rfl) (by simp [Dens, Den, nilSV, nilLoc0, Value.cells]) (by simp [TT.agg, Value.cells]) Try.underlying22 (by first | exact ⟨_, rfl, rfl⟩ | rfl | exact ⟨_, rfl⟩) (by first | rfl | kernel_rfl) rfl
theorem tt23 : TtOk Try.prog 23 ⟨5, 88, [.int .i64 0, .int .i64 0, nilSV, nilSV, nilSV], .struct [(0, 3), (1, 3), (2, 22), (3, 22), (4, 22)], none⟩ := TtOk.of (z := .agg #[.int .i64 0, .int .i64 0, .slice none 0 0, .slice none 0 0, .slice none 0 0]) (by kernel_rfl) (by kernel_rfl) (by simp [Dens, Den, nilSV, nilLoc0, Value.cells]) (by simp [TT.agg, Value.cells]) Try.underlying23 (by first | exact ⟨_, rfl, rfl⟩ | rfl | exact ⟨_, rfl⟩) (by first | rfl | kernel_rfl) rfl
theorem tt24 : TtOk Try.prog 24 ⟨5, 88, [.int .i64 0, .int .i64 0, nilSV, nilSV, nilSV], .struct [(0, 3), (1, 3), (2, 22), (3, 22), (4, 22)], none⟩ := TtOk.of (z := .agg #[.int .i64 0, .int .i64 0, .slice none 0 0, .slice none 0 0, .slice none 0 0]) (by kernel_rfl) (by kernel_rfl) (by simp [Dens, Den, nilSV, nilLoc0, Value.cells]) (by simp [TT.agg, Value.cells]) Try.underlying24 (by first | exact ⟨_, rfl, rfl⟩ | rfl | exact ⟨_, rfl⟩) (by first | rfl | kernel_rfl) rfl
theorem tt25 : TtOk Try.prog 25 ⟨10, 128, [.int .i64 0, .int .i64 0, nilSV, nilSV, nilSV, .int .i64 0, .int .i64 0, .int .i64 0, .int .i64 0, .int .i64 0], .struct [(0, 24), (5, 3), (6, 3), (7, 3), (8, 3), (9, 3)], none⟩ := TtOk.of (z := .agg #[.int .i64 0, .int .i64 0, .slice none 0 0, .slice none 0 0, .slice none 0 0, .int .i64 0, .int .i64 0, .int .i64 0, .int .i64 0, .int .i64 0]) (by kernel_rfl) (by kernel_rfl) (by simp [Dens, Den, nilSV, nilLoc0, Value.cells]) (by simp [TT.agg, Value.cells]) Try.underlying25 (by first | exact ⟨_, rfl, rfl⟩ | rfl | exact ⟨_, rfl⟩) (by first | rfl | kernel_rfl) rfl
theorem tt26 : TtOk Try.prog 26 ⟨10, 128, [.int .i64 0, .int .i64 0, nilSV, nilSV, nilSV, .int .i64 0, .int .i64 0, .int .i64 0, .int .i64 0, .int .i64 0], .struct [(0, 24), (5, 3), (6, 3), (7, 3), (8, 3), (9, 3)], none⟩ := TtOk.of (z := .agg #[.int .i64 0, .int .i64 0, .slice none 0 0, .slice none 0 0, .slice none 0 0, .int .i64 0, .int .i64 0, .int .i64 0, .int .i64 0, .int .i64 0]) (by kernel_rfl) (by kernel_rfl) (by simp [Dens, Den, nilSV, nilLoc0, Value.cells]) (by simp [TT.agg, Value.cells]) Try.underlying26 (by first | exact ⟨_, rfl, rfl⟩ | rfl | exact ⟨_, rfl⟩) (by first | rfl | kernel_rfl) rfl
theorem tt29 : TtOk Try.prog 29 ⟨1, 8, [.int .i64 0], .int .i64, none⟩ := TtOk.of (z := .int .i64 0) (by kernel_rfl) (by kernel_rfl) (by simp [Dens, Den, nilSV, nilLoc0, Value.cells]) (by simp [TT.agg, Value.cells]) Try.underlying29 (by first | exact ⟨_, rfl, rfl⟩ | rfl | exact ⟨_, rfl⟩) (by first | rfl | kernel_rfl) rfl
theorem tt34 : TtOk Try.prog 34 ⟨9, 120, [.int .i64 0, .int .i64 0, nilSV, nilSV, nilSV, .int .i64 0, .int .i64 0, .int .i64 0, .int .i64 0], .struct [(0, 24), (5, 3), (6, 3), (7, 3), (8, 3)], none⟩ := TtOk.of (z := .agg #[.int .i64 0, .int .i64 0, .slice none 0 0, .slice none 0 0, .slice none 0 0, .int .i64 0, .int .i64 0, .int .i64 0, .int .i64 0]) (by kernel_rfl) (by kernel_rfl) (by simp [Dens, Den, nilSV, nilLoc0, Value.cells]) (by simp [TT.agg, Value.cells]) Try.underlying34 (by first | exact ⟨_, rfl, rfl⟩ | rfl | exact ⟨_, rfl⟩) (by first | rfl | kernel_rfl) rfl
theorem tt35 : TtOk Try.prog 35 ⟨9, 120, [.int .i64 0, .int .i64 0, nilSV, nilSV, nilSV, .int .i64 0, .int .i64 0, .int .i64 0, .int .i64 0], .struct [(0, 24), (5, 3), (6, 3), (7, 3), (8, 3)], none⟩ := TtOk.of (z := .agg #[.int .i64 0, .int .i64 0, .slice none 0 0, .slice none 0 0, .slice none 0 0, .int .i64 0, .int .i64 0, .int .i64 0, .int .i64 0]) (by kernel_rfl) (by kernel_rfl) (by simp [Dens, Den, nilSV, nilLoc0, Value.cells]) (by simp [TT.agg, Value.cells]) Try.underlying35 (by first | exact ⟨_, rfl, rfl⟩ | rfl | exact ⟨_, rfl⟩) (by first | rfl | kernel_rfl) rfl
theorem tt38 : TtOk Try.prog 38 ⟨3, 40, [.int .i64 0, .int .i64 0, nilSV], .struct [(0, 3), (1, 3), (2, 22)], none⟩ := TtOk.of (z := .agg #[.int .i64 0, .int .i64 0, .slice none 0 0]) (by kernel_rfl) (by kernel_rfl) (by simp [Dens, Den, nilSV, nilLoc0, Value.cells]) (by simp [TT.agg, Value.cells]) Try.underlying38 (by first | exact ⟨_, rfl, rfl⟩ | rfl | exact ⟨_, rfl⟩) (by first | rfl | kernel_rfl) rfl
theorem tt39 : TtOk Try.prog 39 ⟨3, 40, [.int .i64 0, .int .i64 0, nilSV], .struct [(0, 3), (1, 3), (2, 22)], none⟩ := TtOk.of (z := .agg #[.int .i64 0, .int .i64 0, .slice none 0 0]) (by kernel_rfl) (by kernel_rfl) (by simp [Dens, Den, nilSV, nilLoc0, Value.cells]) (by simp [TT.agg, Value.cells]) Try.underlying39 (by first | exact ⟨_, rfl, rfl⟩ | rfl | exact ⟨_, rfl⟩) (by first | rfl | kernel_rfl) rfl
theorem tt49 : TtOk Try.prog 49 ⟨1, 24, [nilSV], .slice 5, none⟩ := TtOk.of (z := .slice none 0 0) (by kernel_rfl) (by kernel_rfl) (by simp [Dens, Den, nilSV, nilLoc0, Value.cells]) (by simp [TT.agg, Value.cells]) Try.underlying49 (by first | exact ⟨_, rfl, rfl⟩ | rfl | exact ⟨_, rfl⟩) (by first | rfl | kernel_rfl) rfl
theorem tt50 : TtOk Try.prog 50 ⟨3, 40, [.int .i64 0, .int .i64 0, nilSV], .struct [(0, 3), (1, 3), (2, 49)], none⟩ := TtOk.of (z := .agg #[.int .i64 0, .int .i64 0, .slice none 0 0]) (by kernel_rfl) (by kernel_rfl) (by simp [Dens, Den, nilSV, nilLoc0, Value.cells]) (by simp [TT.agg, Value.cells]) Try.underlying50 (by first | exact ⟨_, rfl, rfl⟩ | rfl | exact ⟨_, rfl⟩) (by first | rfl | kernel_rfl) rfl
theorem tt51 : TtOk Try.prog 51 ⟨3, 40, [.int .i64 0, .int .i64 0, nilSV], .struct [(0, 3), (1, 3), (2, 49)], none⟩ := TtOk.of (z := .agg #[.int .i64 0, .int .i64 0, .slice none 0 0]) (by kernel_rfl) (by kernel_rfl) (by simp [Dens, Den, nilSV, nilLoc0, Value.cells]) (by simp [TT.agg, Value.cells]) Try.underlying51 (by first | exact ⟨_, rfl, rfl⟩ | rfl | exact ⟨_, rfl⟩) (by first | rfl | kernel_rfl) rfl
theorem tt52 : TtOk Try.prog 52 ⟨13, 168, [.int .i64 0, .int .i64 0, nilSV, nilSV, nilSV, .int .i64 0, .int .i64 0, nilSV, .int .i64 0, .int .i64 0, .int .i64 0, .int .i64 0, .int .i64 0], .struct [(0, 24), (5, 51), (8, 3), (9, 3), (10, 3), (11, 3), (12, 3)], none⟩ := TtOk.of (z := .agg #[.int .i64 0, .int .i64 0, .slice none 0 0, .slice none 0 0, .slice none 0 0, .int .i64 0, .int .i64 0, .slice none 0 0, .int .i64 0, .int .i64 0, .int .i64 0, .int .i64 0, .int .i64 0]) (by kernel_rfl) (by kernel_rfl) (by simp [Dens, Den, nilSV, nilLoc0, Value.cells]) (by simp [TT.agg, Value.cells]) Try.underlying52 (by first | exact ⟨_, rfl, rfl⟩ | rfl | exact ⟨_, rfl⟩) (by first | rfl | kernel_rfl) rfl
theorem tt53 : TtOk Try.prog 53 ⟨13, 168, [.int .i64 0, .int .i64 0, nilSV, nilSV, nilSV, .int .i64 0, .int .i64 0, nilSV, .int .i64 0, .int .i64 0, .int .i64 0, .int .i64 0, .int .i64 0], .struct [(0, 24), (5, 51), (8, 3), (9, 3), (10, 3), (11, 3), (12, 3)], none⟩ := TtOk.of (z := .agg #[.int .i64 0, .int .i64 0, .slice none 0 0, .slice none 0 0, .slice none 0 0, .int .i64 0, .int .i64 0, .slice none 0 0, .int .i64 0, .int .i64 0, .int .i64 0, .int .i64 0, .int .i64 0]) (by kernel_rfl) (by kernel_rfl) (by simp [Dens, Den, nilSV, nilLoc0, Value.cells]) (by simp [TT.agg, Value.cells]) Try.underlying53 (by first | exact ⟨_, rfl, rfl⟩ | rfl | exact ⟨_, rfl⟩) (by first | rfl | kernel_rfl) rfl
theorem tt66 : TtOk Try.prog 66 ⟨1, 8, [.val (.pointer none)], .pointer, none⟩ := TtOk.of (z := .pointer none) (by kernel_rfl) (by kernel_rfl) (by simp [Dens, Den, nilSV, nilLoc0, Value.cells]) (by simp [TT.agg, Value.cells]) Try.underlying66 (by first | exact ⟨_, rfl, rfl⟩ | rfl | exact ⟨_, rfl⟩) (by first | rfl | kernel_rfl) rfl
theorem tt72 : TtOk Try.prog 72 ⟨1, 8, [.int .u64 0], .int .u64, none⟩ := TtOk.of (z := .int .u64 0) (by kernel_rfl) (by kernel_rfl) (by simp [Dens, Den, nilSV, nilLoc0, Value.cells]) (by simp [TT.agg, Value.cells]) Try.underlying72 (by first | exact ⟨_, rfl, rfl⟩ | rfl | exact ⟨_, rfl⟩) (by first | rfl | kernel_rfl) rfl
theorem tt78 : TtOk Try.prog 78 ⟨1, 24, [nilSV], .slice 80, none⟩ := TtOk.of (z := .slice none 0 0) (by kernel_rfl) (by kernel_rfl) (by simp [Dens, Den, nilSV, nilLoc0, Value.cells]) (by simp [TT.agg, Value.cells]) Try.underlying78 (by first | exact ⟨_, rfl, rfl⟩ | rfl | exact ⟨_, rfl⟩) (by first | rfl | kernel_rfl) rfl
theorem tt79 : TtOk Try.prog 79 ⟨4, 32, [.int .i64 0, .int .i64 0, .int .i64 0, .int .i64 0], .struct [(0, 3), (1, 3), (2, 3), (3, 3)], (some [true, true, true, true])⟩ := TtOk.of (z := .agg #[.int .i64 0, .int .i64 0, .int .i64 0, .int .i64 0]) (by kernel_rfl) (by kernel_rfl) (by simp [Dens, Den, nilSV, nilLoc0, Value.cells]) (by simp [TT.agg, Value.cells]) Try.underlying79 (by first | exact ⟨_, rfl, rfl⟩ | rfl | exact ⟨_, rfl⟩) (by first | rfl | kernel_rfl) rfl
theorem tt80 : TtOk Try.prog 80 ⟨4, 32, [.int .i64 0, .int .i64 0, .int .i64 0, .int .i64 0], .struct [(0, 3), (1, 3), (2, 3), (3, 3)], (some [true, true, true, true])⟩ := TtOk.of (z := .agg #[.int .i64 0, .int .i64 0, .int .i64 0, .int .i64 0]) (by kernel_rfl) (by kernel_rfl) (by simp [Dens, Den, nilSV, nilLoc0, Value.cells]) (by simp [TT.agg, Value.cells]) Try.underlying80 (by first | exact ⟨_, rfl, rfl⟩ | rfl | exact ⟨_, rfl⟩) (by first | rfl | kernel_rfl) rfl
theorem tt82 : TtOk Try.prog 82 ⟨3, 24, [.int .i64 0, .int .i64 0, .int .i64 0], .array 3 3, (some [true, true, true])⟩ := TtOk.of (z := .agg #[.int .i64 0, .int .i64 0, .int .i64 0]) (by kernel_rfl) (by kernel_rfl) (by simp [Dens, Den, nilSV, nilLoc0, Value.cells]) (by simp [TT.agg, Value.cells]) Try.underlying82 (by first | exact ⟨_, rfl, rfl⟩ | rfl | exact ⟨_, rfl⟩) (by first | rfl | kernel_rfl) rfl
theorem tt87 : TtOk Try.prog 87 ⟨1, 8, [.val (.pointer none)], .pointer, none⟩ := TtOk.of (z := .pointer none) (by kernel_rfl) (by kernel_rfl) (by simp [Dens, Den, nilSV, nilLoc0, Value.cells]) (by simp [TT.agg, Value.cells]) Try.underlying87 (by first | exact ⟨_, rfl, rfl⟩ | rfl | exact ⟨_, rfl⟩) (by first | rfl | kernel_rfl) rfl
theorem tt92 : TtOk Try.prog 92 ⟨0, 0, [], .array 0 16, none⟩ := TtOk.of (z := .agg #[]) (by kernel_rfl) (by kernel_rfl) (by simp [Dens, Den, nilSV, nilLoc0, Value.cells]) (by simp [TT.agg, Value.cells]) Try.underlying92 (by first | exact ⟨_, rfl, rfl⟩ | rfl | exact ⟨_, rfl⟩) (by first | rfl | kernel_rfl) rfl
theorem tt93 : TtOk Try.prog 93 ⟨0, 0, [], .struct [(0, 92)], none⟩ := TtOk.of (z := .agg #[]) (by kernel_rfl) (by kernel_rfl) (by simp [Dens, Den, nilSV, nilLoc0, Value.cells]) (by simp [TT.agg, Value.cells]) Try.underlying93 (by first | exact ⟨_, rfl, rfl⟩ | rfl | exact ⟨_, rfl⟩) (by first | rfl | kernel_rfl) rfl
theorem tt94 : TtOk Try.prog 94 ⟨0, 0, [], .struct [(0, 92)], none⟩ := TtOk.of (z := .agg #[]) (by kernel_rfl) (by kernel_rfl) (by simp [Dens, Den, nilSV, nilLoc0, Value.cells]) (by simp [TT.agg, Value.cells]) Try.underlying94 (by first | exact ⟨_, rfl, rfl⟩ | rfl | exact ⟨_, rfl⟩) (by first | rfl | kernel_rfl) rfl
theorem tt96 : TtOk Try.prog 96 ⟨1, 4, [.int .u32 0], .int .u32, none⟩ := TtOk.of (z := .int .u32 0) (by kernel_rfl) (by kernel_rfl) (by simp [Dens, Den, nilSV, nilLoc0, Value.cells]) (by simp [TT.agg, Value.cells]) Try.underlying96 (by first | exact ⟨_, rfl, rfl⟩ | rfl | exact ⟨_, rfl⟩) (by first | rfl | kernel_rfl) rfl
theorem tt97 : TtOk Try.prog 97 ⟨1, 1, [.int .u8 0], .int .u8, none⟩ := TtOk.of (z := .int .u8 0) (by kernel_rfl) (by kernel_rfl) (by simp [Dens, Den, nilSV, nilLoc0, Value.cells]) (by simp [TT.agg, Value.cells]) Try.underlying97 (by first | exact ⟨_, rfl, rfl⟩ | rfl | exact ⟨_, rfl⟩) (by first | rfl | kernel_rfl) rfl
theorem tt98 : TtOk Try.prog 98 ⟨1, 1, [.int .u8 0], .int .u8, none⟩ := TtOk.of (z := .int .u8 0) (by kernel_rfl) (by kernel_rfl) (by simp [Dens, Den, nilSV, nilLoc0, Value.cells]) (by simp [TT.agg, Value.cells]) Try.underlying98 (by first | exact ⟨_, rfl, rfl⟩ | rfl | exact ⟨_, rfl⟩) (by first | rfl | kernel_rfl) rfl
theorem tt100 : TtOk Try.prog 100 ⟨1, 8, [.val (.pointer none)], .pointer, none⟩ := TtOk.of (z := .pointer none) (by kernel_rfl) (by kernel_rfl) (by simp [Dens, Den, nilSV, nilLoc0, Value.cells]) (by simp [TT.agg, Value.cells]) Try.underlying100 (by first | exact ⟨_, rfl, rfl⟩ | rfl | exact ⟨_, rfl⟩) (by first | rfl | kernel_rfl) rfl
theorem tt101 : TtOk Try.prog 101 ⟨1, 4, [.int .i32 0], .int .i32, none⟩ := TtOk.of (z := .int .i32 0) (by kernel_rfl) (by kernel_rfl) (by simp [Dens, Den, nilSV, nilLoc0, Value.cells]) (by simp [TT.agg, Value.cells]) Try.underlying101 (by first | exact ⟨_, rfl, rfl⟩ | rfl | exact ⟨_, rfl⟩) (by first | rfl | kernel_rfl) rfl
theorem tt102 : TtOk Try.prog 102 ⟨1, 4, [.int .i32 0], .int .i32, none⟩ := TtOk.of (z := .int .i32 0) (by kernel_rfl) (by kernel_rfl) (by simp [Dens, Den, nilSV, nilLoc0, Value.cells]) (by simp [TT.agg, Value.cells]) Try.underlying102 (by first | exact ⟨_, rfl, rfl⟩ | rfl | exact ⟨_, rfl⟩) (by first | rfl | kernel_rfl) rfl
theorem tt103 : TtOk Try.prog 103 ⟨11, 48, [.int .u64 0, .int .u64 0, .int .u32 0, .int .u8 0, .int .u8 0, .int .u8 0, .int .u8 0, .val .nilFunc, .val (.pointer none), .int .i32 0, .int .i32 0], .struct [(0, 12), (1, 12), (2, 96), (3, 97), (4, 5), (5, 5), (6, 98), (7, 99), (8, 100), (9, 101), (10, 102)], none⟩ := TtOk.of (z := .agg #[.int .u64 0, .int .u64 0, .int .u32 0, .int .u8 0, .int .u8 0, .int .u8 0, .int .u8 0, .nilFunc, .pointer none, .int .i32 0, .int .i32 0]) (by kernel_rfl) (by kernel_rfl) (by simp [Dens, Den, nilSV, nilLoc0, Value.cells]) (by simp [TT.agg, Value.cells]) Try.underlying103 (by first | exact ⟨_, rfl, rfl⟩ | rfl | exact ⟨_, rfl⟩) (by first | rfl | kernel_rfl) rfl
theorem tt104 : TtOk Try.prog 104 ⟨11, 48, [.int .u64 0, .int .u64 0, .int .u32 0, .int .u8 0, .int .u8 0, .int .u8 0, .int .u8 0, .val .nilFunc, .val (.pointer none), .int .i32 0, .int .i32 0], .struct [(0, 12), (1, 12), (2, 96), (3, 97), (4, 5), (5, 5), (6, 98), (7, 99), (8, 100), (9, 101), (10, 102)], none⟩ := TtOk.of (z := .agg #[.int .u64 0, .int .u64 0, .int .u32 0, .int .u8 0, .int .u8 0, .int .u8 0, .int .u8 0, .nilFunc, .pointer none, .int .i32 0, .int .i32 0]) (by kernel_rfl) (by kernel_rfl) (by simp [Dens, Den, nilSV, nilLoc0, Value.cells]) (by simp [TT.agg, Value.cells]) Try.underlying104 (by first | exact ⟨_, rfl, rfl⟩ | rfl | exact ⟨_, rfl⟩) (by first | rfl | kernel_rfl) rfl
theorem hT : ∀ t tt, tab t = some tt → TtOk Try.prog t tt := by
  intro t tt h
  unfold tab at h
  split at h
  · cases h; exact tt2
  · cases h; exact tt3
  · cases h; exact tt4
  · cases h; exact tt5
  · cases h; exact tt6
  · cases h; exact tt7
  · cases h; exact tt8
  · cases h; exact tt12
  · cases h; exact tt15
  · cases h; exact tt16
  · cases h; exact tt17
  · cases h; exact tt18
  · cases h; exact tt19
  · cases h; exact tt21
  · cases h; exact tt22
  · cases h; exact tt23
  · cases h; exact tt24
  · cases h; exact tt25
  · cases h; exact tt26
  · cases h; exact tt29
  · cases h; exact tt34
  · cases h; exact tt35
  · cases h; exact tt38
  · cases h; exact tt39
  · cases h; exact tt49
  · cases h; exact tt50
  · cases h; exact tt51
  · cases h; exact tt52
  · cases h; exact tt53
  · cases h; exact tt66
  · cases h; exact tt72
  · cases h; exact tt78
  · cases h; exact tt79
  · cases h; exact tt80
  · cases h; exact tt82
  · cases h; exact tt87
  · cases h; exact tt92
  · cases h; exact tt93
  · cases h; exact tt94
  · cases h; exact tt96
  · cases h; exact tt97
  · cases h; exact tt98
  · cases h; exact tt100
  · cases h; exact tt101
  · cases h; exact tt102
  · cases h; exact tt103
  · cases h; exact tt104
  · cases h
def isP : FuncId → Bool := fun f => f == 39 || f == 40 || f == 43 || f == 44 || f == 48 || f == 50 || f == 52 || f == 58 || f == 62 || f == 63 || f == 69 || f == 72
def ir39 : IR :=
  .seq (.reg false [⟨some 4, none, ⟨[], []⟩, .mov (.k (.bool false))⟩] [4] []) (.seq (.reg false [⟨some 5, none, ⟨[], []⟩, .mov (.t 0)⟩,
    ⟨some 6, none, ⟨[], []⟩, .bin 0 .geq (.t 5) (.k (.int .i64 0))⟩,
    ⟨some 7, none, ⟨[], []⟩, .mov (.t 6)⟩,
    ⟨some 8, some (7, true), ⟨[], []⟩, .mov (.t 1)⟩,
    ⟨some 9, some (7, true), ⟨[], []⟩, .bin 0 .geq (.t 8) (.k (.int .i64 0))⟩,
    ⟨some 10, none, ⟨[], []⟩, .pick (.t 7) (.t 9) (.k (.bool false))⟩,
    ⟨some 11, none, ⟨[], []⟩, .mov (.t 10)⟩,
    ⟨some 12, some (11, true), ⟨[], []⟩, .mov (.t 0)⟩,
    ⟨some 13, some (11, true), ⟨[], []⟩, .bin 0 .leq (.t 12) (.k (.int .i64 200))⟩,
    ⟨some 14, none, ⟨[], []⟩, .pick (.t 11) (.t 13) (.k (.bool false))⟩,
    ⟨some 15, none, ⟨[], []⟩, .mov (.t 14)⟩,
    ⟨some 16, some (15, true), ⟨[], []⟩, .mov (.t 1)⟩,
    ⟨some 17, some (15, true), ⟨[], []⟩, .bin 0 .leq (.t 16) (.k (.int .i64 200))⟩,
    ⟨some 18, none, ⟨[], []⟩, .pick (.t 15) (.t 17) (.k (.bool false))⟩,
    ⟨some 19, none, ⟨[], []⟩, .mov (.t 18)⟩,
    ⟨some 20, some (19, true), ⟨[], []⟩, .mov (.t 0)⟩,
    ⟨some 21, some (19, true), ⟨[], []⟩, .mov (.t 1)⟩,
    ⟨some 22, some (19, true), ⟨[], []⟩, .bin 0 .mul (.t 20) (.t 21)⟩,
    ⟨some 23, some (19, true), ⟨[], []⟩, .bin 0 .leq (.t 22) (.k (.int .i64 8192))⟩,
    ⟨some 24, none, ⟨[], []⟩, .pick (.t 19) (.t 23) (.k (.bool false))⟩,
    ⟨some 4, none, ⟨[], []⟩, .mov (.t 24)⟩] [0, 1, 5, 6, 7, 8, 9, 10, 11, 12, 13, 14, 15, 16, 17, 18, 19, 20, 21, 22, 23, 24] []) (.ret))
set_option maxRecDepth 4000 in
theorem comp39 : (Try.f39.body.bind fun c => compC tab isP chkAll ir39 c) = some ir39 := by kernel_rfl
def ir43 : IR :=
  .seq (.reg false [⟨some 4, none, ⟨[], []⟩, .mov (.k (.bool false))⟩] [4] []) (.seq (.reg false [⟨some 5, none, ⟨[], []⟩, .mov (.t 0)⟩,
    ⟨some 6, none, ⟨[], []⟩, .bin 0 .geq (.t 5) (.k (.int .i64 0))⟩,
    ⟨some 7, none, ⟨[], []⟩, .mov (.t 6)⟩,
    ⟨some 8, some (7, true), ⟨[], []⟩, .mov (.t 1)⟩,
    ⟨some 9, some (7, true), ⟨[], []⟩, .bin 0 .geq (.t 8) (.k (.int .i64 0))⟩,
    ⟨some 10, none, ⟨[], []⟩, .pick (.t 7) (.t 9) (.k (.bool false))⟩,
    ⟨some 11, none, ⟨[], []⟩, .mov (.t 10)⟩,
    ⟨some 12, some (11, true), ⟨[], []⟩, .mov (.t 0)⟩,
    ⟨some 13, some (11, true), ⟨[], []⟩, .bin 0 .leq (.t 12) (.k (.int .i64 200))⟩,
    ⟨some 14, none, ⟨[], []⟩, .pick (.t 11) (.t 13) (.k (.bool false))⟩,
    ⟨some 15, none, ⟨[], []⟩, .mov (.t 14)⟩,
    ⟨some 16, some (15, true), ⟨[], []⟩, .mov (.t 1)⟩,
    ⟨some 17, some (15, true), ⟨[], []⟩, .bin 0 .leq (.t 16) (.k (.int .i64 200))⟩,
    ⟨some 18, none, ⟨[], []⟩, .pick (.t 15) (.t 17) (.k (.bool false))⟩,
    ⟨some 19, none, ⟨[], []⟩, .mov (.t 18)⟩,
    ⟨some 20, some (19, true), ⟨[], []⟩, .mov (.t 0)⟩,
    ⟨some 21, some (19, true), ⟨[], []⟩, .mov (.t 1)⟩,
    ⟨some 22, some (19, true), ⟨[], []⟩, .bin 0 .mul (.t 20) (.t 21)⟩,
    ⟨some 23, some (19, true), ⟨[], []⟩, .bin 0 .leq (.t 22) (.k (.int .i64 8192))⟩,
    ⟨some 24, none, ⟨[], []⟩, .pick (.t 19) (.t 23) (.k (.bool false))⟩,
    ⟨some 4, none, ⟨[], []⟩, .mov (.t 24)⟩] [0, 1, 5, 6, 7, 8, 9, 10, 11, 12, 13, 14, 15, 16, 17, 18, 19, 20, 21, 22, 23, 24] []) (.ret))
set_option maxRecDepth 4000 in
theorem comp43 : (Try.f43.body.bind fun c => compC tab isP chkAll ir43 c) = some ir43 := by kernel_rfl
def ir40 : IR :=
  .seq (.reg false [⟨some 2, none, ⟨[], []⟩, .mov (.k (.bool false))⟩] [2] []) (.seq (.reg false [⟨some 3, none, ⟨[], []⟩, .mov (.t 0)⟩,
    ⟨some 4, none, ⟨[], []⟩, .bin 0 .geq (.t 3) (.k (.int .i64 0))⟩,
    ⟨some 5, none, ⟨[], []⟩, .mov (.t 4)⟩,
    ⟨some 6, some (5, true), ⟨[], []⟩, .mov (.t 0)⟩,
    ⟨some 7, some (5, true), ⟨[], []⟩, .bin 0 .leq (.t 6) (.k (.int .i64 255))⟩,
    ⟨some 8, none, ⟨[], []⟩, .pick (.t 5) (.t 7) (.k (.bool false))⟩,
    ⟨some 2, none, ⟨[], []⟩, .mov (.t 8)⟩] [0, 3, 4, 5, 6, 7, 8] []) (.ret))
set_option maxRecDepth 4000 in
theorem comp40 : (Try.f40.body.bind fun c => compC tab isP chkAll ir40 c) = some ir40 := by kernel_rfl
def ir44 : IR :=
  .seq (.reg false [⟨some 2, none, ⟨[], []⟩, .mov (.k (.bool false))⟩] [2] []) (.seq (.reg false [⟨some 3, none, ⟨[], []⟩, .mov (.t 0)⟩,
    ⟨some 4, none, ⟨[], []⟩, .bin 0 .geq (.t 3) (.k (.int .i64 0))⟩,
    ⟨some 5, none, ⟨[], []⟩, .mov (.t 4)⟩,
    ⟨some 6, some (5, true), ⟨[], []⟩, .mov (.t 0)⟩,
    ⟨some 7, some (5, true), ⟨[], []⟩, .bin 0 .leq (.t 6) (.k (.int .i64 255))⟩,
    ⟨some 8, none, ⟨[], []⟩, .pick (.t 5) (.t 7) (.k (.bool false))⟩,
    ⟨some 2, none, ⟨[], []⟩, .mov (.t 8)⟩] [0, 3, 4, 5, 6, 7, 8] []) (.ret))
set_option maxRecDepth 4000 in
theorem comp44 : (Try.f44.body.bind fun c => compC tab isP chkAll ir44 c) = some ir44 := by kernel_rfl
def ir67 : IR :=
  .seq (.reg false [⟨some 2, none, ⟨[], []⟩, .mov (.k (.bool false))⟩] [2] []) (.seq (.reg false [⟨some 3, none, ⟨[], []⟩, .mov (.t 0)⟩,
    ⟨some 4, none, ⟨[], []⟩, .callp 40 [.t 3]⟩,
    ⟨some 5, none, ⟨[], []⟩, .not (.t 4)⟩,
    ⟨some 2, none, ⟨[], []⟩, .mov (.t 5)⟩] [0, 3, 4, 5] []) (.ret))
set_option maxRecDepth 4000 in
theorem comp67 : (Try.f67.body.bind fun c => compC tab isP chkAll ir67 c) = some ir67 := by kernel_rfl
theorem mixed : Try.prog.follows .mixedOrders = true := by kernel_rfl
theorem hyp {l : List (FuncId × Entry)} {lp : List (FuncId × EntryP)} (h : allOk Try.prog l) (hp : allPOk Try.prog lp) : Hyp Try.prog tab isP (spList l) (spPList lp) chkAll :=
  ⟨hT, spPList_ok hp, spList_ok h, draw_ok mixed hT (spPList_ok hp) (spList_ok h)⟩
def SidesOk (w h : Int) : Prop := 0 ≤ w ∧ 0 ≤ h ∧ w ≤ 200 ∧ h ≤ 200 ∧ w * h ≤ 8192
instance (w h : Int) : Decidable (SidesOk w h) := by unfold SidesOk; infer_instance
def ValOk (n : Int) : Prop := 0 ≤ n ∧ n ≤ 255
instance (n : Int) : Decidable (ValOk n) := by unfold ValOk; infer_instance
theorem SidesOk.bd {w h : Int} (H : SidesOk w h) : 0 ≤ w * h ∧ w * h ≤ 8192 := ⟨Int.mul_nonneg H.1 H.2.1, H.2.2.2.2⟩
def sidesF : EntryP
  | [.int .i64 w, .int .i64 h] => some (True, .bool (decide (SidesOk w h)))
  | _ => none
def valF : EntryP
  | [.int .i64 n] => some (True, .bool (decide (ValOk n)))
  | _ => none
def nvalF : EntryP
  | [.int .i64 n] => some (True, .bool (decide (¬ ValOk n)))
  | _ => none
attribute [push_cast] sidesF valF nvalF
theorem p39 : EntryPOk Try.prog 39 sidesF := by
  refine ⟨⟨_, Try.func39, by kernel_rfl, by kernel_rfl⟩, fun us p v h hp => ?_⟩
  unfold sidesF at h
  split at h <;> cases h
  refine tri_evS (hyp (l := []) (lp := []) trivial trivial) Try.func39 comp39 (rs := [.tmp 4]) (by rfl) Try.ntmps39 10 ?_
  simp -implicitDefEqProofs only [push_cast, false_implies, reduceCtorEq, Classical.not_not, Nat.reduceAdd, Nat.reduceSub, Nat.reduceMul, Nat.reduceLeDiff, Nat.reduceLT, Nat.reduceEqDiff, Nat.reduceBEq, Nat.reduceBNe, Int.reduceNeg, Int.reduceToNat, Bool.or_false, Bool.false_or, Bool.or_true, Bool.true_or, BEq.rfl, Bool.not_eq_true, Bool.not_eq_false, decide_eq_true_eq, not_true_eq_false, not_false_eq_true, ite_true, ite_false, List.append_nil, and_assoc, Nat.mul_zero, Nat.zero_mul, ir39, sidesF]
  refine ⟨fun h => ?_, by simp only [SidesOk, and_assoc]⟩
  have := mul_bd h.1 h.2.2.1 h.2.1 h.2.2.2
  omega
theorem p43 : EntryPOk Try.prog 43 sidesF := by
  refine ⟨⟨_, Try.func43, by kernel_rfl, by kernel_rfl⟩, fun us p v h hp => ?_⟩
  unfold sidesF at h
  split at h <;> cases h
  refine tri_evS (hyp (l := []) (lp := []) trivial trivial) Try.func43 comp43 (rs := [.tmp 4]) (by rfl) Try.ntmps43 10 ?_
  simp -implicitDefEqProofs only [push_cast, false_implies, reduceCtorEq, Classical.not_not, Nat.reduceAdd, Nat.reduceSub, Nat.reduceMul, Nat.reduceLeDiff, Nat.reduceLT, Nat.reduceEqDiff, Nat.reduceBEq, Nat.reduceBNe, Int.reduceNeg, Int.reduceToNat, Bool.or_false, Bool.false_or, Bool.or_true, Bool.true_or, BEq.rfl, Bool.not_eq_true, Bool.not_eq_false, decide_eq_true_eq, not_true_eq_false, not_false_eq_true, ite_true, ite_false, List.append_nil, and_assoc, Nat.mul_zero, Nat.zero_mul, ir43, sidesF]
  refine ⟨fun h => ?_, by simp only [SidesOk, and_assoc]⟩
  have := mul_bd h.1 h.2.2.1 h.2.1 h.2.2.2
  omega
theorem p40 : EntryPOk Try.prog 40 valF := by
  refine ⟨⟨_, Try.func40, by kernel_rfl, by kernel_rfl⟩, fun us p v h hp => ?_⟩
  unfold valF at h
  split at h <;> cases h
  refine tri_evS (hyp (l := []) (lp := []) trivial trivial) Try.func40 comp40 (rs := [.tmp 2]) (by rfl) Try.ntmps40 10 ?_
  simp -implicitDefEqProofs only [push_cast, false_implies, reduceCtorEq, Classical.not_not, Nat.reduceAdd, Nat.reduceSub, Nat.reduceMul, Nat.reduceLeDiff, Nat.reduceLT, Nat.reduceEqDiff, Nat.reduceBEq, Nat.reduceBNe, Int.reduceNeg, Int.reduceToNat, Bool.or_false, Bool.false_or, Bool.or_true, Bool.true_or, BEq.rfl, Bool.not_eq_true, Bool.not_eq_false, decide_eq_true_eq, not_true_eq_false, not_false_eq_true, ite_true, ite_false, List.append_nil, and_assoc, Nat.mul_zero, Nat.zero_mul, ir40, valF]
  rfl
theorem p44 : EntryPOk Try.prog 44 valF := by
  refine ⟨⟨_, Try.func44, by kernel_rfl, by kernel_rfl⟩, fun us p v h hp => ?_⟩
  unfold valF at h
  split at h <;> cases h
  refine tri_evS (hyp (l := []) (lp := []) trivial trivial) Try.func44 comp44 (rs := [.tmp 2]) (by rfl) Try.ntmps44 10 ?_
  simp -implicitDefEqProofs only [push_cast, false_implies, reduceCtorEq, Classical.not_not, Nat.reduceAdd, Nat.reduceSub, Nat.reduceMul, Nat.reduceLeDiff, Nat.reduceLT, Nat.reduceEqDiff, Nat.reduceBEq, Nat.reduceBNe, Int.reduceNeg, Int.reduceToNat, Bool.or_false, Bool.false_or, Bool.or_true, Bool.true_or, BEq.rfl, Bool.not_eq_true, Bool.not_eq_false, decide_eq_true_eq, not_true_eq_false, not_false_eq_true, ite_true, ite_false, List.append_nil, and_assoc, Nat.mul_zero, Nat.zero_mul, ir44, valF]
  rfl
theorem p67 : EntryPOk Try.prog 67 nvalF := by
  refine ⟨⟨_, Try.func67, by kernel_rfl, by kernel_rfl⟩, fun us p v h hp => ?_⟩
  unfold nvalF at h
  split at h <;> cases h
  refine tri_evS (hyp (l := []) (lp := [(40, valF)]) trivial ⟨p40, trivial⟩) Try.func67 comp67 (rs := [.tmp 2]) (by rfl) Try.ntmps67 10 ?_
  simp -implicitDefEqProofs only [push_cast, false_implies, reduceCtorEq, Classical.not_not, Nat.reduceAdd, Nat.reduceSub, Nat.reduceMul, Nat.reduceLeDiff, Nat.reduceLT, Nat.reduceEqDiff, Nat.reduceBEq, Nat.reduceBNe, Int.reduceNeg, Int.reduceToNat, Bool.or_false, Bool.false_or, Bool.or_true, Bool.true_or, BEq.rfl, Bool.not_eq_true, Bool.not_eq_false, decide_eq_true_eq, not_true_eq_false, not_false_eq_true, ite_true, ite_false, List.append_nil, and_assoc, Nat.mul_zero, Nat.zero_mul, ir67, nvalF]
def b71_1 : IR :=
  .seq (.reg false [⟨some 9, none, ⟨[], []⟩, .bin 0 .lss (.t 8) (.t 7)⟩] [] []) (.seq (.cond (.t 9) (.skip) (.exit 0)) (.seq (.block 1 (.seq (.reg false [⟨some 10, none, ⟨[], []⟩, .mov (.t 8)⟩,
    ⟨some 5, none, ⟨[], []⟩, .mov (.t 10)⟩] [9, 10] []) (.seq (.reg false [⟨some 11, none, ⟨[], []⟩, .mov (.t 1)⟩,
    ⟨some 12, none, ⟨[], []⟩, .mov (.t 0)⟩,
    ⟨some 13, none, ⟨[], []⟩, .mov (.t 5)⟩,
    ⟨some 14, none, ⟨[], []⟩, .idxS (.t 12) (.t 13) 1⟩,
    ⟨some 15, none, ⟨[], []⟩, .ld true none 0 0 (.t 14)⟩,
    ⟨some 16, none, ⟨[], []⟩, .callv (some 4) 10 (.t 11) [.t 15]⟩] [11, 12, 13, 14, 15] []) (.cond (.t 16) (.seq (.reg false [⟨some 17, none, ⟨[], []⟩, .mov (.t 5)⟩,
    ⟨some 4, none, ⟨[], []⟩, .mov (.t 17)⟩] [0, 1, 5, 7, 8, 16, 17] []) (.ret)) (.skip))))) (.reg false [⟨some 18, none, ⟨[], []⟩, .bin 0 .add (.t 8) (.k (.int .i64 1))⟩,
    ⟨some 8, none, ⟨[], []⟩, .mov (.t 18)⟩] [4, 5, 16, 18] [])))
def r71_2 : IR :=
  .seq (.reg false [⟨some 4, none, ⟨[], []⟩, .mov (.k (.int .i64 (-1)))⟩] [0, 1, 7, 8] []) (.ret)
def ir71 : IR :=
  .seq (.reg false [⟨some 4, none, ⟨[], []⟩, .mov (.k (.int .i64 0))⟩] [4] []) (.seq (.seq (.reg false [⟨some 6, none, ⟨[], []⟩, .mov (.t 0)⟩,
    ⟨some 7, none, ⟨[], []⟩, .len (.t 6)⟩,
    ⟨some 8, none, ⟨[], []⟩, .mov (.k (.int .i64 0))⟩] [6] []) (.block 0 (.loop b71_1))) (r71_2))
set_option maxRecDepth 4000 in
theorem comp71 : (Try.f71.body.bind fun c => compC tab isP chkAll ir71 c) = some ir71 := by kernel_rfl
def ir66 : IR :=
  .seq (.reg false [⟨some 4, none, ⟨[], []⟩, .mov (.k (.bool false))⟩] [4] []) (.seq (.reg false [⟨some 5, none, ⟨[], []⟩, .mov (.t 0)⟩,
    ⟨some 6, none, ⟨[], []⟩, .mov (.t 1)⟩,
    ⟨some 7, none, ⟨[], []⟩, .call (some 4) 10 71 [.t 5, .t 6]⟩,
    ⟨some 8, none, ⟨[], []⟩, .bin 0 .geq (.t 7) (.k (.int .i64 0))⟩,
    ⟨some 4, none, ⟨[], []⟩, .mov (.t 8)⟩] [0, 1, 5, 6, 7, 8] []) (.ret))
set_option maxRecDepth 4000 in
theorem comp66 : (Try.f66.body.bind fun c => compC tab isP chkAll ir66 c) = some ir66 := by kernel_rfl
def ir46 : IR :=
  .seq (.reg false [⟨some 4, none, ⟨[], []⟩, .mov (.k (.bool false))⟩] [4] []) (.seq (.reg false [⟨some 5, none, ⟨[], []⟩, .mov (.t 0)⟩,
    ⟨some 6, none, ⟨[], []⟩, .len (.t 5)⟩,
    ⟨some 7, none, ⟨[], []⟩, .mov (.t 1)⟩,
    ⟨some 8, none, ⟨[], []⟩, .bin 0 .eql (.t 6) (.t 7)⟩,
    ⟨some 9, none, ⟨[], []⟩, .mov (.t 8)⟩,
    ⟨some 10, some (9, true), ⟨[], []⟩, .mov (.t 0)⟩,
    ⟨some 11, some (9, true), ⟨[], []⟩, .call (some 4) 10 66 [.t 10, .k (.fn 67 [])]⟩,
    ⟨some 12, some (9, true), ⟨[], []⟩, .not (.t 11)⟩,
    ⟨some 13, none, ⟨[], []⟩, .pick (.t 9) (.t 12) (.k (.bool false))⟩,
    ⟨some 4, none, ⟨[], []⟩, .mov (.t 13)⟩] [0, 1, 5, 6, 7, 8, 9, 10, 11, 12, 13] []) (.ret))
set_option maxRecDepth 4000 in
theorem comp46 : (Try.f46.body.bind fun c => compC tab isP chkAll ir46 c) = some ir46 := by kernel_rfl
def ir15 : IR :=
  .seq (.reg false [⟨some 1, none, ⟨[], []⟩, .box 10 (.t 0)⟩,
    ⟨some 2, none, ⟨[], []⟩, .mov (.k (.bool false))⟩] [0, 2] []) (.seq (.reg false [⟨some 4, none, ⟨[], []⟩, .fld (.t 1) 0⟩,
    ⟨some 5, none, ⟨[], []⟩, .ld false none 0 0 (.t 4)⟩,
    ⟨some 6, none, ⟨[], []⟩, .fld (.t 1) 1⟩,
    ⟨some 7, none, ⟨[], []⟩, .ld false none 0 0 (.t 6)⟩,
    ⟨some 8, none, ⟨[], []⟩, .bin 1 .mul (.t 5) (.t 7)⟩,
    ⟨some 3, none, ⟨[], []⟩, .mov (.t 8)⟩] [4, 5, 6, 7, 8] []) (.seq (.reg false [⟨some 9, none, ⟨[], []⟩, .fld (.t 1) 0⟩,
    ⟨some 10, none, ⟨[], []⟩, .ld false none 0 0 (.t 9)⟩,
    ⟨some 11, none, ⟨[], []⟩, .fld (.t 1) 1⟩,
    ⟨some 12, none, ⟨[], []⟩, .ld false none 0 0 (.t 11)⟩,
    ⟨some 13, none, ⟨[], []⟩, .callp 39 [.t 10, .t 12]⟩,
    ⟨some 14, none, ⟨[], []⟩, .mov (.t 13)⟩,
    ⟨some 15, some (14, true), ⟨[], []⟩, .fld (.t 1) 2⟩,
    ⟨some 16, some (14, true), ⟨[], []⟩, .ld false none 0 0 (.t 15)⟩,
    ⟨some 17, some (14, true), ⟨[], []⟩, .mov (.t 3)⟩,
    ⟨some 18, some (14, true), ⟨[], []⟩, .call (some 4) 11 46 [.t 16, .t 17]⟩,
    ⟨some 19, none, ⟨[], []⟩, .pick (.t 14) (.t 18) (.k (.bool false))⟩,
    ⟨some 20, none, ⟨[], []⟩, .mov (.t 19)⟩,
    ⟨some 21, some (20, true), ⟨[], []⟩, .fld (.t 1) 3⟩,
    ⟨some 22, some (20, true), ⟨[], []⟩, .ld false none 0 0 (.t 21)⟩,
    ⟨some 23, some (20, true), ⟨[], []⟩, .mov (.t 3)⟩,
    ⟨some 24, some (20, true), ⟨[], []⟩, .call (some 4) 15 46 [.t 22, .t 23]⟩,
    ⟨some 25, none, ⟨[], []⟩, .pick (.t 20) (.t 24) (.k (.bool false))⟩,
    ⟨some 26, none, ⟨[], []⟩, .mov (.t 25)⟩,
    ⟨some 27, some (26, true), ⟨[], []⟩, .fld (.t 1) 4⟩,
    ⟨some 28, some (26, true), ⟨[], []⟩, .ld false none 0 0 (.t 27)⟩,
    ⟨some 29, some (26, true), ⟨[], []⟩, .mov (.t 3)⟩,
    ⟨some 30, some (26, true), ⟨[], []⟩, .call (some 4) 19 46 [.t 28, .t 29]⟩,
    ⟨some 31, none, ⟨[], []⟩, .pick (.t 26) (.t 30) (.k (.bool false))⟩,
    ⟨some 2, none, ⟨[], []⟩, .mov (.t 31)⟩] [1, 3, 9, 10, 11, 12, 13, 14, 15, 16, 17, 18, 19, 20, 21, 22, 23, 24, 25, 26, 27, 28, 29, 30, 31] []) (.ret)))
set_option maxRecDepth 4000 in
theorem comp15 : (Try.f15.body.bind fun c => compC tab isP chkAll ir15 c) = some ir15 := by kernel_rfl
/-- A row that is only read. -/
structure RowA where
  L : Xf.Loc
  xs : List Int
def rowM (a : RowA) : Mem := [some (.ro, a.L, .ints .i64 a.xs)]
attribute [push_cast] rowM
def firstBad (xs : List Int) : Int := if (xs.findIdx fun n => decide (¬ ValOk n)) < xs.length then (xs.findIdx fun n => decide (¬ ValOk n)) else -1
theorem firstBad_at {xs : List Int} {i : Nat} (h : i < xs.length) (hb : ¬ ValOk (rd xs i)) (hj : ∀ j, j < i → ValOk (rd xs (j : Nat))) : firstBad xs = i := by
  have : (xs.findIdx fun n => decide (¬ ValOk n)) = i := by
    rw [List.findIdx_eq h]
    refine ⟨by rw [rd_lt xs i h] at hb; simpa using hb, fun j hji => ?_⟩
    have := hj j hji
    rw [rd_lt xs j (by omega)] at this
    simpa using this
  unfold firstBad
  rw [this, if_pos h]
theorem firstBad_no {xs : List Int} (hj : ∀ j, j < xs.length → ValOk (rd xs (j : Nat))) : firstBad xs = -1 := by
  unfold firstBad
  rw [if_neg]
  intro h
  have := List.findIdx_getElem (w := h)
  have h2 := hj _ h
  rw [rd_lt xs _ h] at h2
  simp only [decide_eq_true_eq] at this
  exact this h2
def AllVal (xs : List Int) : Prop := ∀ n ∈ xs, ValOk n
instance (xs : List Int) : Decidable (AllVal xs) := by unfold AllVal; infer_instance
theorem firstBad_iff (xs : List Int) : 0 ≤ firstBad xs ↔ ¬ AllVal xs := by
  unfold firstBad AllVal
  have h := List.findIdx_lt_length (xs := xs) (p := fun n => decide (¬ ValOk n))
  by_cases hh : (xs.findIdx fun n => decide (¬ ValOk n)) < xs.length
  · rw [if_pos hh]
    obtain ⟨x, hx, hb⟩ := h.1 hh
    constructor
    · intro _ H; simp [H x hx] at hb
    · intro _; omega
  · rw [if_neg hh]
    constructor
    · intro h; omega
    · intro H
      exfalso
      apply hh
      apply h.2
      simp only [Classical.not_forall] at H
      obtain ⟨x, hx, hb⟩ := H
      exact ⟨x, hx, by simpa using hb⟩
def fs71 : FS where
  A := RowA
  args := fun a => [.sl 0 a.L 1 0 a.xs.length, .fn 67 []]
  mem := rowM
  pre := fun a => a.xs.length ≤ 140737488355328
  res := fun a _ => .int .i64 (firstBad a.xs)
  out := fun _ _ => []
  new := fun _ _ => []
def inv71 : List SV → Look → Option (RowA × List Nat)
  | [.sl c _ 1 0 _, .fn 67 []], look => match rowI (look c) with
    | some (L, .i64, xs) => some (⟨L, xs⟩, [c])
    | _ => none
  | _, _ => none
attribute [push_cast] inv71
def I71 (L : Xf.Loc) (xs : List Int) (i : Nat) : List Ent × Mem := ([some (true, .sl 0 L 1 0 xs.length), some (true, .fn 67 []), none, none, none, none, none, some (true, .int .i64 xs.length), some (true, .int .i64 i), none, none, none, none, none, none, none, none, none, none],
    [some (.ro, L, .ints .i64 xs), none, none, none, none, none, none, none, none, none, none, none, none, none])
def lp71 (L : Xf.Loc) (xs : List Int) : LoopS where
  A := Nat
  I := I71 L xs
  R := fun i => i ≤ xs.length ∧ ∀ j, j < i → ValOk (rd xs (j : Nat))
  mu := fun i => xs.length - i
theorem ok71 : FSOk Try.prog 71 fs71 := by
  refine ⟨⟨_, Try.func71, by kernel_rfl, by kernel_rfl⟩, fun a => ⟨by simp [fs71, rowM, push_cast, noMine, argOwn, Chunk.frArg], by simp [fs71, rowM, push_cast, outOk, Chunk.ext], fun x => .inl (by simp [fs71, rowM, push_cast, frNew, frOut, Chunk.fr])⟩, fun a hp => ?_⟩
  obtain ⟨L, xs⟩ := a
  change xs.length ≤ 140737488355328 at hp
  change Tri Try.prog 71 [.sl 0 L 1 0 xs.length, .fn 67 []] [some (.ro, L, .ints .i64 xs)] (postF fs71 ⟨L, xs⟩)
  refine tri_evS (hyp (l := [(67, liftP nvalF)]) (lp := []) ⟨p67.lift, trivial⟩ trivial) Try.func71 comp71 (rs := [.tmp 4]) (by rfl) Try.ntmps71 13 ?_
  simp -implicitDefEqProofs only [push_cast, false_implies, reduceCtorEq, Classical.not_not, Nat.reduceAdd, Nat.reduceSub, Nat.reduceMul, Nat.reduceLeDiff, Nat.reduceLT, Nat.reduceEqDiff, Nat.reduceBEq, Nat.reduceBNe, Int.reduceNeg, Int.reduceToNat, Bool.or_false, Bool.false_or, Bool.or_true, Bool.true_or, BEq.rfl, Bool.not_eq_true, Bool.not_eq_false, decide_eq_true_eq, not_true_eq_false, not_false_eq_true, ite_true, ite_false, List.append_nil, and_assoc, Nat.mul_zero, Nat.zero_mul, ir71]
  refine evS_loop _ _ _ (lp71 L xs) (0 : Nat) ⟨by omega, by omega⟩ (Sub.refl _ _) ?_
  intro (i : Nat) hi
  change evS _ _ _ _ (I71 L xs i).1 (I71 L xs i).2
  obtain ⟨h1, h2⟩ : i ≤ xs.length ∧ ∀ j, j < i → ValOk (rd xs (j : Nat)) := hi
  simp -implicitDefEqProofs only [push_cast, false_implies, reduceCtorEq, Classical.not_not, Nat.reduceAdd, Nat.reduceSub, Nat.reduceMul, Nat.reduceLeDiff, Nat.reduceLT, Nat.reduceEqDiff, Nat.reduceBEq, Nat.reduceBNe, Int.reduceNeg, Int.reduceToNat, Bool.or_false, Bool.false_or, Bool.or_true, Bool.true_or, BEq.rfl, Bool.not_eq_true, Bool.not_eq_false, decide_eq_true_eq, not_true_eq_false, not_false_eq_true, ite_true, ite_false, List.append_nil, and_assoc, Nat.mul_zero, Nat.zero_mul, I71, b71_1, r71_2]
  refine ⟨fun h => ⟨by omega, h, by omega, h, fun hb => ?_, fun hb => ⟨by omega, by omega, ?_⟩⟩, fun h => ?_⟩
  · have e := firstBad_at (by omega) hb h2
    exact postF.mk' (fun _ => default) [some 0] (by simp -implicitDefEqProofs only [push_cast, false_implies, reduceCtorEq, Classical.not_not, Nat.reduceAdd, Nat.reduceSub, Nat.reduceMul, Nat.reduceLeDiff, Nat.reduceLT, Nat.reduceEqDiff, Nat.reduceBEq, Nat.reduceBNe, Int.reduceNeg, Int.reduceToNat, Bool.or_false, Bool.false_or, Bool.or_true, Bool.true_or, BEq.rfl, Bool.not_eq_true, Bool.not_eq_false, decide_eq_true_eq, not_true_eq_false, not_false_eq_true, ite_true, ite_false, List.append_nil, and_assoc, Nat.mul_zero, Nat.zero_mul, fs71, e])
  · refine lpK_mk (i + 1 : Nat) ⟨by omega, ?_⟩ (show xs.length - (i + 1) < xs.length - i by omega) (Sub.refl _ _)
    intro j hj
    by_cases e : j = i
    · subst e; exact hb
    · exact h2 j (by omega)
  · have e := firstBad_no (xs := xs) (fun j hj => h2 j (by omega))
    exact postF.mk' (fun _ => default) [some 0] (by simp -implicitDefEqProofs only [push_cast, false_implies, reduceCtorEq, Classical.not_not, Nat.reduceAdd, Nat.reduceSub, Nat.reduceMul, Nat.reduceLeDiff, Nat.reduceLT, Nat.reduceEqDiff, Nat.reduceBEq, Nat.reduceBNe, Int.reduceNeg, Int.reduceToNat, Bool.or_false, Bool.false_or, Bool.or_true, Bool.true_or, BEq.rfl, Bool.not_eq_true, Bool.not_eq_false, decide_eq_true_eq, not_true_eq_false, not_false_eq_true, ite_true, ite_false, List.append_nil, and_assoc, Nat.mul_zero, Nat.zero_mul, fs71, e])
def ent71 : Entry := spOf fs71 inv71
theorem e71 : EntryOk Try.prog 71 ent71 := entry_of ok71 inv71
@[push_cast] theorem ent71_app (us : List SV) (look : Look) (x : Nat → Xf.Loc) (k : Nat) : ent71 us look x k = spOf fs71 inv71 us look x k := rfl
def fs66 : FS := { fs71 with res := fun a _ => .bool (decide (¬ AllVal a.xs)) }
theorem ok66 : FSOk Try.prog 66 fs66 := by
  refine ⟨⟨_, Try.func66, by kernel_rfl, by kernel_rfl⟩, fun a => ⟨by simp [fs66, fs71, rowM, push_cast, noMine, argOwn, Chunk.frArg], by simp [fs66, fs71, rowM, push_cast, outOk, Chunk.ext], fun x => .inl (by simp [fs66, fs71, rowM, push_cast, frNew, frOut, Chunk.fr])⟩, fun a hp => ?_⟩
  obtain ⟨L, xs⟩ := a
  change xs.length ≤ 140737488355328 at hp
  change Tri Try.prog 66 [.sl 0 L 1 0 xs.length, .fn 67 []] [some (.ro, L, .ints .i64 xs)] (postF fs66 ⟨L, xs⟩)
  refine tri_evS (hyp (l := [(71, ent71)]) (lp := []) ⟨e71, trivial⟩ trivial) Try.func66 comp66 (rs := [.tmp 4]) (by rfl) Try.ntmps66 13 ?_
  simp -implicitDefEqProofs only [push_cast, false_implies, reduceCtorEq, Classical.not_not, Nat.reduceAdd, Nat.reduceSub, Nat.reduceMul, Nat.reduceLeDiff, Nat.reduceLT, Nat.reduceEqDiff, Nat.reduceBEq, Nat.reduceBNe, Int.reduceNeg, Int.reduceToNat, Bool.or_false, Bool.false_or, Bool.or_true, Bool.true_or, BEq.rfl, Bool.not_eq_true, Bool.not_eq_false, decide_eq_true_eq, not_true_eq_false, not_false_eq_true, ite_true, ite_false, List.append_nil, and_assoc, Nat.mul_zero, Nat.zero_mul, ir66, fs71]
  exact ⟨hp, postF.mk' (fun _ => default) [some 0] (by simp -implicitDefEqProofs only [push_cast, false_implies, reduceCtorEq, Classical.not_not, Nat.reduceAdd, Nat.reduceSub, Nat.reduceMul, Nat.reduceLeDiff, Nat.reduceLT, Nat.reduceEqDiff, Nat.reduceBEq, Nat.reduceBNe, Int.reduceNeg, Int.reduceToNat, Bool.or_false, Bool.false_or, Bool.or_true, Bool.true_or, BEq.rfl, Bool.not_eq_true, Bool.not_eq_false, decide_eq_true_eq, not_true_eq_false, not_false_eq_true, ite_true, ite_false, List.append_nil, and_assoc, Nat.mul_zero, Nat.zero_mul, fs66, fs71, firstBad_iff])⟩
def ent66 : Entry := spOf fs66 inv71
theorem e66 : EntryOk Try.prog 66 ent66 := entry_of ok66 inv71
@[push_cast] theorem ent66_app (us : List SV) (look : Look) (x : Nat → Xf.Loc) (k : Nat) : ent66 us look x k = spOf fs66 inv71 us look x k := rfl
structure RowN where
  L : Xf.Loc
  xs : List Int
  n : Int
def fs46 : FS where
  A := RowN
  args := fun a => [.sl 0 a.L 1 0 a.xs.length, .int .i64 a.n]
  mem := fun a => [some (.ro, a.L, .ints .i64 a.xs)]
  pre := fun a => a.xs.length ≤ 140737488355328
  res := fun a _ => .bool (decide (a.xs.length = a.n ∧ AllVal a.xs))
  out := fun _ _ => []
  new := fun _ _ => []
def inv46 : List SV → Look → Option (RowN × List Nat)
  | [.sl c _ 1 0 _, .int .i64 n], look => match rowI (look c) with
    | some (L, .i64, xs) => some (⟨L, xs, n⟩, [c])
    | _ => none
  | _, _ => none
attribute [push_cast] inv46
theorem ok46 : FSOk Try.prog 46 fs46 := by
  refine ⟨⟨_, Try.func46, by kernel_rfl, by kernel_rfl⟩, fun a => ⟨by simp [fs46, push_cast, noMine, argOwn, Chunk.frArg], by simp [fs46, push_cast, outOk, Chunk.ext], fun x => .inl (by simp [fs46, push_cast, frNew, frOut, Chunk.fr])⟩, fun a hp => ?_⟩
  obtain ⟨L, xs, n⟩ := a
  change xs.length ≤ 140737488355328 at hp
  change Tri Try.prog 46 [.sl 0 L 1 0 xs.length, .int .i64 n] [some (.ro, L, .ints .i64 xs)] (postF fs46 ⟨L, xs, n⟩)
  refine tri_evS (hyp (l := [(66, ent66)]) (lp := []) ⟨e66, trivial⟩ trivial) Try.func46 comp46 (rs := [.tmp 4]) (by rfl) Try.ntmps46 14 ?_
  simp -implicitDefEqProofs only [push_cast, false_implies, reduceCtorEq, Classical.not_not, Nat.reduceAdd, Nat.reduceSub, Nat.reduceMul, Nat.reduceLeDiff, Nat.reduceLT, Nat.reduceEqDiff, Nat.reduceBEq, Nat.reduceBNe, Int.reduceNeg, Int.reduceToNat, Bool.or_false, Bool.false_or, Bool.or_true, Bool.true_or, BEq.rfl, Bool.not_eq_true, Bool.not_eq_false, decide_eq_true_eq, not_true_eq_false, not_false_eq_true, ite_true, ite_false, List.append_nil, and_assoc, Nat.mul_zero, Nat.zero_mul, ir46, fs66, fs71, hp]
  exact postF.mk' (fun _ => default) [some 0] (by simp -implicitDefEqProofs only [push_cast, false_implies, reduceCtorEq, Classical.not_not, Nat.reduceAdd, Nat.reduceSub, Nat.reduceMul, Nat.reduceLeDiff, Nat.reduceLT, Nat.reduceEqDiff, Nat.reduceBEq, Nat.reduceBNe, Int.reduceNeg, Int.reduceToNat, Bool.or_false, Bool.false_or, Bool.or_true, Bool.true_or, BEq.rfl, Bool.not_eq_true, Bool.not_eq_false, decide_eq_true_eq, not_true_eq_false, not_false_eq_true, ite_true, ite_false, List.append_nil, and_assoc, Nat.mul_zero, Nat.zero_mul, fs46])
def ent46 : Entry := spOf fs46 inv46
theorem e46 : EntryOk Try.prog 46 ent46 := entry_of ok46 inv46
@[push_cast] theorem ent46_app (us : List SV) (look : Look) (x : Nat → Xf.Loc) (k : Nat) : ent46 us look x k = spOf fs46 inv46 us look x k := rfl
structure Im where
  w : Int
  h : Int
  R : List Int
  G : List Int
  B : List Int
structure ImA where
  i : Im
  L1 : Xf.Loc
  L2 : Xf.Loc
  L3 : Xf.Loc
def imV (i : Im) (L1 L2 L3 : Xf.Loc) (c : Nat) : SV := .agg [.int .i64 i.w, .int .i64 i.h, .sl c L1 1 0 i.R.length, .sl (c + 1) L2 1 0 i.G.length, .sl (c + 2) L3 1 0 i.B.length]
def imM (i : Im) (L1 L2 L3 : Xf.Loc) : Mem := [some (.ro, L1, .ints .i64 i.R), some (.ro, L2, .ints .i64 i.G), some (.ro, L3, .ints .i64 i.B)]
def Im.small (i : Im) : Prop := i.R.length ≤ 140737488355328 ∧ i.G.length ≤ 140737488355328 ∧ i.B.length ≤ 140737488355328
def Im.Ok (i : Im) : Prop := SidesOk i.w i.h ∧ (i.R.length = i.w * i.h ∧ AllVal i.R) ∧ (i.G.length = i.w * i.h ∧ AllVal i.G) ∧ (i.B.length = i.w * i.h ∧ AllVal i.B)
instance (i : Im) : Decidable i.Ok := by unfold Im.Ok; infer_instance
def fs15 : FS where
  A := ImA
  args := fun a => [imV a.i a.L1 a.L2 a.L3 0]
  mem := fun a => imM a.i a.L1 a.L2 a.L3
  pre := fun a => a.i.small
  res := fun a _ => .bool (decide a.i.Ok)
  out := fun _ _ => []
  new := fun _ _ => []
def getI (look : Look) : SV → Option (ImA × List Nat)
  | .agg [.int .i64 w, .int .i64 h, .sl c1 _ 1 0 _, .sl c2 _ 1 0 _, .sl c3 _ 1 0 _] => match rowI (look c1), rowI (look c2), rowI (look c3) with
    | some (L1, .i64, R), some (L2, .i64, G), some (L3, .i64, B) => some (⟨⟨w, h, R, G, B⟩, L1, L2, L3⟩, [c1, c2, c3])
    | _, _, _ => none
  | _ => none
def inv15 : List SV → Look → Option (ImA × List Nat)
  | [v], look => getI look v
  | _, _ => none
attribute [push_cast] inv15 getI imV imM
theorem ok15 : FSOk Try.prog 15 fs15 := by
  refine ⟨⟨_, Try.func15, by kernel_rfl, by kernel_rfl⟩, fun a => ⟨by simp [fs15, imM, push_cast, noMine, argOwn, Chunk.frArg], by simp [fs15, imM, push_cast, outOk, Chunk.ext], fun x => .inl (by simp [fs15, imM, push_cast, frNew, frOut, Chunk.fr])⟩, fun a hp => ?_⟩
  obtain ⟨⟨w, h, R, G, B⟩, L1, L2, L3⟩ := a
  obtain ⟨h1, h2, h3⟩ : R.length ≤ 140737488355328 ∧ G.length ≤ 140737488355328 ∧ B.length ≤ 140737488355328 := hp
  change Tri Try.prog 15 [imV ⟨w, h, R, G, B⟩ L1 L2 L3 0] (imM ⟨w, h, R, G, B⟩ L1 L2 L3) (postF fs15 ⟨⟨w, h, R, G, B⟩, L1, L2, L3⟩)
  refine tri_evS (hyp (l := [(46, ent46)]) (lp := [(39, sidesF)]) ⟨e46, trivial⟩ ⟨p39, trivial⟩) Try.func15 comp15 (rs := [.tmp 2]) (by rfl) Try.ntmps15 30 ?_
  simp -implicitDefEqProofs only [push_cast, false_implies, reduceCtorEq, Classical.not_not, Nat.reduceAdd, Nat.reduceSub, Nat.reduceMul, Nat.reduceLeDiff, Nat.reduceLT, Nat.reduceEqDiff, Nat.reduceBEq, Nat.reduceBNe, Int.reduceNeg, Int.reduceToNat, Bool.or_false, Bool.false_or, Bool.or_true, Bool.true_or, BEq.rfl, Bool.not_eq_true, Bool.not_eq_false, decide_eq_true_eq, not_true_eq_false, not_false_eq_true, ite_true, ite_false, List.append_nil, and_assoc, Nat.mul_zero, Nat.zero_mul, ir15, fs46, h1, h2, h3]
  intro X
  refine ⟨fun h => ?_, fun h => ?_, postF.mk' (fun _ => default) [some 0, some 1, some 2] ?_⟩
  · obtain ⟨a, b, c⟩ := h; exact ⟨a, b, c, a, b, c⟩
  · obtain ⟨a, b, c, d, e⟩ := h; exact ⟨a, b, c, d, e, a, b, c, d, e⟩
  · have e : (SidesOk w h ∧ R.length = IntKind.i64.wrap (w * h) ∧ AllVal R ∧ G.length = IntKind.i64.wrap (w * h) ∧ AllVal G ∧ B.length = IntKind.i64.wrap (w * h) ∧ AllVal B) ↔ (⟨w, h, R, G, B⟩ : Im).Ok := by
      unfold Im.Ok
      by_cases hs : SidesOk w h
      · have := hs.bd
        rw [inR_wrap (k := .i64) ⟨by omega, by omega⟩]
        simp only [and_assoc]
      · simp only [hs, false_and]
    simp -implicitDefEqProofs only [push_cast, false_implies, reduceCtorEq, Classical.not_not, Nat.reduceAdd, Nat.reduceSub, Nat.reduceMul, Nat.reduceLeDiff, Nat.reduceLT, Nat.reduceEqDiff, Nat.reduceBEq, Nat.reduceBNe, Int.reduceNeg, Int.reduceToNat, Bool.or_false, Bool.false_or, Bool.or_true, Bool.true_or, BEq.rfl, Bool.not_eq_true, Bool.not_eq_false, decide_eq_true_eq, not_true_eq_false, not_false_eq_true, ite_true, ite_false, List.append_nil, and_assoc, Nat.mul_zero, Nat.zero_mul, fs15, e]
def ent15 : Entry := spOf fs15 inv15
theorem e15 : EntryOk Try.prog 15 ent15 := entry_of ok15 inv15
@[push_cast] theorem ent15_app (us : List SV) (look : Look) (x : Nat → Xf.Loc) (k : Nat) : ent15 us look x k = spOf fs15 inv15 us look x k := rfl
def ir41 : IR :=
  .seq (.reg false [⟨some 4, none, ⟨[], []⟩, .alloc 10 [.int .i64 0, .int .i64 0, nilSV, nilSV, nilSV]⟩] [] []) (.seq (.reg false [⟨some 6, none, ⟨[], []⟩, .mov (.t 0)⟩,
    ⟨some 7, none, ⟨[], []⟩, .mov (.t 1)⟩,
    ⟨some 8, none, ⟨[], []⟩, .bin 0 .mul (.t 6) (.t 7)⟩,
    ⟨some 5, none, ⟨[], []⟩, .mov (.t 8)⟩] [6, 7, 8] []) (.seq (.reg true [⟨some 9, none, ⟨[], []⟩, .mov (.t 0)⟩,
    ⟨some 10, none, ⟨[], []⟩, .mov (.t 1)⟩,
    ⟨some 11, none, ⟨[], []⟩, .mov (.t 5)⟩,
    ⟨some 12, none, ⟨[], []⟩, .mks 11 (.int .i64 0) 8 (.t 11) (.t 11)⟩,
    ⟨some 13, none, ⟨[], []⟩, .mov (.t 5)⟩,
    ⟨some 14, none, ⟨[], []⟩, .mks 12 (.int .i64 0) 8 (.t 13) (.t 13)⟩,
    ⟨some 15, none, ⟨[], []⟩, .mov (.t 5)⟩,
    ⟨some 16, none, ⟨[], []⟩, .mks 13 (.int .i64 0) 8 (.t 15) (.t 15)⟩,
    ⟨some 17, none, ⟨[], []⟩, .build [.int .i64 0, .int .i64 0, nilSV, nilSV, nilSV] [(0, 1, .t 9), (1, 1, .t 10), (2, 1, .t 12), (3, 1, .t 14), (4, 1, .t 16)]⟩,
    ⟨none, none, ⟨[], []⟩, .sto false 5 .i64 (.t 4) (.t 17)⟩] [0, 1, 5, 9, 10, 11, 12, 13, 14, 15, 16, 17] []) (.ret)))
set_option maxRecDepth 4000 in
theorem comp41 : (Try.f41.body.bind fun c => compC tab isP chkAll ir41 c) = some ir41 := by kernel_rfl
def ir42 : IR :=
  .reg true [⟨some 10, none, ⟨[], []⟩, .mov (.t 0)⟩,
    ⟨some 11, none, ⟨[], []⟩, .nilc (.t 10)⟩,
    ⟨some 12, none, ⟨[], []⟩, .fld (.t 11) 2⟩,
    ⟨some 13, none, ⟨[], []⟩, .ld false none 0 0 (.t 12)⟩,
    ⟨some 14, none, ⟨[], []⟩, .mov (.t 1)⟩,
    ⟨some 15, none, ⟨[], []⟩, .mov (.t 0)⟩,
    ⟨some 16, none, ⟨[], []⟩, .nilc (.t 15)⟩,
    ⟨some 17, none, ⟨[], []⟩, .fld (.t 16) 3⟩,
    ⟨some 18, none, ⟨[], []⟩, .ld false none 0 0 (.t 17)⟩,
    ⟨some 19, none, ⟨[], []⟩, .mov (.t 1)⟩,
    ⟨some 20, none, ⟨[], []⟩, .mov (.t 0)⟩,
    ⟨some 21, none, ⟨[], []⟩, .nilc (.t 20)⟩,
    ⟨some 22, none, ⟨[], []⟩, .fld (.t 21) 4⟩,
    ⟨some 23, none, ⟨[], []⟩, .ld false none 0 0 (.t 22)⟩,
    ⟨some 24, none, ⟨[], []⟩, .mov (.t 1)⟩,
    ⟨some 25, none, ⟨[], []⟩, .mov (.t 2)⟩,
    ⟨some 26, none, ⟨[], []⟩, .mov (.t 3)⟩,
    ⟨some 27, none, ⟨[], []⟩, .mov (.t 4)⟩,
    ⟨some 28, none, ⟨[], []⟩, .idxS (.t 13) (.t 14) 1⟩,
    ⟨none, none, ⟨[], []⟩, .sto true 1 .i64 (.t 28) (.t 25)⟩,
    ⟨some 29, none, ⟨[], []⟩, .idxS (.t 18) (.t 19) 1⟩,
    ⟨none, none, ⟨[], []⟩, .sto true 1 .i64 (.t 29) (.t 26)⟩,
    ⟨some 30, none, ⟨[], []⟩, .idxS (.t 23) (.t 24) 1⟩,
    ⟨none, none, ⟨[], []⟩, .sto true 1 .i64 (.t 30) (.t 27)⟩] [0, 1, 2, 3, 4, 10, 11, 12, 13, 14, 15, 16, 17, 18, 19, 20, 21, 22, 23, 24, 25, 26, 27, 28, 29, 30] []
set_option maxRecDepth 4000 in
theorem comp42 : (Try.f42.body.bind fun c => compC tab isP chkAll ir42 c) = some ir42 := by kernel_rfl
structure WH where
  w : Int
  h : Int
def zs (n : Int) : List Int := List.replicate n.toNat 0
def fs41 : FS where
  A := WH
  args := fun a => [.int .i64 a.w, .int .i64 a.h]
  mem := fun _ => []
  pre := fun a => SidesOk a.w a.h
  res := fun a x => .agg [.int .i64 a.w, .int .i64 a.h, .sl 0 (x 0) 1 0 (a.w * a.h), .sl 1 (x 1) 1 0 (a.w * a.h), .sl 2 (x 2) 1 0 (a.w * a.h)]
  out := fun _ _ => []
  new := fun a x => [(x 0, .ints .i64 (zs (a.w * a.h))), (x 1, .ints .i64 (zs (a.w * a.h))), (x 2, .ints .i64 (zs (a.w * a.h)))]
def inv41 : List SV → Look → Option (WH × List Nat)
  | [.int .i64 w, .int .i64 h], _ => some (⟨w, h⟩, [])
  | _, _ => none
attribute [push_cast] inv41
theorem ok41 : FSOk Try.prog 41 fs41 := by
  refine ⟨⟨_, Try.func41, by kernel_rfl, by kernel_rfl⟩, fun a => ⟨by simp [fs41, push_cast, noMine, argOwn, Chunk.frArg], by simp [fs41, push_cast, outOk, Chunk.ext], fun x => .inl (by simp [fs41, push_cast, frNew, frOut, Chunk.fr])⟩, fun a hp => ?_⟩
  obtain ⟨w, h⟩ := a
  change SidesOk w h at hp
  change Tri Try.prog 41 [.int .i64 w, .int .i64 h] [] (postF fs41 ⟨w, h⟩)
  refine tri_evS (hyp (l := []) (lp := []) trivial trivial) Try.func41 comp41 (rs := [.cell 4 (some 5)]) (by rfl) Try.ntmps41 14 ?_
  simp -implicitDefEqProofs only [push_cast, false_implies, reduceCtorEq, Classical.not_not, Nat.reduceAdd, Nat.reduceSub, Nat.reduceMul, Nat.reduceLeDiff, Nat.reduceLT, Nat.reduceEqDiff, Nat.reduceBEq, Nat.reduceBNe, Int.reduceNeg, Int.reduceToNat, Bool.or_false, Bool.false_or, Bool.or_true, Bool.true_or, BEq.rfl, Bool.not_eq_true, Bool.not_eq_false, decide_eq_true_eq, not_true_eq_false, not_false_eq_true, ite_true, ite_false, List.append_nil, and_assoc, Nat.mul_zero, Nat.zero_mul, ir41]
  intro X
  have hm := hp.bd
  refine ⟨by omega, by omega, fun X1 => ⟨by omega, by omega, by omega, by omega, by omega, by omega, by omega, by omega, by omega, postF.mk' (locs [X1 3 11, X1 5 12, X1 7 13]) [some 11, some 12, some 13] ?_⟩⟩
  simp -implicitDefEqProofs only [push_cast, false_implies, reduceCtorEq, Classical.not_not, Nat.reduceAdd, Nat.reduceSub, Nat.reduceMul, Nat.reduceLeDiff, Nat.reduceLT, Nat.reduceEqDiff, Nat.reduceBEq, Nat.reduceBNe, Int.reduceNeg, Int.reduceToNat, Bool.or_false, Bool.false_or, Bool.or_true, Bool.true_or, BEq.rfl, Bool.not_eq_true, Bool.not_eq_false, decide_eq_true_eq, not_true_eq_false, not_false_eq_true, ite_true, ite_false, List.append_nil, and_assoc, Nat.mul_zero, Nat.zero_mul, fs41, zs]
def ent41 : Entry := spOf fs41 inv41
theorem e41 : EntryOk Try.prog 41 ent41 := entry_of ok41 inv41
@[push_cast] theorem ent41_app (us : List SV) (look : Look) (x : Nat → Xf.Loc) (k : Nat) : ent41 us look x k = spOf fs41 inv41 us look x k := rfl
structure SetA where
  i : Im
  L : Xf.Loc
  L1 : Xf.Loc
  L2 : Xf.Loc
  L3 : Xf.Loc
  k : Int
  r : Int
  g : Int
  b : Int
  n1 : Int
  n2 : Int
  n3 : Int
def fs42 : FS where
  A := SetA
  args := fun a => [.ptr 0 a.L 0 0 0, .int .i64 a.k, .int .i64 a.r, .int .i64 a.g, .int .i64 a.b]
  mem := fun a => [some (.ro, a.L, .cells [.int .i64 a.i.w, .int .i64 a.i.h, .sl 1 a.L1 1 0 a.n1, .sl 2 a.L2 1 0 a.n2, .sl 3 a.L3 1 0 a.n3]), some (.lent, a.L1, .ints .i64 a.i.R), some (.lent, a.L2, .ints .i64 a.i.G), some (.lent, a.L3, .ints .i64 a.i.B)]
  pre := fun a => 0 ≤ a.k ∧ a.k < a.i.R.length ∧ a.k < a.i.G.length ∧ a.k < a.i.B.length ∧ a.n1 = a.i.R.length ∧ a.n2 = a.i.G.length ∧ a.n3 = a.i.B.length
  res := fun a x => .tup []
  out := fun a _ => [none, some (some (.ints .i64 (a.i.R.set a.k.toNat a.r))), some (some (.ints .i64 (a.i.G.set a.k.toNat a.g))), some (some (.ints .i64 (a.i.B.set a.k.toNat a.b)))]
  new := fun _ _ => []
def inv42 : List SV → Look → Option (SetA × List Nat)
  | [.ptr c _ _ _ _, .int .i64 k, .int .i64 r, .int .i64 g, .int .i64 b], look => match rowC (look c) with
    | some (L, [.int .i64 w, .int .i64 h, .sl c1 _ 1 0 n1, .sl c2 _ 1 0 n2, .sl c3 _ 1 0 n3]) => match rowI (look c1), rowI (look c2), rowI (look c3) with
      | some (L1, .i64, R), some (L2, .i64, G), some (L3, .i64, B) => some (⟨⟨w, h, R, G, B⟩, L, L1, L2, L3, k, r, g, b, n1, n2, n3⟩, [c, c1, c2, c3])
      | _, _, _ => none
    | _ => none
  | _, _ => none
attribute [push_cast] inv42
theorem ok42 : FSOk Try.prog 42 fs42 := by
  refine ⟨⟨_, Try.func42, by kernel_rfl, by kernel_rfl⟩, fun a => ⟨by simp [fs42, push_cast, noMine, argOwn, Chunk.frArg], by simp [fs42, push_cast, outOk, Chunk.ext], fun x => .inl (by simp [fs42, push_cast, frNew, frOut, Chunk.fr])⟩, fun a hp => ?_⟩
  obtain ⟨⟨w, h, R, G, B⟩, L, L1, L2, L3, k, r, g, b, n1, n2, n3⟩ := a
  obtain ⟨h1, h2, h3, h4, rfl, rfl, rfl⟩ : 0 ≤ k ∧ k < R.length ∧ k < G.length ∧ k < B.length ∧ n1 = R.length ∧ n2 = G.length ∧ n3 = B.length := hp
  change Tri Try.prog 42 [.ptr 0 L 0 0 0, .int .i64 k, .int .i64 r, .int .i64 g, .int .i64 b] [some (.ro, L, .cells [.int .i64 w, .int .i64 h, .sl 1 L1 1 0 R.length, .sl 2 L2 1 0 G.length, .sl 3 L3 1 0 B.length]), some (.lent, L1, .ints .i64 R), some (.lent, L2, .ints .i64 G), some (.lent, L3, .ints .i64 B)] (postF fs42 ⟨⟨w, h, R, G, B⟩, L, L1, L2, L3, k, r, g, b, R.length, G.length, B.length⟩)
  refine tri_evS (hyp (l := []) (lp := []) trivial trivial) Try.func42 comp42 (rs := []) (by rfl) Try.ntmps42 14 ?_
  simp -implicitDefEqProofs only [push_cast, false_implies, reduceCtorEq, Classical.not_not, Nat.reduceAdd, Nat.reduceSub, Nat.reduceMul, Nat.reduceLeDiff, Nat.reduceLT, Nat.reduceEqDiff, Nat.reduceBEq, Nat.reduceBNe, Int.reduceNeg, Int.reduceToNat, Bool.or_false, Bool.false_or, Bool.or_true, Bool.true_or, BEq.rfl, Bool.not_eq_true, Bool.not_eq_false, decide_eq_true_eq, not_true_eq_false, not_false_eq_true, ite_true, ite_false, List.append_nil, and_assoc, Nat.mul_zero, Nat.zero_mul, ir42, h1, h2, h3, h4]
  exact postF.mk' (fun _ => default) [some 0, some 1, some 2, some 3] (by simp -implicitDefEqProofs only [push_cast, false_implies, reduceCtorEq, Classical.not_not, Nat.reduceAdd, Nat.reduceSub, Nat.reduceMul, Nat.reduceLeDiff, Nat.reduceLT, Nat.reduceEqDiff, Nat.reduceBEq, Nat.reduceBNe, Int.reduceNeg, Int.reduceToNat, Bool.or_false, Bool.false_or, Bool.or_true, Bool.true_or, BEq.rfl, Bool.not_eq_true, Bool.not_eq_false, decide_eq_true_eq, not_true_eq_false, not_false_eq_true, ite_true, ite_false, List.append_nil, and_assoc, Nat.mul_zero, Nat.zero_mul, fs42])
def ent42 : Entry := spOf fs42 inv42
theorem e42 : EntryOk Try.prog 42 ent42 := entry_of ok42 inv42
@[push_cast] theorem ent42_app (us : List SV) (look : Look) (x : Nat → Xf.Loc) (k : Nat) : ent42 us look x k = spOf fs42 inv42 us look x k := rfl
structure NewA where
  w : Int
  h : Int
  r : Int
  g : Int
  b : Int
def NewA.Ok (a : NewA) : Prop := SidesOk a.w a.h ∧ ValOk a.r ∧ ValOk a.g ∧ ValOk a.b
instance (a : NewA) : Decidable a.Ok := by unfold NewA.Ok; infer_instance
def im0 : Im := ⟨0, 0, [], [], []⟩
def imN (i : Im) (x : Nat → Xf.Loc) : List (Xf.Loc × Chunk) := [(x 0, .ints .i64 i.R), (x 1, .ints .i64 i.G), (x 2, .ints .i64 i.B)]
/-- Where a result lies: nowhere, if there is none. -/
def lx (p : Prop) [Decidable p] (x : Nat → Xf.Loc) (k : Nat) : Xf.Loc := if p then x k else nilLoc
attribute [push_cast] imN
def b16_1 : IR :=
  .seq (.seq (.reg false [⟨some 35, none, ⟨[], []⟩, .mov (.t 4)⟩,
    ⟨some 36, none, ⟨[], []⟩, .mov (.t 3)⟩,
    ⟨some 37, none, ⟨[], []⟩, .bin 0 .lss (.t 35) (.t 36)⟩] [35, 36] []) (.cond (.t 37) (.skip) (.exit 0))) (.seq (.block 1 (.seq (.reg false [⟨some 40, none, ⟨[], []⟩, .fld (.t 1) 2⟩,
    ⟨some 41, none, ⟨[], []⟩, .ld false none 0 0 (.t 40)⟩,
    ⟨some 42, none, ⟨[], []⟩, .mov (.t 4)⟩,
    ⟨some 43, none, ⟨[], []⟩, .idxS (.t 41) (.t 42) 1⟩,
    ⟨some 44, none, ⟨[], []⟩, .ld true none 0 0 (.t 43)⟩,
    ⟨some 45, none, ⟨[], []⟩, .callp 44 [.t 44]⟩,
    ⟨some 46, none, ⟨[], []⟩, .not (.t 45)⟩,
    ⟨some 47, none, ⟨[], []⟩, .mov (.t 46)⟩,
    ⟨some 48, some (47, false), ⟨[], []⟩, .fld (.t 1) 3⟩,
    ⟨some 49, some (47, false), ⟨[], []⟩, .ld false none 0 0 (.t 48)⟩,
    ⟨some 50, some (47, false), ⟨[], []⟩, .mov (.t 4)⟩,
    ⟨some 51, some (47, false), ⟨[], []⟩, .idxS (.t 49) (.t 50) 1⟩,
    ⟨some 52, some (47, false), ⟨[], []⟩, .ld true none 0 0 (.t 51)⟩,
    ⟨some 53, some (47, false), ⟨[], []⟩, .callp 44 [.t 52]⟩,
    ⟨some 54, some (47, false), ⟨[], []⟩, .not (.t 53)⟩,
    ⟨some 55, none, ⟨[], []⟩, .pick (.t 47) (.k (.bool true)) (.t 54)⟩,
    ⟨some 56, none, ⟨[], []⟩, .mov (.t 55)⟩,
    ⟨some 57, some (56, false), ⟨[], []⟩, .fld (.t 1) 4⟩,
    ⟨some 58, some (56, false), ⟨[], []⟩, .ld false none 0 0 (.t 57)⟩,
    ⟨some 59, some (56, false), ⟨[], []⟩, .mov (.t 4)⟩,
    ⟨some 60, some (56, false), ⟨[], []⟩, .idxS (.t 58) (.t 59) 1⟩,
    ⟨some 61, some (56, false), ⟨[], []⟩, .ld true none 0 0 (.t 60)⟩,
    ⟨some 62, some (56, false), ⟨[], []⟩, .callp 44 [.t 61]⟩,
    ⟨some 63, some (56, false), ⟨[], []⟩, .not (.t 62)⟩,
    ⟨some 64, none, ⟨[], []⟩, .pick (.t 56) (.k (.bool true)) (.t 63)⟩] [37, 40, 41, 42, 43, 44, 45, 46, 47, 48, 49, 50, 51, 52, 53, 54, 55, 56, 57, 58, 59, 60, 61, 62, 63] []) (.cond (.t 64) (.seq (.reg false [⟨some 2, none, ⟨[], []⟩, .mov (.k (.bool false))⟩] [1, 3, 4, 64] []) (.ret)) (.skip)))) (.reg false [⟨some 38, none, ⟨[], []⟩, .mov (.t 4)⟩,
    ⟨some 39, none, ⟨[], []⟩, .bin 0 .add (.t 38) (.k (.int .i64 1))⟩,
    ⟨some 4, none, ⟨[], []⟩, .mov (.t 39)⟩] [2, 38, 39, 64] []))
def r16_2 : IR :=
  .seq (.reg false [⟨some 2, none, ⟨[], []⟩, .mov (.k (.bool true))⟩] [1, 3, 4] []) (.ret)
def ir16 : IR :=
  .seq (.reg false [⟨some 1, none, ⟨[], []⟩, .box 10 (.t 0)⟩,
    ⟨some 2, none, ⟨[], []⟩, .mov (.k (.bool false))⟩] [0, 2] []) (.seq (.seq (.reg false [⟨some 5, none, ⟨[], []⟩, .fld (.t 1) 0⟩,
    ⟨some 6, none, ⟨[], []⟩, .ld false none 0 0 (.t 5)⟩,
    ⟨some 7, none, ⟨[], []⟩, .fld (.t 1) 1⟩,
    ⟨some 8, none, ⟨[], []⟩, .ld false none 0 0 (.t 7)⟩,
    ⟨some 9, none, ⟨[], []⟩, .callp 43 [.t 6, .t 8]⟩,
    ⟨some 10, none, ⟨[], []⟩, .not (.t 9)⟩] [5, 6, 7, 8, 9] []) (.cond (.t 10) (.seq (.reg false [⟨some 2, none, ⟨[], []⟩, .mov (.k (.bool false))⟩] [1, 10] []) (.ret)) (.skip))) (.seq (.reg false [⟨some 11, none, ⟨[], []⟩, .fld (.t 1) 0⟩,
    ⟨some 12, none, ⟨[], []⟩, .ld false none 0 0 (.t 11)⟩,
    ⟨some 13, none, ⟨[], []⟩, .fld (.t 1) 1⟩,
    ⟨some 14, none, ⟨[], []⟩, .ld false none 0 0 (.t 13)⟩,
    ⟨some 15, none, ⟨[], []⟩, .bin 0 .mul (.t 12) (.t 14)⟩,
    ⟨some 3, none, ⟨[], []⟩, .mov (.t 15)⟩] [2, 10, 11, 12, 13, 14, 15] []) (.seq (.seq (.reg false [⟨some 16, none, ⟨[], []⟩, .fld (.t 1) 2⟩,
    ⟨some 17, none, ⟨[], []⟩, .ld false none 0 0 (.t 16)⟩,
    ⟨some 18, none, ⟨[], []⟩, .len (.t 17)⟩,
    ⟨some 19, none, ⟨[], []⟩, .mov (.t 3)⟩,
    ⟨some 20, none, ⟨[], []⟩, .bin 0 .neq (.t 18) (.t 19)⟩,
    ⟨some 21, none, ⟨[], []⟩, .mov (.t 20)⟩,
    ⟨some 22, some (21, false), ⟨[], []⟩, .fld (.t 1) 3⟩,
    ⟨some 23, some (21, false), ⟨[], []⟩, .ld false none 0 0 (.t 22)⟩,
    ⟨some 24, some (21, false), ⟨[], []⟩, .len (.t 23)⟩,
    ⟨some 25, some (21, false), ⟨[], []⟩, .mov (.t 3)⟩,
    ⟨some 26, some (21, false), ⟨[], []⟩, .bin 0 .neq (.t 24) (.t 25)⟩,
    ⟨some 27, none, ⟨[], []⟩, .pick (.t 21) (.k (.bool true)) (.t 26)⟩,
    ⟨some 28, none, ⟨[], []⟩, .mov (.t 27)⟩,
    ⟨some 29, some (28, false), ⟨[], []⟩, .fld (.t 1) 4⟩,
    ⟨some 30, some (28, false), ⟨[], []⟩, .ld false none 0 0 (.t 29)⟩,
    ⟨some 31, some (28, false), ⟨[], []⟩, .len (.t 30)⟩,
    ⟨some 32, some (28, false), ⟨[], []⟩, .mov (.t 3)⟩,
    ⟨some 33, some (28, false), ⟨[], []⟩, .bin 0 .neq (.t 31) (.t 32)⟩,
    ⟨some 34, none, ⟨[], []⟩, .pick (.t 28) (.k (.bool true)) (.t 33)⟩] [16, 17, 18, 19, 20, 21, 22, 23, 24, 25, 26, 27, 28, 29, 30, 31, 32, 33] []) (.cond (.t 34) (.seq (.reg false [⟨some 2, none, ⟨[], []⟩, .mov (.k (.bool false))⟩] [1, 3, 34] []) (.ret)) (.skip))) (.seq (.seq (.reg false [⟨some 4, none, ⟨[], []⟩, .mov (.k (.int .i64 0))⟩] [2, 34] []) (.block 0 (.loop b16_1))) (r16_2)))))
set_option maxRecDepth 4000 in
theorem comp16 : (Try.f16.body.bind fun c => compC tab isP chkAll ir16 c) = some ir16 := by kernel_rfl
def I16 (w h : Int) (R G B : List Int) (L1 L2 L3 L0 : Xf.Loc) (i : Nat) : List Ent × Mem :=
  (mkS 65 [(1, .ptr 10 L0 0 0 0), (3, .int .i64 (w * h)), (4, .int .i64 i)],
    mkM 17 [(0, .ro, L1, .ints .i64 R), (1, .ro, L2, .ints .i64 G), (2, .ro, L3, .ints .i64 B), (10, .mine, L0, .cells [.int .i64 w, .int .i64 h, .sl 0 L1 1 0 R.length, .sl 1 L2 1 0 G.length, .sl 2 L3 1 0 B.length])])
def lp16 (w h : Int) (R G B : List Int) (L1 L2 L3 L0 : Xf.Loc) : LoopS where
  A := Nat
  I := I16 w h R G B L1 L2 L3 L0
  R := fun i => i ≤ (w * h).toNat ∧ ∀ j, j < i → ValOk (rd R (j : Nat)) ∧ ValOk (rd G (j : Nat)) ∧ ValOk (rd B (j : Nat))
  mu := fun i => (w * h).toNat - i
theorem allVal_rd {xs : List Int} : AllVal xs ↔ ∀ j : Nat, j < xs.length → ValOk (rd xs j) := by
  unfold AllVal
  constructor
  · intro h j hj; rw [rd_lt xs j hj]; exact h _ (List.getElem_mem hj)
  · intro h x hx
    obtain ⟨j, hj, rfl⟩ := List.getElem_of_mem hx
    have := h j hj
    rwa [rd_lt xs j hj] at this
theorem ok16 : FSOk Try.prog 16 fs15 := by
  refine ⟨⟨_, Try.func16, by kernel_rfl, by kernel_rfl⟩, fun a => ⟨by simp [fs15, imM, push_cast, noMine, argOwn, Chunk.frArg], by simp [fs15, imM, push_cast, outOk, Chunk.ext], fun x => .inl (by simp [fs15, imM, push_cast, frNew, frOut, Chunk.fr])⟩, fun a hp => ?_⟩
  obtain ⟨⟨w, h, R, G, B⟩, L1, L2, L3⟩ := a
  change Tri Try.prog 16 [imV ⟨w, h, R, G, B⟩ L1 L2 L3 0] (imM ⟨w, h, R, G, B⟩ L1 L2 L3) (postF fs15 ⟨⟨w, h, R, G, B⟩, L1, L2, L3⟩)
  refine tri_evS (hyp (l := []) (lp := [(43, sidesF), (44, valF)]) trivial ⟨p43, p44, trivial⟩) Try.func16 comp16 (rs := [.tmp 2]) (by rfl) Try.ntmps16 14 ?_
  simp -implicitDefEqProofs only [push_cast, false_implies, reduceCtorEq, Classical.not_not, Nat.reduceAdd, Nat.reduceSub, Nat.reduceMul, Nat.reduceLeDiff, Nat.reduceLT, Nat.reduceEqDiff, Nat.reduceBEq, Nat.reduceBNe, Int.reduceNeg, Int.reduceToNat, Bool.or_false, Bool.false_or, Bool.or_true, Bool.true_or, BEq.rfl, Bool.not_eq_true, Bool.not_eq_false, decide_eq_true_eq, not_true_eq_false, not_false_eq_true, ite_true, ite_false, List.append_nil, and_assoc, Nat.mul_zero, Nat.zero_mul, ir16]
  intro X
  have fin : ∀ p : Prop, [Decidable p] → (p ↔ (⟨w, h, R, G, B⟩ : Im).Ok) → decide p = decide (⟨w, h, R, G, B⟩ : Im).Ok := fun p _ e => decide_eq_decide.2 e
  refine ⟨fun hn => ?_, fun hs => ?_⟩
  · have e : ¬ (⟨w, h, R, G, B⟩ : Im).Ok := fun H => hn H.1
    refine postF.mk' (fun _ => default) [some 0, some 1, some 2] ?_
    simp -implicitDefEqProofs only [push_cast, false_implies, reduceCtorEq, Classical.not_not, Nat.reduceAdd, Nat.reduceSub, Nat.reduceMul, Nat.reduceLeDiff, Nat.reduceLT, Nat.reduceEqDiff, Nat.reduceBEq, Nat.reduceBNe, Int.reduceNeg, Int.reduceToNat, Bool.or_false, Bool.false_or, Bool.or_true, Bool.true_or, BEq.rfl, Bool.not_eq_true, Bool.not_eq_false, decide_eq_true_eq, not_true_eq_false, not_false_eq_true, ite_true, ite_false, List.append_nil, and_assoc, Nat.mul_zero, Nat.zero_mul, fs15, e, decide_false]
  · have hm := hs.bd
    refine ⟨by omega, by omega, fun hn => ?_, fun hy => ?_⟩
    · have e : ¬ (⟨w, h, R, G, B⟩ : Im).Ok := fun H => by
        obtain ⟨_, ⟨a, _⟩, ⟨b, _⟩, ⟨c, _⟩⟩ := H
        simp only at a b c
        omega
      refine postF.mk' (fun _ => default) [some 0, some 1, some 2] ?_
      simp -implicitDefEqProofs only [push_cast, false_implies, reduceCtorEq, Classical.not_not, Nat.reduceAdd, Nat.reduceSub, Nat.reduceMul, Nat.reduceLeDiff, Nat.reduceLT, Nat.reduceEqDiff, Nat.reduceBEq, Nat.reduceBNe, Int.reduceNeg, Int.reduceToNat, Bool.or_false, Bool.false_or, Bool.or_true, Bool.true_or, BEq.rfl, Bool.not_eq_true, Bool.not_eq_false, decide_eq_true_eq, not_true_eq_false, not_false_eq_true, ite_true, ite_false, List.append_nil, and_assoc, Nat.mul_zero, Nat.zero_mul, fs15, e, decide_false]
    · obtain ⟨a, b, c⟩ : R.length = w * h ∧ G.length = w * h ∧ B.length = w * h := by omega
      refine evS_loop _ _ _ (lp16 w h R G B L1 L2 L3 (X 0 10)) (0 : Nat) ⟨Nat.zero_le _, fun j hj => absurd hj (Nat.not_lt_zero _)⟩ ?_ ?_
      · change Sub _ _ (I16 w h R G B L1 L2 L3 (X 0 10) 0).1 (I16 w h R G B L1 L2 L3 (X 0 10) 0).2
        simp -implicitDefEqProofs only [push_cast, false_implies, reduceCtorEq, Classical.not_not, Nat.reduceAdd, Nat.reduceSub, Nat.reduceMul, Nat.reduceLeDiff, Nat.reduceLT, Nat.reduceEqDiff, Nat.reduceBEq, Nat.reduceBNe, Int.reduceNeg, Int.reduceToNat, Bool.or_false, Bool.false_or, Bool.or_true, Bool.true_or, BEq.rfl, Bool.not_eq_true, Bool.not_eq_false, decide_eq_true_eq, not_true_eq_false, not_false_eq_true, ite_true, ite_false, List.append_nil, and_assoc, Nat.mul_zero, Nat.zero_mul, I16]
        exact Sub.refl _ _
      · intro (i : Nat) ⟨(hi : i ≤ (w * h).toNat), (hj : ∀ j, j < i → ValOk (rd R (j : Nat)) ∧ ValOk (rd G (j : Nat)) ∧ ValOk (rd B (j : Nat)))⟩
        change evS _ _ _ _ (I16 w h R G B L1 L2 L3 (X 0 10) i).1 (I16 w h R G B L1 L2 L3 (X 0 10) i).2
        simp -implicitDefEqProofs only [push_cast, false_implies, reduceCtorEq, Classical.not_not, Nat.reduceAdd, Nat.reduceSub, Nat.reduceMul, Nat.reduceLeDiff, Nat.reduceLT, Nat.reduceEqDiff, Nat.reduceBEq, Nat.reduceBNe, Int.reduceNeg, Int.reduceToNat, Bool.or_false, Bool.false_or, Bool.or_true, Bool.true_or, BEq.rfl, Bool.not_eq_true, Bool.not_eq_false, decide_eq_true_eq, not_true_eq_false, not_false_eq_true, ite_true, ite_false, List.append_nil, and_assoc, Nat.mul_zero, Nat.zero_mul, I16, b16_1, r16_2]
        refine ⟨fun hl => ⟨by omega, by omega, by omega, by omega, fun h => ⟨h, h, by omega, by omega⟩, fun h => ⟨h, by omega, by omega⟩, fun h => ⟨h, h, by omega, by omega⟩, fun h => ⟨h, by omega, by omega⟩, fun hb => ?_, fun hg => ⟨by omega, by omega, ?_⟩⟩, fun hl => ?_⟩
        · have e : ¬ (⟨w, h, R, G, B⟩ : Im).Ok := fun H => by
            obtain ⟨_, ⟨_, x⟩, ⟨_, y⟩, ⟨_, z⟩⟩ := H
            rcases hb with (hb | hb) | hb
            · exact hb (allVal_rd.1 x i (show i < R.length by omega))
            · exact hb (allVal_rd.1 y i (show i < G.length by omega))
            · exact hb (allVal_rd.1 z i (show i < B.length by omega))
          refine postF.mk' (fun _ => default) [some 0, some 1, some 2] ?_
          simp -implicitDefEqProofs only [push_cast, false_implies, reduceCtorEq, Classical.not_not, Nat.reduceAdd, Nat.reduceSub, Nat.reduceMul, Nat.reduceLeDiff, Nat.reduceLT, Nat.reduceEqDiff, Nat.reduceBEq, Nat.reduceBNe, Int.reduceNeg, Int.reduceToNat, Bool.or_false, Bool.false_or, Bool.or_true, Bool.true_or, BEq.rfl, Bool.not_eq_true, Bool.not_eq_false, decide_eq_true_eq, not_true_eq_false, not_false_eq_true, ite_true, ite_false, List.append_nil, and_assoc, Nat.mul_zero, Nat.zero_mul, fs15, e, decide_false]
        · refine lpK_mk (i + 1 : Nat) ⟨by omega, fun j h => ?_⟩ (show (w * h).toNat - (i + 1) < (w * h).toNat - i by omega) ?_
          · by_cases e : j = i
            · subst e; simp only [not_or, Classical.not_not] at hg; exact ⟨hg.1.1, hg.1.2, hg.2⟩
            · exact hj j (by omega)
          · change Sub _ _ (I16 w h R G B L1 L2 L3 (X 0 10) (i + 1)).1 (I16 w h R G B L1 L2 L3 (X 0 10) (i + 1)).2
            simp -implicitDefEqProofs only [push_cast, false_implies, reduceCtorEq, Classical.not_not, Nat.reduceAdd, Nat.reduceSub, Nat.reduceMul, Nat.reduceLeDiff, Nat.reduceLT, Nat.reduceEqDiff, Nat.reduceBEq, Nat.reduceBNe, Int.reduceNeg, Int.reduceToNat, Bool.or_false, Bool.false_or, Bool.or_true, Bool.true_or, BEq.rfl, Bool.not_eq_true, Bool.not_eq_false, decide_eq_true_eq, not_true_eq_false, not_false_eq_true, ite_true, ite_false, List.append_nil, and_assoc, Nat.mul_zero, Nat.zero_mul, I16]
            exact Sub.refl _ _
        · have e : (⟨w, h, R, G, B⟩ : Im).Ok := ⟨hs, ⟨a, allVal_rd.2 fun j h => (hj j (by simp only at h; omega)).1⟩, ⟨b, allVal_rd.2 fun j h => (hj j (by simp only at h; omega)).2.1⟩, ⟨c, allVal_rd.2 fun j h => (hj j (by simp only at h; omega)).2.2⟩⟩
          refine postF.mk' (fun _ => default) [some 0, some 1, some 2] ?_
          simp -implicitDefEqProofs only [push_cast, false_implies, reduceCtorEq, Classical.not_not, Nat.reduceAdd, Nat.reduceSub, Nat.reduceMul, Nat.reduceLeDiff, Nat.reduceLT, Nat.reduceEqDiff, Nat.reduceBEq, Nat.reduceBNe, Int.reduceNeg, Int.reduceToNat, Bool.or_false, Bool.false_or, Bool.or_true, Bool.true_or, BEq.rfl, Bool.not_eq_true, Bool.not_eq_false, decide_eq_true_eq, not_true_eq_false, not_false_eq_true, ite_true, ite_false, List.append_nil, and_assoc, Nat.mul_zero, Nat.zero_mul, fs15, e, decide_true]
def ent16 : Entry := spOf fs15 inv15
theorem e16 : EntryOk Try.prog 16 ent16 := entry_of ok16 inv15
@[push_cast] theorem ent16_app (us : List SV) (look : Look) (x : Nat → Xf.Loc) (k : Nat) : ent16 us look x k = spOf fs15 inv15 us look x k := rfl
def b17_1 : IR :=
  .seq (.seq (.reg false [⟨some 47, none, ⟨[], []⟩, .mov (.t 5)⟩,
    ⟨some 48, none, ⟨[], []⟩, .fld (.t 2) 2⟩,
    ⟨some 49, none, ⟨[], []⟩, .ld false none 0 0 (.t 48)⟩,
    ⟨some 50, none, ⟨[], []⟩, .len (.t 49)⟩,
    ⟨some 51, none, ⟨[], []⟩, .bin 0 .lss (.t 47) (.t 50)⟩] [47, 48, 49, 50] []) (.cond (.t 51) (.skip) (.exit 0))) (.seq (.block 1 (.seq (.reg true [⟨some 54, none, ⟨[], []⟩, .fld (.t 2) 2⟩,
    ⟨some 55, none, ⟨[], []⟩, .ld false none 0 0 (.t 54)⟩,
    ⟨some 56, none, ⟨[], []⟩, .mov (.t 5)⟩,
    ⟨some 57, none, ⟨[], []⟩, .idxS (.t 55) (.t 56) 1⟩,
    ⟨some 58, none, ⟨[], []⟩, .ld true none 0 0 (.t 57)⟩,
    ⟨some 59, none, ⟨[], []⟩, .fld (.t 3) 2⟩,
    ⟨some 60, none, ⟨[], []⟩, .ld false none 0 0 (.t 59)⟩,
    ⟨some 61, none, ⟨[], []⟩, .mov (.t 5)⟩,
    ⟨some 62, none, ⟨[], []⟩, .idxS (.t 60) (.t 61) 1⟩,
    ⟨some 63, none, ⟨[], []⟩, .ld true none 0 0 (.t 62)⟩,
    ⟨some 64, none, ⟨[], []⟩, .bin 0 .neq (.t 58) (.t 63)⟩] [51, 54, 55, 56, 57, 58, 59, 60, 61, 62, 63] []) (.cond (.t 64) (.seq (.reg false [⟨some 4, none, ⟨[], []⟩, .mov (.k (.bool false))⟩] [2, 3, 5, 64] []) (.ret)) (.skip)))) (.reg false [⟨some 52, none, ⟨[], []⟩, .mov (.t 5)⟩,
    ⟨some 53, none, ⟨[], []⟩, .bin 0 .add (.t 52) (.k (.int .i64 1))⟩,
    ⟨some 5, none, ⟨[], []⟩, .mov (.t 53)⟩] [4, 52, 53, 64] []))
def b17_2 : IR :=
  .seq (.seq (.reg false [⟨some 65, none, ⟨[], []⟩, .mov (.t 6)⟩,
    ⟨some 66, none, ⟨[], []⟩, .fld (.t 2) 3⟩,
    ⟨some 67, none, ⟨[], []⟩, .ld false none 0 0 (.t 66)⟩,
    ⟨some 68, none, ⟨[], []⟩, .len (.t 67)⟩,
    ⟨some 69, none, ⟨[], []⟩, .bin 0 .lss (.t 65) (.t 68)⟩] [65, 66, 67, 68] []) (.cond (.t 69) (.skip) (.exit 2))) (.seq (.block 3 (.seq (.reg true [⟨some 72, none, ⟨[], []⟩, .fld (.t 2) 3⟩,
    ⟨some 73, none, ⟨[], []⟩, .ld false none 0 0 (.t 72)⟩,
    ⟨some 74, none, ⟨[], []⟩, .mov (.t 6)⟩,
    ⟨some 75, none, ⟨[], []⟩, .idxS (.t 73) (.t 74) 1⟩,
    ⟨some 76, none, ⟨[], []⟩, .ld true none 0 0 (.t 75)⟩,
    ⟨some 77, none, ⟨[], []⟩, .fld (.t 3) 3⟩,
    ⟨some 78, none, ⟨[], []⟩, .ld false none 0 0 (.t 77)⟩,
    ⟨some 79, none, ⟨[], []⟩, .mov (.t 6)⟩,
    ⟨some 80, none, ⟨[], []⟩, .idxS (.t 78) (.t 79) 1⟩,
    ⟨some 81, none, ⟨[], []⟩, .ld true none 0 0 (.t 80)⟩,
    ⟨some 82, none, ⟨[], []⟩, .bin 0 .neq (.t 76) (.t 81)⟩] [69, 72, 73, 74, 75, 76, 77, 78, 79, 80, 81] []) (.cond (.t 82) (.seq (.reg false [⟨some 4, none, ⟨[], []⟩, .mov (.k (.bool false))⟩] [2, 3, 6, 82] []) (.ret)) (.skip)))) (.reg false [⟨some 70, none, ⟨[], []⟩, .mov (.t 6)⟩,
    ⟨some 71, none, ⟨[], []⟩, .bin 0 .add (.t 70) (.k (.int .i64 1))⟩,
    ⟨some 6, none, ⟨[], []⟩, .mov (.t 71)⟩] [4, 70, 71, 82] []))
def b17_3 : IR :=
  .seq (.seq (.reg false [⟨some 83, none, ⟨[], []⟩, .mov (.t 7)⟩,
    ⟨some 84, none, ⟨[], []⟩, .fld (.t 2) 4⟩,
    ⟨some 85, none, ⟨[], []⟩, .ld false none 0 0 (.t 84)⟩,
    ⟨some 86, none, ⟨[], []⟩, .len (.t 85)⟩,
    ⟨some 87, none, ⟨[], []⟩, .bin 0 .lss (.t 83) (.t 86)⟩] [83, 84, 85, 86] []) (.cond (.t 87) (.skip) (.exit 4))) (.seq (.block 5 (.seq (.reg true [⟨some 90, none, ⟨[], []⟩, .fld (.t 2) 4⟩,
    ⟨some 91, none, ⟨[], []⟩, .ld false none 0 0 (.t 90)⟩,
    ⟨some 92, none, ⟨[], []⟩, .mov (.t 7)⟩,
    ⟨some 93, none, ⟨[], []⟩, .idxS (.t 91) (.t 92) 1⟩,
    ⟨some 94, none, ⟨[], []⟩, .ld true none 0 0 (.t 93)⟩,
    ⟨some 95, none, ⟨[], []⟩, .fld (.t 3) 4⟩,
    ⟨some 96, none, ⟨[], []⟩, .ld false none 0 0 (.t 95)⟩,
    ⟨some 97, none, ⟨[], []⟩, .mov (.t 7)⟩,
    ⟨some 98, none, ⟨[], []⟩, .idxS (.t 96) (.t 97) 1⟩,
    ⟨some 99, none, ⟨[], []⟩, .ld true none 0 0 (.t 98)⟩,
    ⟨some 100, none, ⟨[], []⟩, .bin 0 .neq (.t 94) (.t 99)⟩] [87, 90, 91, 92, 93, 94, 95, 96, 97, 98, 99] []) (.cond (.t 100) (.seq (.reg false [⟨some 4, none, ⟨[], []⟩, .mov (.k (.bool false))⟩] [2, 3, 7, 100] []) (.ret)) (.skip)))) (.reg false [⟨some 88, none, ⟨[], []⟩, .mov (.t 7)⟩,
    ⟨some 89, none, ⟨[], []⟩, .bin 0 .add (.t 88) (.k (.int .i64 1))⟩,
    ⟨some 7, none, ⟨[], []⟩, .mov (.t 89)⟩] [4, 88, 89, 100] []))
def r17_4 : IR :=
  .seq (.reg false [⟨some 4, none, ⟨[], []⟩, .mov (.k (.bool true))⟩] [2, 3, 7] []) (.ret)
def r17_5 : IR :=
  .seq (.seq (.reg false [⟨some 7, none, ⟨[], []⟩, .mov (.k (.int .i64 0))⟩] [6] []) (.block 4 (.loop b17_3))) (r17_4)
def r17_6 : IR :=
  .seq (.seq (.reg false [⟨some 6, none, ⟨[], []⟩, .mov (.k (.int .i64 0))⟩] [5] []) (.block 2 (.loop b17_2))) (r17_5)
def ir17 : IR :=
  .seq (.reg false [⟨some 2, none, ⟨[], []⟩, .box 10 (.t 0)⟩,
    ⟨some 3, none, ⟨[], []⟩, .box 11 (.t 1)⟩,
    ⟨some 4, none, ⟨[], []⟩, .mov (.k (.bool false))⟩] [0, 1, 4] []) (.seq (.seq (.reg false [⟨some 8, none, ⟨[], []⟩, .fld (.t 2) 0⟩,
    ⟨some 9, none, ⟨[], []⟩, .ld false none 0 0 (.t 8)⟩,
    ⟨some 10, none, ⟨[], []⟩, .fld (.t 3) 0⟩,
    ⟨some 11, none, ⟨[], []⟩, .ld false none 0 0 (.t 10)⟩,
    ⟨some 12, none, ⟨[], []⟩, .bin 0 .neq (.t 9) (.t 11)⟩,
    ⟨some 13, none, ⟨[], []⟩, .mov (.t 12)⟩,
    ⟨some 14, some (13, false), ⟨[], []⟩, .fld (.t 2) 1⟩,
    ⟨some 15, some (13, false), ⟨[], []⟩, .ld false none 0 0 (.t 14)⟩,
    ⟨some 16, some (13, false), ⟨[], []⟩, .fld (.t 3) 1⟩,
    ⟨some 17, some (13, false), ⟨[], []⟩, .ld false none 0 0 (.t 16)⟩,
    ⟨some 18, some (13, false), ⟨[], []⟩, .bin 0 .neq (.t 15) (.t 17)⟩,
    ⟨some 19, none, ⟨[], []⟩, .pick (.t 13) (.k (.bool true)) (.t 18)⟩,
    ⟨some 20, none, ⟨[], []⟩, .mov (.t 19)⟩,
    ⟨some 21, some (20, false), ⟨[], []⟩, .fld (.t 2) 2⟩,
    ⟨some 22, some (20, false), ⟨[], []⟩, .ld false none 0 0 (.t 21)⟩,
    ⟨some 23, some (20, false), ⟨[], []⟩, .len (.t 22)⟩,
    ⟨some 24, some (20, false), ⟨[], []⟩, .fld (.t 3) 2⟩,
    ⟨some 25, some (20, false), ⟨[], []⟩, .ld false none 0 0 (.t 24)⟩,
    ⟨some 26, some (20, false), ⟨[], []⟩, .len (.t 25)⟩,
    ⟨some 27, some (20, false), ⟨[], []⟩, .bin 0 .neq (.t 23) (.t 26)⟩,
    ⟨some 28, none, ⟨[], []⟩, .pick (.t 20) (.k (.bool true)) (.t 27)⟩,
    ⟨some 29, none, ⟨[], []⟩, .mov (.t 28)⟩,
    ⟨some 30, some (29, false), ⟨[], []⟩, .fld (.t 2) 3⟩,
    ⟨some 31, some (29, false), ⟨[], []⟩, .ld false none 0 0 (.t 30)⟩,
    ⟨some 32, some (29, false), ⟨[], []⟩, .len (.t 31)⟩,
    ⟨some 33, some (29, false), ⟨[], []⟩, .fld (.t 3) 3⟩,
    ⟨some 34, some (29, false), ⟨[], []⟩, .ld false none 0 0 (.t 33)⟩,
    ⟨some 35, some (29, false), ⟨[], []⟩, .len (.t 34)⟩,
    ⟨some 36, some (29, false), ⟨[], []⟩, .bin 0 .neq (.t 32) (.t 35)⟩,
    ⟨some 37, none, ⟨[], []⟩, .pick (.t 29) (.k (.bool true)) (.t 36)⟩,
    ⟨some 38, none, ⟨[], []⟩, .mov (.t 37)⟩,
    ⟨some 39, some (38, false), ⟨[], []⟩, .fld (.t 2) 4⟩,
    ⟨some 40, some (38, false), ⟨[], []⟩, .ld false none 0 0 (.t 39)⟩,
    ⟨some 41, some (38, false), ⟨[], []⟩, .len (.t 40)⟩,
    ⟨some 42, some (38, false), ⟨[], []⟩, .fld (.t 3) 4⟩,
    ⟨some 43, some (38, false), ⟨[], []⟩, .ld false none 0 0 (.t 42)⟩,
    ⟨some 44, some (38, false), ⟨[], []⟩, .len (.t 43)⟩,
    ⟨some 45, some (38, false), ⟨[], []⟩, .bin 0 .neq (.t 41) (.t 44)⟩,
    ⟨some 46, none, ⟨[], []⟩, .pick (.t 38) (.k (.bool true)) (.t 45)⟩] [8, 9, 10, 11, 12, 13, 14, 15, 16, 17, 18, 19, 20, 21, 22, 23, 24, 25, 26, 27, 28, 29, 30, 31, 32, 33, 34, 35, 36, 37, 38, 39, 40, 41, 42, 43, 44, 45] []) (.cond (.t 46) (.seq (.reg false [⟨some 4, none, ⟨[], []⟩, .mov (.k (.bool false))⟩] [2, 3, 46] []) (.ret)) (.skip))) (.seq (.seq (.reg false [⟨some 5, none, ⟨[], []⟩, .mov (.k (.int .i64 0))⟩] [4, 46] []) (.block 0 (.loop b17_1))) (r17_6)))
set_option maxRecDepth 4000 in
theorem comp17 : (Try.f17.body.bind fun c => compC tab isP chkAll ir17 c) = some ir17 := by kernel_rfl
def Im.Eq (a b : Im) : Prop := a.w = b.w ∧ a.h = b.h ∧ a.R = b.R ∧ a.G = b.G ∧ a.B = b.B
instance (a b : Im) : Decidable (a.Eq b) := by unfold Im.Eq; infer_instance
theorem Im.Eq.refl (a : Im) : a.Eq a := ⟨rfl, rfl, rfl, rfl, rfl⟩
structure Im2 where
  a : ImA
  b : ImA
def fs17 : FS where
  A := Im2
  args := fun a => [imV a.a.i a.a.L1 a.a.L2 a.a.L3 0, imV a.b.i a.b.L1 a.b.L2 a.b.L3 3]
  mem := fun a => [some (.ro, a.a.L1, .ints .i64 a.a.i.R), some (.ro, a.a.L2, .ints .i64 a.a.i.G), some (.ro, a.a.L3, .ints .i64 a.a.i.B), some (.ro, a.b.L1, .ints .i64 a.b.i.R), some (.ro, a.b.L2, .ints .i64 a.b.i.G), some (.ro, a.b.L3, .ints .i64 a.b.i.B)]
  pre := fun a => a.a.i.small ∧ a.b.i.small
  res := fun a _ => .bool (decide (a.a.i.Eq a.b.i))
  out := fun _ _ => []
  new := fun _ _ => []
def inv17 : List SV → Look → Option (Im2 × List Nat)
  | [v, u], look => match getI look v, getI look u with
    | some (a, g), some (b, g') => some (⟨a, b⟩, g ++ g')
    | _, _ => none
  | _, _ => none
attribute [push_cast] inv17
def M17 (w h w' h' : Int) (R G B R' G' B' : List Int) (L1 L2 L3 M1 M2 M3 L0 L0' : Xf.Loc) : Mem :=
  mkM 18 [(0, .ro, L1, .ints .i64 R), (1, .ro, L2, .ints .i64 G), (2, .ro, L3, .ints .i64 B), (3, .ro, M1, .ints .i64 R'), (4, .ro, M2, .ints .i64 G'), (5, .ro, M3, .ints .i64 B'),
    (10, .mine, L0, .cells [.int .i64 w, .int .i64 h, .sl 0 L1 1 0 R.length, .sl 1 L2 1 0 G.length, .sl 2 L3 1 0 B.length]), (11, .mine, L0', .cells [.int .i64 w', .int .i64 h', .sl 3 M1 1 0 R'.length, .sl 4 M2 1 0 G'.length, .sl 5 M3 1 0 B'.length])]
def lp17 (t : Nat) (xs ys : List Int) (m : Mem) (L0 L0' : Xf.Loc) : LoopS where
  A := Nat
  I := fun i => (mkS 101 [(2, .ptr 10 L0 0 0 0), (3, .ptr 11 L0' 0 0 0), (t, .int .i64 i)], m)
  R := fun i => i ≤ xs.length ∧ ∀ j, j < i → rd xs (j : Nat) = rd ys (j : Nat)
  mu := fun i => xs.length - i
theorem ok17 : FSOk Try.prog 17 fs17 := by
  refine ⟨⟨_, Try.func17, by kernel_rfl, by kernel_rfl⟩, fun a => ⟨by simp [fs17, push_cast, noMine, argOwn, Chunk.frArg], by simp [fs17, push_cast, outOk, Chunk.ext], fun x => .inl (by simp [fs17, push_cast, frNew, frOut, Chunk.fr])⟩, fun a hp => ?_⟩
  obtain ⟨⟨⟨w, h, R, G, B⟩, L1, L2, L3⟩, ⟨⟨w', h', R', G', B'⟩, M1, M2, M3⟩⟩ := a
  obtain ⟨⟨s1, s2, s3⟩, s4, s5, s6⟩ := hp
  simp only at s1 s2 s3 s4 s5 s6
  change Tri Try.prog 17 [imV ⟨w, h, R, G, B⟩ L1 L2 L3 0, imV ⟨w', h', R', G', B'⟩ M1 M2 M3 3] [some (.ro, L1, .ints .i64 R), some (.ro, L2, .ints .i64 G), some (.ro, L3, .ints .i64 B), some (.ro, M1, .ints .i64 R'), some (.ro, M2, .ints .i64 G'), some (.ro, M3, .ints .i64 B')] (postF fs17 ⟨⟨⟨w, h, R, G, B⟩, L1, L2, L3⟩, ⟨⟨w', h', R', G', B'⟩, M1, M2, M3⟩⟩)
  refine tri_evS (hyp (l := []) (lp := []) trivial trivial) Try.func17 comp17 (rs := [.tmp 4]) (by rfl) Try.ntmps17 12 ?_
  simp -implicitDefEqProofs only [push_cast, false_implies, reduceCtorEq, Classical.not_not, Nat.reduceAdd, Nat.reduceSub, Nat.reduceMul, Nat.reduceLeDiff, Nat.reduceLT, Nat.reduceEqDiff, Nat.reduceBEq, Nat.reduceBNe, Int.reduceNeg, Int.reduceToNat, Bool.or_false, Bool.false_or, Bool.or_true, Bool.true_or, BEq.rfl, Bool.not_eq_true, Bool.not_eq_false, decide_eq_true_eq, not_true_eq_false, not_false_eq_true, ite_true, ite_false, List.append_nil, and_assoc, Nat.mul_zero, Nat.zero_mul, ir17]
  intro X
  refine ⟨fun hn => ?_, fun hy => ?_⟩
  · have e : ¬ (⟨w, h, R, G, B⟩ : Im).Eq ⟨w', h', R', G', B'⟩ := fun H => by
      obtain ⟨a, b, c, d, f⟩ := H
      simp only at a b c d f
      subst a b c d f
      simp at hn
    refine postF.mk' (fun _ => default) [some 0, some 1, some 2, some 3, some 4, some 5] ?_
    simp -implicitDefEqProofs only [push_cast, false_implies, reduceCtorEq, Classical.not_not, Nat.reduceAdd, Nat.reduceSub, Nat.reduceMul, Nat.reduceLeDiff, Nat.reduceLT, Nat.reduceEqDiff, Nat.reduceBEq, Nat.reduceBNe, Int.reduceNeg, Int.reduceToNat, Bool.or_false, Bool.false_or, Bool.or_true, Bool.true_or, BEq.rfl, Bool.not_eq_true, Bool.not_eq_false, decide_eq_true_eq, not_true_eq_false, not_false_eq_true, ite_true, ite_false, List.append_nil, and_assoc, Nat.mul_zero, Nat.zero_mul, fs17, e, decide_false]
  obtain ⟨q1, q2, q3, q4, q5⟩ : w = w' ∧ h = h' ∧ R.length = R'.length ∧ G.length = G'.length ∧ B.length = B'.length := by omega
  refine evS_loop _ _ _ (lp17 5 R R' (M17 w h w' h' R G B R' G' B' L1 L2 L3 M1 M2 M3 (X 0 10) (X 1 11)) (X 0 10) (X 1 11)) (0 : Nat) ⟨Nat.zero_le _, fun j hj => absurd hj (Nat.not_lt_zero _)⟩ ?_ ?_
  · change Sub _ _ ((lp17 5 R R' (M17 w h w' h' R G B R' G' B' L1 L2 L3 M1 M2 M3 (X 0 10) (X 1 11)) (X 0 10) (X 1 11)).I (0 : Nat)).1 ((lp17 5 R R' (M17 w h w' h' R G B R' G' B' L1 L2 L3 M1 M2 M3 (X 0 10) (X 1 11)) (X 0 10) (X 1 11)).I (0 : Nat)).2
    refine Sub.of (mkG 18 [(0, 0), (1, 1), (2, 2), (3, 3), (4, 4), (5, 5), (10, 10), (11, 11)]) ?_
    simp -implicitDefEqProofs only [push_cast, false_implies, reduceCtorEq, Classical.not_not, Nat.reduceAdd, Nat.reduceSub, Nat.reduceMul, Nat.reduceLeDiff, Nat.reduceLT, Nat.reduceEqDiff, Nat.reduceBEq, Nat.reduceBNe, Int.reduceNeg, Int.reduceToNat, Bool.or_false, Bool.false_or, Bool.or_true, Bool.true_or, BEq.rfl, Bool.not_eq_true, Bool.not_eq_false, decide_eq_true_eq, not_true_eq_false, not_false_eq_true, ite_true, ite_false, List.append_nil, and_assoc, Nat.mul_zero, Nat.zero_mul, lp17, M17]
  intro (i : Nat) ⟨(hi : i ≤ R.length), (hj : ∀ j, j < i → rd R (j : Nat) = rd R' (j : Nat))⟩
  change evS _ _ _ _ (mkS 101 [(2, .ptr 10 (X 0 10) 0 0 0), (3, .ptr 11 (X 1 11) 0 0 0), (5, .int .i64 i)]) (M17 w h w' h' R G B R' G' B' L1 L2 L3 M1 M2 M3 (X 0 10) (X 1 11))
  simp -implicitDefEqProofs only [push_cast, false_implies, reduceCtorEq, Classical.not_not, Nat.reduceAdd, Nat.reduceSub, Nat.reduceMul, Nat.reduceLeDiff, Nat.reduceLT, Nat.reduceEqDiff, Nat.reduceBEq, Nat.reduceBNe, Int.reduceNeg, Int.reduceToNat, Bool.or_false, Bool.false_or, Bool.or_true, Bool.true_or, BEq.rfl, Bool.not_eq_true, Bool.not_eq_false, decide_eq_true_eq, not_true_eq_false, not_false_eq_true, ite_true, ite_false, List.append_nil, and_assoc, Nat.mul_zero, Nat.zero_mul, M17, b17_1, r17_6]
  refine ⟨fun hl => ⟨by omega, by omega, by omega, by omega, by omega, by omega, by omega, by omega, fun hb => ?_, fun hg => ⟨by omega, by omega, ?_⟩⟩, fun hl => ?_⟩
  · have e : ¬ (⟨w, h, R, G, B⟩ : Im).Eq ⟨w', h', R', G', B'⟩ := fun H => by
      obtain ⟨a, b, c, d, f⟩ := H
      simp only at a b c d f
      subst a b c d f
      simp at hb
    refine postF.mk' (fun _ => default) [some 0, some 1, some 2, some 3, some 4, some 5] ?_
    simp -implicitDefEqProofs only [push_cast, false_implies, reduceCtorEq, Classical.not_not, Nat.reduceAdd, Nat.reduceSub, Nat.reduceMul, Nat.reduceLeDiff, Nat.reduceLT, Nat.reduceEqDiff, Nat.reduceBEq, Nat.reduceBNe, Int.reduceNeg, Int.reduceToNat, Bool.or_false, Bool.false_or, Bool.or_true, Bool.true_or, BEq.rfl, Bool.not_eq_true, Bool.not_eq_false, decide_eq_true_eq, not_true_eq_false, not_false_eq_true, ite_true, ite_false, List.append_nil, and_assoc, Nat.mul_zero, Nat.zero_mul, fs17, e, decide_false]
  · refine lpK_mk (i + 1 : Nat) ⟨by omega, fun j h => ?_⟩ (show R.length - (i + 1) < R.length - i by omega) ?_
    · by_cases e : j = i
      · subst e; exact hg
      · exact hj j (by omega)
    · change Sub _ _ ((lp17 5 R R' (M17 w h w' h' R G B R' G' B' L1 L2 L3 M1 M2 M3 (X 0 10) (X 1 11)) (X 0 10) (X 1 11)).I (i + 1 : Nat)).1 ((lp17 5 R R' (M17 w h w' h' R G B R' G' B' L1 L2 L3 M1 M2 M3 (X 0 10) (X 1 11)) (X 0 10) (X 1 11)).I (i + 1 : Nat)).2
      simp -implicitDefEqProofs only [push_cast, false_implies, reduceCtorEq, Classical.not_not, Nat.reduceAdd, Nat.reduceSub, Nat.reduceMul, Nat.reduceLeDiff, Nat.reduceLT, Nat.reduceEqDiff, Nat.reduceBEq, Nat.reduceBNe, Int.reduceNeg, Int.reduceToNat, Bool.or_false, Bool.false_or, Bool.or_true, Bool.true_or, BEq.rfl, Bool.not_eq_true, Bool.not_eq_false, decide_eq_true_eq, not_true_eq_false, not_false_eq_true, ite_true, ite_false, List.append_nil, and_assoc, Nat.mul_zero, Nat.zero_mul, lp17, M17]
      exact Sub.refl _ _
  have eqR : R = R' := eq_of_rd q3 fun j h => hj j (by omega)
  clear hj
  refine evS_loop _ _ _ (lp17 6 G G' (M17 w h w' h' R G B R' G' B' L1 L2 L3 M1 M2 M3 (X 0 10) (X 1 11)) (X 0 10) (X 1 11)) (0 : Nat) ⟨Nat.zero_le _, fun j hj => absurd hj (Nat.not_lt_zero _)⟩ ?_ ?_
  · change Sub _ _ ((lp17 6 G G' (M17 w h w' h' R G B R' G' B' L1 L2 L3 M1 M2 M3 (X 0 10) (X 1 11)) (X 0 10) (X 1 11)).I (0 : Nat)).1 ((lp17 6 G G' (M17 w h w' h' R G B R' G' B' L1 L2 L3 M1 M2 M3 (X 0 10) (X 1 11)) (X 0 10) (X 1 11)).I (0 : Nat)).2
    refine Sub.of (mkG 18 [(0, 0), (1, 1), (2, 2), (3, 3), (4, 4), (5, 5), (10, 10), (11, 11)]) ?_
    simp -implicitDefEqProofs only [push_cast, false_implies, reduceCtorEq, Classical.not_not, Nat.reduceAdd, Nat.reduceSub, Nat.reduceMul, Nat.reduceLeDiff, Nat.reduceLT, Nat.reduceEqDiff, Nat.reduceBEq, Nat.reduceBNe, Int.reduceNeg, Int.reduceToNat, Bool.or_false, Bool.false_or, Bool.or_true, Bool.true_or, BEq.rfl, Bool.not_eq_true, Bool.not_eq_false, decide_eq_true_eq, not_true_eq_false, not_false_eq_true, ite_true, ite_false, List.append_nil, and_assoc, Nat.mul_zero, Nat.zero_mul, lp17, M17]
  intro (i : Nat) ⟨(hi : i ≤ G.length), (hj : ∀ j, j < i → rd G (j : Nat) = rd G' (j : Nat))⟩
  change evS _ _ _ _ (mkS 101 [(2, .ptr 10 (X 0 10) 0 0 0), (3, .ptr 11 (X 1 11) 0 0 0), (6, .int .i64 i)]) (M17 w h w' h' R G B R' G' B' L1 L2 L3 M1 M2 M3 (X 0 10) (X 1 11))
  simp -implicitDefEqProofs only [push_cast, false_implies, reduceCtorEq, Classical.not_not, Nat.reduceAdd, Nat.reduceSub, Nat.reduceMul, Nat.reduceLeDiff, Nat.reduceLT, Nat.reduceEqDiff, Nat.reduceBEq, Nat.reduceBNe, Int.reduceNeg, Int.reduceToNat, Bool.or_false, Bool.false_or, Bool.or_true, Bool.true_or, BEq.rfl, Bool.not_eq_true, Bool.not_eq_false, decide_eq_true_eq, not_true_eq_false, not_false_eq_true, ite_true, ite_false, List.append_nil, and_assoc, Nat.mul_zero, Nat.zero_mul, M17, b17_2, r17_5]
  refine ⟨fun hl => ⟨by omega, by omega, by omega, by omega, by omega, by omega, by omega, by omega, fun hb => ?_, fun hg => ⟨by omega, by omega, ?_⟩⟩, fun hl => ?_⟩
  · have e : ¬ (⟨w, h, R, G, B⟩ : Im).Eq ⟨w', h', R', G', B'⟩ := fun H => by
      obtain ⟨a, b, c, d, f⟩ := H
      simp only at a b c d f
      subst a b c d f
      simp at hb
    refine postF.mk' (fun _ => default) [some 0, some 1, some 2, some 3, some 4, some 5] ?_
    simp -implicitDefEqProofs only [push_cast, false_implies, reduceCtorEq, Classical.not_not, Nat.reduceAdd, Nat.reduceSub, Nat.reduceMul, Nat.reduceLeDiff, Nat.reduceLT, Nat.reduceEqDiff, Nat.reduceBEq, Nat.reduceBNe, Int.reduceNeg, Int.reduceToNat, Bool.or_false, Bool.false_or, Bool.or_true, Bool.true_or, BEq.rfl, Bool.not_eq_true, Bool.not_eq_false, decide_eq_true_eq, not_true_eq_false, not_false_eq_true, ite_true, ite_false, List.append_nil, and_assoc, Nat.mul_zero, Nat.zero_mul, fs17, e, decide_false]
  · refine lpK_mk (i + 1 : Nat) ⟨by omega, fun j h => ?_⟩ (show G.length - (i + 1) < G.length - i by omega) ?_
    · by_cases e : j = i
      · subst e; exact hg
      · exact hj j (by omega)
    · change Sub _ _ ((lp17 6 G G' (M17 w h w' h' R G B R' G' B' L1 L2 L3 M1 M2 M3 (X 0 10) (X 1 11)) (X 0 10) (X 1 11)).I (i + 1 : Nat)).1 ((lp17 6 G G' (M17 w h w' h' R G B R' G' B' L1 L2 L3 M1 M2 M3 (X 0 10) (X 1 11)) (X 0 10) (X 1 11)).I (i + 1 : Nat)).2
      simp -implicitDefEqProofs only [push_cast, false_implies, reduceCtorEq, Classical.not_not, Nat.reduceAdd, Nat.reduceSub, Nat.reduceMul, Nat.reduceLeDiff, Nat.reduceLT, Nat.reduceEqDiff, Nat.reduceBEq, Nat.reduceBNe, Int.reduceNeg, Int.reduceToNat, Bool.or_false, Bool.false_or, Bool.or_true, Bool.true_or, BEq.rfl, Bool.not_eq_true, Bool.not_eq_false, decide_eq_true_eq, not_true_eq_false, not_false_eq_true, ite_true, ite_false, List.append_nil, and_assoc, Nat.mul_zero, Nat.zero_mul, lp17, M17]
      exact Sub.refl _ _
  have eqG : G = G' := eq_of_rd q4 fun j h => hj j (by omega)
  clear hj
  refine evS_loop _ _ _ (lp17 7 B B' (M17 w h w' h' R G B R' G' B' L1 L2 L3 M1 M2 M3 (X 0 10) (X 1 11)) (X 0 10) (X 1 11)) (0 : Nat) ⟨Nat.zero_le _, fun j hj => absurd hj (Nat.not_lt_zero _)⟩ ?_ ?_
  · change Sub _ _ ((lp17 7 B B' (M17 w h w' h' R G B R' G' B' L1 L2 L3 M1 M2 M3 (X 0 10) (X 1 11)) (X 0 10) (X 1 11)).I (0 : Nat)).1 ((lp17 7 B B' (M17 w h w' h' R G B R' G' B' L1 L2 L3 M1 M2 M3 (X 0 10) (X 1 11)) (X 0 10) (X 1 11)).I (0 : Nat)).2
    refine Sub.of (mkG 18 [(0, 0), (1, 1), (2, 2), (3, 3), (4, 4), (5, 5), (10, 10), (11, 11)]) ?_
    simp -implicitDefEqProofs only [push_cast, false_implies, reduceCtorEq, Classical.not_not, Nat.reduceAdd, Nat.reduceSub, Nat.reduceMul, Nat.reduceLeDiff, Nat.reduceLT, Nat.reduceEqDiff, Nat.reduceBEq, Nat.reduceBNe, Int.reduceNeg, Int.reduceToNat, Bool.or_false, Bool.false_or, Bool.or_true, Bool.true_or, BEq.rfl, Bool.not_eq_true, Bool.not_eq_false, decide_eq_true_eq, not_true_eq_false, not_false_eq_true, ite_true, ite_false, List.append_nil, and_assoc, Nat.mul_zero, Nat.zero_mul, lp17, M17]
  intro (i : Nat) ⟨(hi : i ≤ B.length), (hj : ∀ j, j < i → rd B (j : Nat) = rd B' (j : Nat))⟩
  change evS _ _ _ _ (mkS 101 [(2, .ptr 10 (X 0 10) 0 0 0), (3, .ptr 11 (X 1 11) 0 0 0), (7, .int .i64 i)]) (M17 w h w' h' R G B R' G' B' L1 L2 L3 M1 M2 M3 (X 0 10) (X 1 11))
  simp -implicitDefEqProofs only [push_cast, false_implies, reduceCtorEq, Classical.not_not, Nat.reduceAdd, Nat.reduceSub, Nat.reduceMul, Nat.reduceLeDiff, Nat.reduceLT, Nat.reduceEqDiff, Nat.reduceBEq, Nat.reduceBNe, Int.reduceNeg, Int.reduceToNat, Bool.or_false, Bool.false_or, Bool.or_true, Bool.true_or, BEq.rfl, Bool.not_eq_true, Bool.not_eq_false, decide_eq_true_eq, not_true_eq_false, not_false_eq_true, ite_true, ite_false, List.append_nil, and_assoc, Nat.mul_zero, Nat.zero_mul, M17, b17_3, r17_4]
  refine ⟨fun hl => ⟨by omega, by omega, by omega, by omega, by omega, by omega, by omega, by omega, fun hb => ?_, fun hg => ⟨by omega, by omega, ?_⟩⟩, fun hl => ?_⟩
  · have e : ¬ (⟨w, h, R, G, B⟩ : Im).Eq ⟨w', h', R', G', B'⟩ := fun H => by
      obtain ⟨a, b, c, d, f⟩ := H
      simp only at a b c d f
      subst a b c d f
      simp at hb
    refine postF.mk' (fun _ => default) [some 0, some 1, some 2, some 3, some 4, some 5] ?_
    simp -implicitDefEqProofs only [push_cast, false_implies, reduceCtorEq, Classical.not_not, Nat.reduceAdd, Nat.reduceSub, Nat.reduceMul, Nat.reduceLeDiff, Nat.reduceLT, Nat.reduceEqDiff, Nat.reduceBEq, Nat.reduceBNe, Int.reduceNeg, Int.reduceToNat, Bool.or_false, Bool.false_or, Bool.or_true, Bool.true_or, BEq.rfl, Bool.not_eq_true, Bool.not_eq_false, decide_eq_true_eq, not_true_eq_false, not_false_eq_true, ite_true, ite_false, List.append_nil, and_assoc, Nat.mul_zero, Nat.zero_mul, fs17, e, decide_false]
  · refine lpK_mk (i + 1 : Nat) ⟨by omega, fun j h => ?_⟩ (show B.length - (i + 1) < B.length - i by omega) ?_
    · by_cases e : j = i
      · subst e; exact hg
      · exact hj j (by omega)
    · change Sub _ _ ((lp17 7 B B' (M17 w h w' h' R G B R' G' B' L1 L2 L3 M1 M2 M3 (X 0 10) (X 1 11)) (X 0 10) (X 1 11)).I (i + 1 : Nat)).1 ((lp17 7 B B' (M17 w h w' h' R G B R' G' B' L1 L2 L3 M1 M2 M3 (X 0 10) (X 1 11)) (X 0 10) (X 1 11)).I (i + 1 : Nat)).2
      simp -implicitDefEqProofs only [push_cast, false_implies, reduceCtorEq, Classical.not_not, Nat.reduceAdd, Nat.reduceSub, Nat.reduceMul, Nat.reduceLeDiff, Nat.reduceLT, Nat.reduceEqDiff, Nat.reduceBEq, Nat.reduceBNe, Int.reduceNeg, Int.reduceToNat, Bool.or_false, Bool.false_or, Bool.or_true, Bool.true_or, BEq.rfl, Bool.not_eq_true, Bool.not_eq_false, decide_eq_true_eq, not_true_eq_false, not_false_eq_true, ite_true, ite_false, List.append_nil, and_assoc, Nat.mul_zero, Nat.zero_mul, lp17, M17]
      exact Sub.refl _ _
  have eqB : B = B' := eq_of_rd q5 fun j h => hj j (by omega)
  clear hj
  have e : (⟨w, h, R, G, B⟩ : Im).Eq ⟨w', h', R', G', B'⟩ := ⟨q1, q2, eqR, eqG, eqB⟩
  refine postF.mk' (fun _ => default) [some 0, some 1, some 2, some 3, some 4, some 5] ?_
  simp -implicitDefEqProofs only [push_cast, false_implies, reduceCtorEq, Classical.not_not, Nat.reduceAdd, Nat.reduceSub, Nat.reduceMul, Nat.reduceLeDiff, Nat.reduceLT, Nat.reduceEqDiff, Nat.reduceBEq, Nat.reduceBNe, Int.reduceNeg, Int.reduceToNat, Bool.or_false, Bool.false_or, Bool.or_true, Bool.true_or, BEq.rfl, Bool.not_eq_true, Bool.not_eq_false, decide_eq_true_eq, not_true_eq_false, not_false_eq_true, ite_true, ite_false, List.append_nil, and_assoc, Nat.mul_zero, Nat.zero_mul, fs17, e, decide_true]
def ent17 : Entry := spOf fs17 inv17
theorem e17 : EntryOk Try.prog 17 ent17 := entry_of ok17 inv17
@[push_cast] theorem ent17_app (us : List SV) (look : Look) (x : Nat → Xf.Loc) (k : Nat) : ent17 us look x k = spOf fs17 inv17 us look x k := rfl
def ir47 : IR :=
  .seq (.reg false [⟨some 4, none, ⟨[], []⟩, .alloc 10 [.int .i64 0, .int .i64 0, nilSV]⟩] [] []) (.seq (.reg false [⟨some 5, none, ⟨[], []⟩, .mov (.t 0)⟩,
    ⟨some 6, none, ⟨[], []⟩, .mov (.t 1)⟩,
    ⟨some 7, none, ⟨[], []⟩, .mov (.t 0)⟩,
    ⟨some 8, none, ⟨[], []⟩, .mov (.t 1)⟩,
    ⟨some 9, none, ⟨[], []⟩, .bin 0 .mul (.t 7) (.t 8)⟩,
    ⟨some 10, none, ⟨[], []⟩, .mks 11 (.int .i64 0) 8 (.t 9) (.t 9)⟩,
    ⟨some 11, none, ⟨[], []⟩, .build [.int .i64 0, .int .i64 0, nilSV] [(0, 1, .t 5), (1, 1, .t 6), (2, 1, .t 10)]⟩,
    ⟨none, none, ⟨[], []⟩, .sto false 3 .i64 (.t 4) (.t 11)⟩] [0, 1, 5, 6, 7, 8, 9, 10, 11] []) (.ret))
set_option maxRecDepth 4000 in
theorem comp47 : (Try.f47.body.bind fun c => compC tab isP chkAll ir47 c) = some ir47 := by kernel_rfl
def b20_1 : IR :=
  .seq (.reg false [⟨some 32, none, ⟨[], []⟩, .bin 0 .lss (.t 31) (.t 30)⟩] [] []) (.seq (.cond (.t 32) (.skip) (.exit 0)) (.seq (.block 1 (.seq (.reg false [⟨some 33, none, ⟨[], []⟩, .mov (.t 31)⟩,
    ⟨some 6, none, ⟨[], []⟩, .mov (.t 33)⟩] [32, 33] []) (.seq (.reg true [⟨some 34, none, ⟨[], []⟩, .fld (.t 2) 2⟩,
    ⟨some 35, none, ⟨[], []⟩, .ld false none 0 0 (.t 34)⟩,
    ⟨some 36, none, ⟨[], []⟩, .mov (.t 6)⟩,
    ⟨some 37, none, ⟨[], []⟩, .fld (.t 1) 2⟩,
    ⟨some 38, none, ⟨[], []⟩, .ld false none 0 0 (.t 37)⟩,
    ⟨some 39, none, ⟨[], []⟩, .mov (.t 6)⟩,
    ⟨some 40, none, ⟨[], []⟩, .idxS (.t 38) (.t 39) 1⟩,
    ⟨some 41, none, ⟨[], []⟩, .ld true none 0 0 (.t 40)⟩,
    ⟨some 42, none, ⟨[], []⟩, .fld (.t 1) 3⟩,
    ⟨some 43, none, ⟨[], []⟩, .ld false none 0 0 (.t 42)⟩,
    ⟨some 44, none, ⟨[], []⟩, .mov (.t 6)⟩,
    ⟨some 45, none, ⟨[], []⟩, .idxS (.t 43) (.t 44) 1⟩,
    ⟨some 46, none, ⟨[], []⟩, .ld true none 0 0 (.t 45)⟩,
    ⟨some 47, none, ⟨[], []⟩, .bin 0 .mul (.k (.int .i64 2)) (.t 46)⟩,
    ⟨some 48, none, ⟨[], []⟩, .bin 0 .add (.t 41) (.t 47)⟩,
    ⟨some 49, none, ⟨[], []⟩, .fld (.t 1) 4⟩,
    ⟨some 50, none, ⟨[], []⟩, .ld false none 0 0 (.t 49)⟩,
    ⟨some 51, none, ⟨[], []⟩, .mov (.t 6)⟩,
    ⟨some 52, none, ⟨[], []⟩, .idxS (.t 50) (.t 51) 1⟩,
    ⟨some 53, none, ⟨[], []⟩, .ld true none 0 0 (.t 52)⟩,
    ⟨some 54, none, ⟨[], []⟩, .bin 0 .add (.t 48) (.t 53)⟩,
    ⟨some 55, none, ⟨[], []⟩, .bin 0 .quo (.t 54) (.k (.int .i64 4))⟩,
    ⟨some 56, none, ⟨[], []⟩, .idxS (.t 35) (.t 36) 1⟩,
    ⟨none, none, ⟨[], []⟩, .sto true 1 .i64 (.t 56) (.t 55)⟩] [34, 35, 36, 37, 38, 39, 40, 41, 42, 43, 44, 45, 46, 47, 48, 49, 50, 51, 52, 53, 54, 55, 56] []) (.seq (.reg true [⟨some 57, none, ⟨[], []⟩, .fld (.t 3) 2⟩,
    ⟨some 58, none, ⟨[], []⟩, .ld false none 0 0 (.t 57)⟩,
    ⟨some 59, none, ⟨[], []⟩, .mov (.t 6)⟩,
    ⟨some 60, none, ⟨[], []⟩, .fld (.t 1) 4⟩,
    ⟨some 61, none, ⟨[], []⟩, .ld false none 0 0 (.t 60)⟩,
    ⟨some 62, none, ⟨[], []⟩, .mov (.t 6)⟩,
    ⟨some 63, none, ⟨[], []⟩, .idxS (.t 61) (.t 62) 1⟩,
    ⟨some 64, none, ⟨[], []⟩, .ld true none 0 0 (.t 63)⟩,
    ⟨some 65, none, ⟨[], []⟩, .fld (.t 1) 3⟩,
    ⟨some 66, none, ⟨[], []⟩, .ld false none 0 0 (.t 65)⟩,
    ⟨some 67, none, ⟨[], []⟩, .mov (.t 6)⟩,
    ⟨some 68, none, ⟨[], []⟩, .idxS (.t 66) (.t 67) 1⟩,
    ⟨some 69, none, ⟨[], []⟩, .ld true none 0 0 (.t 68)⟩,
    ⟨some 70, none, ⟨[], []⟩, .bin 0 .sub (.t 64) (.t 69)⟩,
    ⟨some 71, none, ⟨[], []⟩, .idxS (.t 58) (.t 59) 1⟩,
    ⟨none, none, ⟨[], []⟩, .sto true 1 .i64 (.t 71) (.t 70)⟩] [57, 58, 59, 60, 61, 62, 63, 64, 65, 66, 67, 68, 69, 70, 71] []) (.reg true [⟨some 72, none, ⟨[], []⟩, .fld (.t 4) 2⟩,
    ⟨some 73, none, ⟨[], []⟩, .ld false none 0 0 (.t 72)⟩,
    ⟨some 74, none, ⟨[], []⟩, .mov (.t 6)⟩,
    ⟨some 75, none, ⟨[], []⟩, .fld (.t 1) 2⟩,
    ⟨some 76, none, ⟨[], []⟩, .ld false none 0 0 (.t 75)⟩,
    ⟨some 77, none, ⟨[], []⟩, .mov (.t 6)⟩,
    ⟨some 78, none, ⟨[], []⟩, .idxS (.t 76) (.t 77) 1⟩,
    ⟨some 79, none, ⟨[], []⟩, .ld true none 0 0 (.t 78)⟩,
    ⟨some 80, none, ⟨[], []⟩, .fld (.t 1) 3⟩,
    ⟨some 81, none, ⟨[], []⟩, .ld false none 0 0 (.t 80)⟩,
    ⟨some 82, none, ⟨[], []⟩, .mov (.t 6)⟩,
    ⟨some 83, none, ⟨[], []⟩, .idxS (.t 81) (.t 82) 1⟩,
    ⟨some 84, none, ⟨[], []⟩, .ld true none 0 0 (.t 83)⟩,
    ⟨some 85, none, ⟨[], []⟩, .bin 0 .sub (.t 79) (.t 84)⟩,
    ⟨some 86, none, ⟨[], []⟩, .idxS (.t 73) (.t 74) 1⟩,
    ⟨none, none, ⟨[], []⟩, .sto true 1 .i64 (.t 86) (.t 85)⟩] [6, 72, 73, 74, 75, 76, 77, 78, 79, 80, 81, 82, 83, 84, 85, 86] []))))) (.reg false [⟨some 87, none, ⟨[], []⟩, .bin 0 .add (.t 31) (.k (.int .i64 1))⟩,
    ⟨some 31, none, ⟨[], []⟩, .mov (.t 87)⟩] [87] [])))
def r20_2 : IR :=
  .seq (.reg true [⟨some 88, none, ⟨[], []⟩, .ld false (some 3) 0 0 (.t 2)⟩,
    ⟨some 89, none, ⟨[11], []⟩, .ld false (some 3) 0 0 (.t 3)⟩,
    ⟨some 90, none, ⟨[11, 12], []⟩, .ld false (some 3) 0 0 (.t 4)⟩,
    ⟨none, none, ⟨[], [11]⟩, .sto false 3 .i64 (.t 2) (.t 88)⟩,
    ⟨none, none, ⟨[], [12]⟩, .sto false 3 .i64 (.t 3) (.t 89)⟩,
    ⟨none, none, ⟨[], []⟩, .sto false 3 .i64 (.t 4) (.t 90)⟩,
    ⟨some 5, none, ⟨[], []⟩, .mov (.k (.int .i64 0))⟩] [1, 30, 31, 88, 89, 90] []) (.ret)
def ir20 : IR :=
  .seq (.reg false [⟨some 1, none, ⟨[], []⟩, .box 10 (.t 0)⟩,
    ⟨some 2, none, ⟨[], []⟩, .alloc 11 [.int .i64 0, .int .i64 0, nilSV]⟩,
    ⟨some 3, none, ⟨[], []⟩, .alloc 12 [.int .i64 0, .int .i64 0, nilSV]⟩,
    ⟨some 4, none, ⟨[], []⟩, .alloc 13 [.int .i64 0, .int .i64 0, nilSV]⟩,
    ⟨some 5, none, ⟨[], []⟩, .mov (.k (.int .i64 0))⟩] [0, 5] []) (.seq (.seq (.reg false [⟨some 7, none, ⟨[], []⟩, .ld false (some 5) 0 0 (.t 1)⟩,
    ⟨some 8, none, ⟨[], []⟩, .call (some 4) 14 15 [.t 7]⟩,
    ⟨some 9, none, ⟨[], []⟩, .not (.t 8)⟩] [7, 8] []) (.cond (.t 9) (.seq (.reg true [⟨some 10, none, ⟨[], []⟩, .ld false (some 3) 0 0 (.t 2)⟩,
    ⟨some 11, none, ⟨[11], []⟩, .ld false (some 3) 0 0 (.t 3)⟩,
    ⟨some 12, none, ⟨[11, 12], []⟩, .ld false (some 3) 0 0 (.t 4)⟩,
    ⟨none, none, ⟨[], [11]⟩, .sto false 3 .i64 (.t 2) (.t 10)⟩,
    ⟨none, none, ⟨[], [12]⟩, .sto false 3 .i64 (.t 3) (.t 11)⟩,
    ⟨none, none, ⟨[], []⟩, .sto false 3 .i64 (.t 4) (.t 12)⟩,
    ⟨some 5, none, ⟨[], []⟩, .mov (.k (.int .i64 75))⟩] [1, 9, 10, 11, 12] []) (.ret)) (.skip))) (.seq (.reg true [⟨some 13, none, ⟨[], []⟩, .fld (.t 1) 0⟩,
    ⟨some 14, none, ⟨[], []⟩, .ld false none 0 0 (.t 13)⟩,
    ⟨some 15, none, ⟨[], []⟩, .fld (.t 1) 1⟩,
    ⟨some 16, none, ⟨[], []⟩, .ld false none 0 0 (.t 15)⟩,
    ⟨some 17, none, ⟨[], []⟩, .call (some 4) 18 47 [.t 14, .t 16]⟩,
    ⟨some 18, none, ⟨[], []⟩, .fld (.t 1) 0⟩,
    ⟨some 19, none, ⟨[18, 19, 20, 21], []⟩, .ld false none 0 0 (.t 18)⟩,
    ⟨some 20, none, ⟨[], []⟩, .fld (.t 1) 1⟩,
    ⟨some 21, none, ⟨[18, 19, 20, 21], []⟩, .ld false none 0 0 (.t 20)⟩,
    ⟨some 22, none, ⟨[], []⟩, .call (some 4) 22 47 [.t 19, .t 21]⟩,
    ⟨some 23, none, ⟨[], []⟩, .fld (.t 1) 0⟩,
    ⟨some 24, none, ⟨[18, 19, 20, 21, 22, 23, 24, 25], []⟩, .ld false none 0 0 (.t 23)⟩,
    ⟨some 25, none, ⟨[], []⟩, .fld (.t 1) 1⟩,
    ⟨some 26, none, ⟨[18, 19, 20, 21, 22, 23, 24, 25], []⟩, .ld false none 0 0 (.t 25)⟩,
    ⟨some 27, none, ⟨[], []⟩, .call (some 4) 26 47 [.t 24, .t 26]⟩,
    ⟨none, none, ⟨[], []⟩, .sto false 3 .i64 (.t 2) (.t 17)⟩,
    ⟨none, none, ⟨[], []⟩, .sto false 3 .i64 (.t 3) (.t 22)⟩,
    ⟨none, none, ⟨[], []⟩, .sto false 3 .i64 (.t 4) (.t 27)⟩] [5, 9, 13, 14, 15, 16, 17, 18, 19, 20, 21, 22, 23, 24, 25, 26, 27] []) (.seq (.seq (.reg false [⟨some 28, none, ⟨[], []⟩, .fld (.t 1) 2⟩,
    ⟨some 29, none, ⟨[], []⟩, .ld false none 0 0 (.t 28)⟩,
    ⟨some 30, none, ⟨[], []⟩, .len (.t 29)⟩,
    ⟨some 31, none, ⟨[], []⟩, .mov (.k (.int .i64 0))⟩] [28, 29] []) (.block 0 (.loop b20_1))) (r20_2))))
set_option maxRecDepth 4000 in
theorem comp20 : (Try.f20.body.bind fun c => compC tab isP chkAll ir20 c) = some ir20 := by kernel_rfl
structure Pl where
  w : Int
  h : Int
  xs : List Int
def plV (p : Pl) (L : Xf.Loc) (c : Nat) : SV := .agg [.int .i64 p.w, .int .i64 p.h, .sl c L 1 0 p.xs.length]
attribute [push_cast] plV
def pl0 : Pl := ⟨0, 0, []⟩
def fs47 : FS where
  A := WH
  args := fun a => [.int .i64 a.w, .int .i64 a.h]
  mem := fun _ => []
  pre := fun a => SidesOk a.w a.h
  res := fun a x => .agg [.int .i64 a.w, .int .i64 a.h, .sl 0 (x 0) 1 0 (a.w * a.h)]
  out := fun _ _ => []
  new := fun a x => [(x 0, .ints .i64 (zs (a.w * a.h)))]
theorem ok47 : FSOk Try.prog 47 fs47 := by
  refine ⟨⟨_, Try.func47, by kernel_rfl, by kernel_rfl⟩, fun a => ⟨by simp [fs47, push_cast, noMine, argOwn, Chunk.frArg], by simp [fs47, push_cast, outOk, Chunk.ext], fun x => .inl (by simp [fs47, push_cast, frNew, frOut, Chunk.fr])⟩, fun a hp => ?_⟩
  obtain ⟨w, h⟩ := a
  change SidesOk w h at hp
  change Tri Try.prog 47 [.int .i64 w, .int .i64 h] [] (postF fs47 ⟨w, h⟩)
  refine tri_evS (hyp (l := []) (lp := []) trivial trivial) Try.func47 comp47 (rs := [.cell 4 (some 3)]) (by rfl) Try.ntmps47 14 ?_
  simp -implicitDefEqProofs only [push_cast, false_implies, reduceCtorEq, Classical.not_not, Nat.reduceAdd, Nat.reduceSub, Nat.reduceMul, Nat.reduceLeDiff, Nat.reduceLT, Nat.reduceEqDiff, Nat.reduceBEq, Nat.reduceBNe, Int.reduceNeg, Int.reduceToNat, Bool.or_false, Bool.false_or, Bool.or_true, Bool.true_or, BEq.rfl, Bool.not_eq_true, Bool.not_eq_false, decide_eq_true_eq, not_true_eq_false, not_false_eq_true, ite_true, ite_false, List.append_nil, and_assoc, Nat.mul_zero, Nat.zero_mul, ir47]
  have hm := hp.bd
  intro X X1
  refine ⟨by omega, by omega, by omega, by omega, by omega, postF.mk' (locs [X1 5 11]) [some 11] ?_⟩
  simp -implicitDefEqProofs only [push_cast, false_implies, reduceCtorEq, Classical.not_not, Nat.reduceAdd, Nat.reduceSub, Nat.reduceMul, Nat.reduceLeDiff, Nat.reduceLT, Nat.reduceEqDiff, Nat.reduceBEq, Nat.reduceBNe, Int.reduceNeg, Int.reduceToNat, Bool.or_false, Bool.false_or, Bool.or_true, Bool.true_or, BEq.rfl, Bool.not_eq_true, Bool.not_eq_false, decide_eq_true_eq, not_true_eq_false, not_false_eq_true, ite_true, ite_false, List.append_nil, and_assoc, Nat.mul_zero, Nat.zero_mul, fs47, zs]
def ent47 : Entry := spOf fs47 inv41
theorem e47 : EntryOk Try.prog 47 ent47 := entry_of ok47 inv41
@[push_cast] theorem ent47_app (us : List SV) (look : Look) (x : Nat → Xf.Loc) (k : Nat) : ent47 us look x k = spOf fs47 inv41 us look x k := rfl
/-- The planes of an image. -/
def tY (i : Im) : Nat → Int := fun k => (rd i.R (k : Nat) + 2 * rd i.G (k : Nat) + rd i.B (k : Nat)) / 4
def tU (i : Im) : Nat → Int := fun k => rd i.B (k : Nat) - rd i.G (k : Nat)
def tV (i : Im) : Nat → Int := fun k => rd i.R (k : Nat) - rd i.G (k : Nat)
def turn (f : Im → Nat → Int) (i : Im) : Pl := if i.Ok then ⟨i.w, i.h, tabl i.R.length (f i)⟩ else pl0
def fs20 : FS where
  A := ImA
  args := fun a => [imV a.i a.L1 a.L2 a.L3 0]
  mem := fun a => imM a.i a.L1 a.L2 a.L3
  pre := fun a => a.i.small
  res := fun a x => .tup [plV (turn tY a.i) (lx a.i.Ok x 0) 3, plV (turn tU a.i) (lx a.i.Ok x 1) 4, plV (turn tV a.i) (lx a.i.Ok x 2) 5, .int .i64 (if a.i.Ok then 0 else 75)]
  out := fun _ _ => []
  new := fun a x => [(lx a.i.Ok x 0, .ints .i64 (turn tY a.i).xs), (lx a.i.Ok x 1, .ints .i64 (turn tU a.i).xs), (lx a.i.Ok x 2, .ints .i64 (turn tV a.i).xs)]
def I20 (i : Im) (L1 L2 L3 L0 M1 M2 M3 N1 N2 N3 : Xf.Loc) (k : Nat) : List Ent × Mem :=
  (mkS 91 [(1, .ptr 10 L0 0 0 0), (2, .ptr 11 M1 0 0 0), (3, .ptr 12 M2 0 0 0), (4, .ptr 13 M3 0 0 0), (30, .int .i64 i.R.length), (31, .int .i64 k)],
    mkM 35 [(0, .ro, L1, .ints .i64 i.R), (1, .ro, L2, .ints .i64 i.G), (2, .ro, L3, .ints .i64 i.B), (10, .mine, L0, .cells [.int .i64 i.w, .int .i64 i.h, .sl 0 L1 1 0 i.R.length, .sl 1 L2 1 0 i.G.length, .sl 2 L3 1 0 i.B.length]),
      (11, .mine, M1, .cells [.int .i64 i.w, .int .i64 i.h, .sl 18 N1 1 0 (i.w * i.h)]), (12, .mine, M2, .cells [.int .i64 i.w, .int .i64 i.h, .sl 22 N2 1 0 (i.w * i.h)]), (13, .mine, M3, .cells [.int .i64 i.w, .int .i64 i.h, .sl 26 N3 1 0 (i.w * i.h)]),
      (18, .mine, N1, .ints .i64 (prt i.R.length k (tY i))), (22, .mine, N2, .ints .i64 (prt i.R.length k (tU i))), (26, .mine, N3, .ints .i64 (prt i.R.length k (tV i)))])
def lp20 (i : Im) (L1 L2 L3 L0 M1 M2 M3 N1 N2 N3 : Xf.Loc) : LoopS where
  A := Nat
  I := I20 i L1 L2 L3 L0 M1 M2 M3 N1 N2 N3
  R := fun k => k ≤ i.R.length
  mu := fun k => i.R.length - k
theorem Im.Ok.val {i : Im} (h : i.Ok) : i.G.length = i.R.length ∧ i.B.length = i.R.length ∧ ∀ k : Nat, k < i.R.length → (0 ≤ rd i.R (k : Nat) ∧ rd i.R (k : Nat) ≤ 255) ∧ (0 ≤ rd i.G (k : Nat) ∧ rd i.G (k : Nat) ≤ 255) ∧ (0 ≤ rd i.B (k : Nat) ∧ rd i.B (k : Nat) ≤ 255) := by
  obtain ⟨_, ⟨a, x⟩, ⟨b, y⟩, ⟨c, z⟩⟩ := h
  have e1 : i.G.length = i.R.length := by omega
  have e2 : i.B.length = i.R.length := by omega
  exact ⟨e1, e2, fun k hk => ⟨allVal_rd.1 x k hk, allVal_rd.1 y k (by omega), allVal_rd.1 z k (by omega)⟩⟩
theorem ok20 : FSOk Try.prog 20 fs20 := by
  refine ⟨⟨_, Try.func20, by kernel_rfl, by kernel_rfl⟩, fun a => ⟨by simp [fs20, imM, push_cast, noMine, argOwn, Chunk.frArg], by simp [fs20, imM, push_cast, outOk, Chunk.ext], fun x => .inl (by simp [fs20, imM, push_cast, frNew, frOut, Chunk.fr])⟩, fun a hp => ?_⟩
  obtain ⟨⟨w, h, R, G, B⟩, L1, L2, L3⟩ := a
  change (⟨w, h, R, G, B⟩ : Im).small at hp
  change Tri Try.prog 20 [imV ⟨w, h, R, G, B⟩ L1 L2 L3 0] (imM ⟨w, h, R, G, B⟩ L1 L2 L3) (postF fs20 ⟨⟨w, h, R, G, B⟩, L1, L2, L3⟩)
  refine tri_evS (hyp (l := [(15, ent15), (47, ent47)]) (lp := []) ⟨e15, e47, trivial⟩ trivial) Try.func20 comp20 (rs := [.cell 2 (some 3), .cell 3 (some 3), .cell 4 (some 3), .tmp 5]) (by rfl) Try.ntmps20 32 ?_
  simp -implicitDefEqProofs only [push_cast, false_implies, reduceCtorEq, Classical.not_not, Nat.reduceAdd, Nat.reduceSub, Nat.reduceMul, Nat.reduceLeDiff, Nat.reduceLT, Nat.reduceEqDiff, Nat.reduceBEq, Nat.reduceBNe, Int.reduceNeg, Int.reduceToNat, Bool.or_false, Bool.false_or, Bool.or_true, Bool.true_or, BEq.rfl, Bool.not_eq_true, Bool.not_eq_false, decide_eq_true_eq, not_true_eq_false, not_false_eq_true, ite_true, ite_false, List.append_nil, and_assoc, Nat.mul_zero, Nat.zero_mul, ir20, fs15, fs47]
  intro X
  refine ⟨hp, fun hn => ?_, fun hy X1 => ⟨hy.1, ?_⟩⟩
  · refine postF.mk' (fun _ => default) [some 0, some 1, some 2, none, none, none] ?_
    simp -implicitDefEqProofs only [push_cast, false_implies, reduceCtorEq, Classical.not_not, Nat.reduceAdd, Nat.reduceSub, Nat.reduceMul, Nat.reduceLeDiff, Nat.reduceLT, Nat.reduceEqDiff, Nat.reduceBEq, Nat.reduceBNe, Int.reduceNeg, Int.reduceToNat, Bool.or_false, Bool.false_or, Bool.or_true, Bool.true_or, BEq.rfl, Bool.not_eq_true, Bool.not_eq_false, decide_eq_true_eq, not_true_eq_false, not_false_eq_true, ite_true, ite_false, List.append_nil, and_assoc, Nat.mul_zero, Nat.zero_mul, fs20, turn, hn, if_false, lx, pl0]
  have hs : SidesOk w h := hy.1
  have hm := hs.bd
  have hl : (R.length : Int) = w * h := hy.2.1.1
  obtain ⟨e1, e2, hv⟩ := hy.val
  simp only at e1 e2 hv
  refine evS_loop _ _ _ (lp20 ⟨w, h, R, G, B⟩ L1 L2 L3 (X 0 10) (X 1 11) (X 2 12) (X 3 13) (X1 4 18) (X1 9 22) (X1 14 26)) (0 : Nat) (Nat.zero_le _) ?_ ?_
  · refine Sub.of (mkG 35 [(0, 0), (1, 1), (2, 2), (10, 10), (11, 11), (12, 12), (13, 13), (18, 18), (22, 22), (26, 26)]) ?_
    have ez : (w * h).toNat = R.length := by omega
    simp -implicitDefEqProofs only [push_cast, false_implies, reduceCtorEq, Classical.not_not, Nat.reduceAdd, Nat.reduceSub, Nat.reduceMul, Nat.reduceLeDiff, Nat.reduceLT, Nat.reduceEqDiff, Nat.reduceBEq, Nat.reduceBNe, Int.reduceNeg, Int.reduceToNat, Bool.or_false, Bool.false_or, Bool.or_true, Bool.true_or, BEq.rfl, Bool.not_eq_true, Bool.not_eq_false, decide_eq_true_eq, not_true_eq_false, not_false_eq_true, ite_true, ite_false, List.append_nil, and_assoc, Nat.mul_zero, Nat.zero_mul, lp20, I20, zs, prt_zero, ez]
  intro (k : Nat) (hk : k ≤ R.length)
  change evS _ _ _ _ (I20 ⟨w, h, R, G, B⟩ L1 L2 L3 (X 0 10) (X 1 11) (X 2 12) (X 3 13) (X1 4 18) (X1 9 22) (X1 14 26) k).1 (I20 ⟨w, h, R, G, B⟩ L1 L2 L3 (X 0 10) (X 1 11) (X 2 12) (X 3 13) (X1 4 18) (X1 9 22) (X1 14 26) k).2
  simp -implicitDefEqProofs only [push_cast, false_implies, reduceCtorEq, Classical.not_not, Nat.reduceAdd, Nat.reduceSub, Nat.reduceMul, Nat.reduceLeDiff, Nat.reduceLT, Nat.reduceEqDiff, Nat.reduceBEq, Nat.reduceBNe, Int.reduceNeg, Int.reduceToNat, Bool.or_false, Bool.false_or, Bool.or_true, Bool.true_or, BEq.rfl, Bool.not_eq_true, Bool.not_eq_false, decide_eq_true_eq, not_true_eq_false, not_false_eq_true, ite_true, ite_false, List.append_nil, and_assoc, Nat.mul_zero, Nat.zero_mul, I20, b20_1, r20_2]
  refine ⟨fun hk1 => ?_, fun hk1 => ?_⟩
  · have hk' : k < R.length := by omega
    obtain ⟨v1, v2, v3⟩ := hv k hk'
    have lY := prt_length hk (tY (⟨w, h, R, G, B⟩ : Im))
    have lU := prt_length hk (tU (⟨w, h, R, G, B⟩ : Im))
    have lV := prt_length hk (tV (⟨w, h, R, G, B⟩ : Im))
    repeat (refine ⟨by omega, ?_⟩)
    refine lpK_mk (k + 1 : Nat) hk' (show R.length - (k + 1) < R.length - k by omega) ?_
    have q1 : (prt R.length k (tY (⟨w, h, R, G, B⟩ : Im))).set k ((rd R k + 2 * rd G k + rd B k) / 4) = prt R.length (k + 1) (tY (⟨w, h, R, G, B⟩ : Im)) := prt_set hk' _
    have q2 : (prt R.length k (tU (⟨w, h, R, G, B⟩ : Im))).set k (rd B k - rd G k) = prt R.length (k + 1) (tU (⟨w, h, R, G, B⟩ : Im)) := prt_set hk' _
    have q3 : (prt R.length k (tV (⟨w, h, R, G, B⟩ : Im))).set k (rd R k - rd G k) = prt R.length (k + 1) (tV (⟨w, h, R, G, B⟩ : Im)) := prt_set hk' _
    refine Sub.of (mkG 35 [(0, 0), (1, 1), (2, 2), (10, 10), (11, 11), (12, 12), (13, 13), (18, 18), (22, 22), (26, 26)]) ?_
    simp -implicitDefEqProofs only [push_cast, false_implies, reduceCtorEq, Classical.not_not, Nat.reduceAdd, Nat.reduceSub, Nat.reduceMul, Nat.reduceLeDiff, Nat.reduceLT, Nat.reduceEqDiff, Nat.reduceBEq, Nat.reduceBNe, Int.reduceNeg, Int.reduceToNat, Bool.or_false, Bool.false_or, Bool.or_true, Bool.true_or, BEq.rfl, Bool.not_eq_true, Bool.not_eq_false, decide_eq_true_eq, not_true_eq_false, not_false_eq_true, ite_true, ite_false, List.append_nil, and_assoc, Nat.mul_zero, Nat.zero_mul, lp20, I20, Int.toNat_natCast, q1, q2, q3]
  · obtain rfl : k = R.length := by omega
    refine postF.mk' (locs [X1 4 18, X1 9 22, X1 14 26]) [some 0, some 1, some 2, some 18, some 22, some 26] ?_
    simp -implicitDefEqProofs only [push_cast, false_implies, reduceCtorEq, Classical.not_not, Nat.reduceAdd, Nat.reduceSub, Nat.reduceMul, Nat.reduceLeDiff, Nat.reduceLT, Nat.reduceEqDiff, Nat.reduceBEq, Nat.reduceBNe, Int.reduceNeg, Int.reduceToNat, Bool.or_false, Bool.false_or, Bool.or_true, Bool.true_or, BEq.rfl, Bool.not_eq_true, Bool.not_eq_false, decide_eq_true_eq, not_true_eq_false, not_false_eq_true, ite_true, ite_false, List.append_nil, and_assoc, Nat.mul_zero, Nat.zero_mul, fs20, turn, hy, if_true, lx, prt_all, tabl_length, hl]
def ent20 : Entry := spOf fs20 inv15
theorem e20 : EntryOk Try.prog 20 ent20 := entry_of ok20 inv15
@[push_cast] theorem ent20_app (us : List SV) (look : Look) (x : Nat → Xf.Loc) (k : Nat) : ent20 us look x k = spOf fs20 inv15 us look x k := rfl
def ir12 : IR :=
  .seq (.reg false [⟨some 0, none, ⟨[], []⟩, .mov (.k (.bool false))⟩] [0] []) (.seq (.reg false [⟨some 6, none, ⟨[], []⟩, .bslice 10 [.k (.int .i64 255)]⟩,
    ⟨some 7, none, ⟨[], []⟩, .bslice 11 [.k (.int .i64 0)]⟩,
    ⟨some 8, none, ⟨[], []⟩, .bslice 12 [.k (.int .i64 0)]⟩,
    ⟨some 9, none, ⟨[], []⟩, .build [.int .i64 0, .int .i64 0, nilSV, nilSV, nilSV] [(0, 1, .k (.int .i64 1)), (1, 1, .k (.int .i64 1)), (2, 1, .t 6), (3, 1, .t 7), (4, 1, .t 8)]⟩,
    ⟨some 10, none, ⟨[], []⟩, .call (some 4) 13 20 [.t 9]⟩,
    ⟨some 5, none, ⟨[], []⟩, .mov (.t 10)⟩,
    ⟨some 11, none, ⟨[], []⟩, .ext (.t 5) 0⟩,
    ⟨some 12, none, ⟨[], []⟩, .ext (.t 5) 1⟩,
    ⟨some 13, none, ⟨[], []⟩, .ext (.t 5) 2⟩,
    ⟨some 14, none, ⟨[], []⟩, .ext (.t 5) 3⟩,
    ⟨some 1, none, ⟨[], []⟩, .alloc 17 [.int .i64 0, .int .i64 0, nilSV]⟩,
    ⟨some 2, none, ⟨[], []⟩, .alloc 18 [.int .i64 0, .int .i64 0, nilSV]⟩,
    ⟨some 3, none, ⟨[], []⟩, .alloc 19 [.int .i64 0, .int .i64 0, nilSV]⟩,
    ⟨none, none, ⟨[], []⟩, .sto false 3 .i64 (.t 1) (.t 11)⟩,
    ⟨none, none, ⟨[], []⟩, .sto false 3 .i64 (.t 2) (.t 12)⟩,
    ⟨none, none, ⟨[], []⟩, .sto false 3 .i64 (.t 3) (.t 13)⟩,
    ⟨some 4, none, ⟨[], []⟩, .mov (.t 14)⟩] [5, 6, 7, 8, 9, 10, 11, 12, 13, 14] []) (.seq (.reg false [⟨some 15, none, ⟨[], []⟩, .mov (.t 4)⟩,
    ⟨some 16, none, ⟨[], []⟩, .bin 0 .eql (.t 15) (.k (.int .i64 0))⟩,
    ⟨some 17, none, ⟨[], []⟩, .mov (.t 16)⟩,
    ⟨some 18, some (17, true), ⟨[], []⟩, .fld (.t 1) 2⟩,
    ⟨some 19, some (17, true), ⟨[], []⟩, .ld false none 0 0 (.t 18)⟩,
    ⟨some 20, some (17, true), ⟨[], []⟩, .len (.t 19)⟩,
    ⟨some 21, some (17, true), ⟨[], []⟩, .bin 0 .eql (.t 20) (.k (.int .i64 1))⟩,
    ⟨some 22, none, ⟨[], []⟩, .pick (.t 17) (.t 21) (.k (.bool false))⟩,
    ⟨some 23, none, ⟨[], []⟩, .mov (.t 22)⟩,
    ⟨some 24, some (23, true), ⟨[], []⟩, .fld (.t 2) 2⟩,
    ⟨some 25, some (23, true), ⟨[], []⟩, .ld false none 0 0 (.t 24)⟩,
    ⟨some 26, some (23, true), ⟨[], []⟩, .len (.t 25)⟩,
    ⟨some 27, some (23, true), ⟨[], []⟩, .bin 0 .eql (.t 26) (.k (.int .i64 1))⟩,
    ⟨some 28, none, ⟨[], []⟩, .pick (.t 23) (.t 27) (.k (.bool false))⟩,
    ⟨some 29, none, ⟨[], []⟩, .mov (.t 28)⟩,
    ⟨some 30, some (29, true), ⟨[], []⟩, .fld (.t 3) 2⟩,
    ⟨some 31, some (29, true), ⟨[], []⟩, .ld false none 0 0 (.t 30)⟩,
    ⟨some 32, some (29, true), ⟨[], []⟩, .len (.t 31)⟩,
    ⟨some 33, some (29, true), ⟨[], []⟩, .bin 0 .eql (.t 32) (.k (.int .i64 1))⟩,
    ⟨some 34, none, ⟨[], []⟩, .pick (.t 29) (.t 33) (.k (.bool false))⟩,
    ⟨some 35, none, ⟨[], []⟩, .mov (.t 34)⟩,
    ⟨some 36, some (35, true), ⟨[], []⟩, .fld (.t 1) 2⟩,
    ⟨some 37, some (35, true), ⟨[], []⟩, .ld false none 0 0 (.t 36)⟩,
    ⟨some 38, some (35, true), ⟨[], []⟩, .idxS (.t 37) (.k (.int .i64 0)) 1⟩,
    ⟨some 39, some (35, true), ⟨[], []⟩, .ld true none 0 0 (.t 38)⟩,
    ⟨some 40, some (35, true), ⟨[], []⟩, .bin 0 .eql (.t 39) (.k (.int .i64 63))⟩,
    ⟨some 41, none, ⟨[], []⟩, .pick (.t 35) (.t 40) (.k (.bool false))⟩,
    ⟨some 42, none, ⟨[], []⟩, .mov (.t 41)⟩,
    ⟨some 43, some (42, true), ⟨[], []⟩, .fld (.t 2) 2⟩,
    ⟨some 44, some (42, true), ⟨[], []⟩, .ld false none 0 0 (.t 43)⟩,
    ⟨some 45, some (42, true), ⟨[], []⟩, .idxS (.t 44) (.k (.int .i64 0)) 1⟩,
    ⟨some 46, some (42, true), ⟨[], []⟩, .ld true none 0 0 (.t 45)⟩,
    ⟨some 47, some (42, true), ⟨[], []⟩, .bin 0 .eql (.t 46) (.k (.int .i64 0))⟩,
    ⟨some 48, none, ⟨[], []⟩, .pick (.t 42) (.t 47) (.k (.bool false))⟩,
    ⟨some 49, none, ⟨[], []⟩, .mov (.t 48)⟩,
    ⟨some 50, some (49, true), ⟨[], []⟩, .fld (.t 3) 2⟩,
    ⟨some 51, some (49, true), ⟨[], []⟩, .ld false none 0 0 (.t 50)⟩,
    ⟨some 52, some (49, true), ⟨[], []⟩, .idxS (.t 51) (.k (.int .i64 0)) 1⟩,
    ⟨some 53, some (49, true), ⟨[], []⟩, .ld true none 0 0 (.t 52)⟩,
    ⟨some 54, some (49, true), ⟨[], []⟩, .bin 0 .eql (.t 53) (.k (.int .i64 255))⟩,
    ⟨some 55, none, ⟨[], []⟩, .pick (.t 49) (.t 54) (.k (.bool false))⟩,
    ⟨some 0, none, ⟨[], []⟩, .mov (.t 55)⟩] [1, 2, 3, 4, 15, 16, 17, 18, 19, 20, 21, 22, 23, 24, 25, 26, 27, 28, 29, 30, 31, 32, 33, 34, 35, 36, 37, 38, 39, 40, 41, 42, 43, 44, 45, 46, 47, 48, 49, 50, 51, 52, 53, 54, 55] []) (.ret)))
set_option maxRecDepth 4000 in
theorem comp12 : (Try.f12.body.bind fun c => compC tab isP chkAll ir12 c) = some ir12 := by kernel_rfl
def ir11 : IR :=
  .seq (.reg false [⟨some 1, none, ⟨[], []⟩, .box 10 (.t 0)⟩,
    ⟨some 2, none, ⟨[], []⟩, .mov (.k (.bool false))⟩] [0, 2] []) (.seq (.reg false [⟨some 3, none, ⟨[], []⟩, .fld (.t 1) 2⟩,
    ⟨some 4, none, ⟨[], []⟩, .ld false none 0 0 (.t 3)⟩,
    ⟨some 5, none, ⟨[], []⟩, .len (.t 4)⟩,
    ⟨some 6, none, ⟨[], []⟩, .fld (.t 1) 3⟩,
    ⟨some 7, none, ⟨[], []⟩, .ld false none 0 0 (.t 6)⟩,
    ⟨some 8, none, ⟨[], []⟩, .len (.t 7)⟩,
    ⟨some 9, none, ⟨[], []⟩, .bin 0 .add (.t 5) (.t 8)⟩,
    ⟨some 10, none, ⟨[], []⟩, .fld (.t 1) 4⟩,
    ⟨some 11, none, ⟨[], []⟩, .ld false none 0 0 (.t 10)⟩,
    ⟨some 12, none, ⟨[], []⟩, .len (.t 11)⟩,
    ⟨some 13, none, ⟨[], []⟩, .bin 0 .add (.t 9) (.t 12)⟩,
    ⟨some 14, none, ⟨[], []⟩, .bin 0 .gtr (.t 13) (.k (.int .i64 9000))⟩,
    ⟨some 2, none, ⟨[], []⟩, .mov (.t 14)⟩] [1, 3, 4, 5, 6, 7, 8, 9, 10, 11, 12, 13, 14] []) (.ret))
set_option maxRecDepth 4000 in
theorem comp11 : (Try.f11.body.bind fun c => compC tab isP chkAll ir11 c) = some ir11 := by kernel_rfl
def im1 : Im := ⟨1, 1, [255], [0], [0]⟩
theorem im1_ok : im1.Ok := by
  refine ⟨⟨by decide, by decide, by decide, by decide, by decide⟩, ⟨rfl, ?_⟩, ⟨rfl, ?_⟩, ⟨rfl, ?_⟩⟩ <;> intro n hn <;> simp [im1] at hn <;> subst hn <;> exact ⟨by decide, by decide⟩
theorem im1_Y : turn tY im1 = ⟨1, 1, [63]⟩ := by unfold turn; rw [if_pos im1_ok]; rfl
theorem im1_U : turn tU im1 = ⟨1, 1, [0]⟩ := by unfold turn; rw [if_pos im1_ok]; rfl
theorem im1_V : turn tV im1 = ⟨1, 1, [255]⟩ := by unfold turn; rw [if_pos im1_ok]; rfl
def fs12 : FS where
  A := Unit
  args := fun _ => []
  mem := fun _ => []
  pre := fun _ => True
  res := fun _ _ => .bool true
  out := fun _ _ => []
  new := fun _ _ => []
def inv12 : List SV → Look → Option (Unit × List Nat)
  | [], _ => some ((), [])
  | _, _ => none
attribute [push_cast] inv12
theorem ok12 : FSOk Try.prog 12 fs12 := by
  refine ⟨⟨_, Try.func12, by kernel_rfl, by kernel_rfl⟩, fun a => ⟨by simp [fs12, push_cast, noMine, argOwn, Chunk.frArg], by simp [fs12, push_cast, outOk, Chunk.ext], fun x => .inl (by simp [fs12, push_cast, frNew, frOut, Chunk.fr])⟩, fun a hp => ?_⟩
  change Tri Try.prog 12 [] [] (postF fs12 a)
  refine tri_evS (hyp (l := [(20, ent20)]) (lp := []) ⟨e20, trivial⟩ trivial) Try.func12 comp12 (rs := [.tmp 0]) (by rfl) Try.ntmps12 22 ?_
  have f1 : (⟨1, 1, [255], [0], [0]⟩ : Im) = im1 := rfl
  have f2 : im1.small := ⟨by decide, by decide, by decide⟩
  simp -implicitDefEqProofs only [push_cast, false_implies, reduceCtorEq, Classical.not_not, Nat.reduceAdd, Nat.reduceSub, Nat.reduceMul, Nat.reduceLeDiff, Nat.reduceLT, Nat.reduceEqDiff, Nat.reduceBEq, Nat.reduceBNe, Int.reduceNeg, Int.reduceToNat, Bool.or_false, Bool.false_or, Bool.or_true, Bool.true_or, BEq.rfl, Bool.not_eq_true, Bool.not_eq_false, decide_eq_true_eq, not_true_eq_false, not_false_eq_true, ite_true, ite_false, List.append_nil, and_assoc, Nat.mul_zero, Nat.zero_mul, ir12, fs20, f1, f2, im1_Y, im1_U, im1_V, im1_ok, lx, if_true]
  intro X
  refine ⟨rfl, rfl, rfl, rfl, rfl, rfl, rfl, rfl, by decide, by decide, by decide, by decide, fun h => ⟨h, by decide, by decide⟩, fun h => ⟨h.1, h.2, by decide, by decide⟩, ?_⟩
  refine postF.mk' (fun _ => default) [] ?_
  have r1 : rd [63] 0 = 63 := rfl
  have r2 : rd [0] 0 = 0 := rfl
  have r3 : rd [255] 0 = 255 := rfl
  simp -implicitDefEqProofs only [push_cast, false_implies, reduceCtorEq, Classical.not_not, Nat.reduceAdd, Nat.reduceSub, Nat.reduceMul, Nat.reduceLeDiff, Nat.reduceLT, Nat.reduceEqDiff, Nat.reduceBEq, Nat.reduceBNe, Int.reduceNeg, Int.reduceToNat, Bool.or_false, Bool.false_or, Bool.or_true, Bool.true_or, BEq.rfl, Bool.not_eq_true, Bool.not_eq_false, decide_eq_true_eq, not_true_eq_false, not_false_eq_true, ite_true, ite_false, List.append_nil, and_assoc, Nat.mul_zero, Nat.zero_mul, fs12, r1, r2, r3, decide_true]
def ent12 : Entry := spOf fs12 inv12
theorem e12 : EntryOk Try.prog 12 ent12 := entry_of ok12 inv12
@[push_cast] theorem ent12_app (us : List SV) (look : Look) (x : Nat → Xf.Loc) (k : Nat) : ent12 us look x k = spOf fs12 inv12 us look x k := rfl
def fs11 : FS := { fs15 with res := fun a _ => .bool (decide (9000 < (a.i.R.length : Int) + a.i.G.length + a.i.B.length)) }
theorem ok11 : FSOk Try.prog 11 fs11 := by
  refine ⟨⟨_, Try.func11, by kernel_rfl, by kernel_rfl⟩, fun a => ⟨by simp [fs11, fs15, imM, push_cast, noMine, argOwn, Chunk.frArg], by simp [fs11, fs15, imM, push_cast, outOk, Chunk.ext], fun x => .inl (by simp [fs11, fs15, imM, push_cast, frNew, frOut, Chunk.fr])⟩, fun a hp => ?_⟩
  obtain ⟨⟨w, h, R, G, B⟩, L1, L2, L3⟩ := a
  obtain ⟨h1, h2, h3⟩ : R.length ≤ 140737488355328 ∧ G.length ≤ 140737488355328 ∧ B.length ≤ 140737488355328 := hp
  change Tri Try.prog 11 [imV ⟨w, h, R, G, B⟩ L1 L2 L3 0] (imM ⟨w, h, R, G, B⟩ L1 L2 L3) (postF fs11 ⟨⟨w, h, R, G, B⟩, L1, L2, L3⟩)
  refine tri_evS (hyp (l := []) (lp := []) trivial trivial) Try.func11 comp11 (rs := [.tmp 2]) (by rfl) Try.ntmps11 12 ?_
  simp -implicitDefEqProofs only [push_cast, false_implies, reduceCtorEq, Classical.not_not, Nat.reduceAdd, Nat.reduceSub, Nat.reduceMul, Nat.reduceLeDiff, Nat.reduceLT, Nat.reduceEqDiff, Nat.reduceBEq, Nat.reduceBNe, Int.reduceNeg, Int.reduceToNat, Bool.or_false, Bool.false_or, Bool.or_true, Bool.true_or, BEq.rfl, Bool.not_eq_true, Bool.not_eq_false, decide_eq_true_eq, not_true_eq_false, not_false_eq_true, ite_true, ite_false, List.append_nil, and_assoc, Nat.mul_zero, Nat.zero_mul, ir11]
  intro X
  repeat (refine ⟨by omega, ?_⟩)
  refine postF.mk' (fun _ => default) [some 0, some 1, some 2] ?_
  simp -implicitDefEqProofs only [push_cast, false_implies, reduceCtorEq, Classical.not_not, Nat.reduceAdd, Nat.reduceSub, Nat.reduceMul, Nat.reduceLeDiff, Nat.reduceLT, Nat.reduceEqDiff, Nat.reduceBEq, Nat.reduceBNe, Int.reduceNeg, Int.reduceToNat, Bool.or_false, Bool.false_or, Bool.or_true, Bool.true_or, BEq.rfl, Bool.not_eq_true, Bool.not_eq_false, decide_eq_true_eq, not_true_eq_false, not_false_eq_true, ite_true, ite_false, List.append_nil, and_assoc, Nat.mul_zero, Nat.zero_mul, fs11, fs15]
def ent11 : Entry := spOf fs11 inv15
theorem e11 : EntryOk Try.prog 11 ent11 := entry_of ok11 inv15
@[push_cast] theorem ent11_app (us : List SV) (look : Look) (x : Nat → Xf.Loc) (k : Nat) : ent11 us look x k = spOf fs11 inv15 us look x k := rfl
structure CutA where
  a : ImA
  x : Int
  y : Int
  w : Int
  h : Int
def CutA.In (c : CutA) : Prop := 0 ≤ c.x ∧ 0 ≤ c.y ∧ 0 ≤ c.w ∧ 0 ≤ c.h ∧ c.x + c.w ≤ c.a.i.w ∧ c.y + c.h ≤ c.a.i.h
instance (c : CutA) : Decidable c.In := by unfold CutA.In; infer_instance
def CutA.Ok (c : CutA) : Prop := c.a.i.Ok ∧ c.In
instance (c : CutA) : Decidable c.Ok := by unfold CutA.Ok; infer_instance
theorem idx_bd {a b W H : Int} (h1 : 0 ≤ a) (h2 : a < H) (h3 : 0 ≤ b) (h4 : b < W) : 0 ≤ a * W + b ∧ a * W + b < W * H := by
  have e1 : 0 ≤ a * W := Int.mul_nonneg h1 (by omega)
  have e2 : (a + 1) * W ≤ H * W := Int.mul_le_mul_of_nonneg_right (by omega) (by omega)
  rw [Int.add_mul, Int.one_mul, Int.mul_comm H W] at e2
  omega
theorem dm_bd {k w h : Int} (h0 : 0 ≤ k) (h1 : k < w * h) (hw : 0 ≤ w) : 0 < w ∧ 0 ≤ k / w ∧ k / w < h ∧ 0 ≤ k % w ∧ k % w < w := by
  have hw' : 0 < w := by
    rcases Int.lt_or_eq_of_le hw with h | h
    · exact h
    · rw [← h, Int.zero_mul] at h1; omega
  refine ⟨hw', Int.ediv_nonneg h0 hw, ?_, Int.emod_nonneg _ (by omega), Int.emod_lt_of_pos _ hw'⟩
  exact Int.ediv_lt_of_lt_mul hw' (by rw [Int.mul_comm]; exact h1)
abbrev L3T := Nat × Xf.Loc × Xf.Loc × Xf.Loc
def ir48 : IR :=
  .seq (.reg false [⟨some 4, none, ⟨[], []⟩, .mov (.k (.int .i64 0))⟩] [4] []) (.seq (.reg false [⟨some 6, none, ⟨[], []⟩, .mov (.t 0)⟩,
    ⟨some 7, none, ⟨[], []⟩, .mov (.t 1)⟩,
    ⟨some 8, none, ⟨[], []⟩, .bin 1 .quo (.t 6) (.t 7)⟩,
    ⟨some 5, none, ⟨[], []⟩, .mov (.t 8)⟩] [6, 7, 8] []) (.seq (.seq (.reg false [⟨some 9, none, ⟨[], []⟩, .mov (.t 0)⟩,
    ⟨some 10, none, ⟨[], []⟩, .mov (.t 1)⟩,
    ⟨some 11, none, ⟨[], []⟩, .bin 1 .rem (.t 9) (.t 10)⟩,
    ⟨some 12, none, ⟨[], []⟩, .bin 1 .lss (.t 11) (.k (.int .i64 0))⟩] [0, 1, 9, 10, 11] []) (.cond (.t 12) (.reg false [⟨some 13, none, ⟨[], []⟩, .mov (.t 5)⟩,
    ⟨some 14, none, ⟨[], []⟩, .bin 1 .sub (.t 13) (.k (.int .i64 1))⟩,
    ⟨some 5, none, ⟨[], []⟩, .mov (.t 14)⟩] [12, 13, 14] []) (.skip))) (.seq (.reg false [⟨some 15, none, ⟨[], []⟩, .mov (.t 5)⟩,
    ⟨some 4, none, ⟨[], []⟩, .mov (.t 15)⟩] [5, 12, 15] []) (.ret))))
set_option maxRecDepth 4000 in
theorem comp48 : (Try.f48.body.bind fun c => compC tab isP chkAll ir48 c) = some ir48 := by kernel_rfl
def downF : EntryP
  | [.int .i64 a, .int .i64 b] => some (-1152921504606846976 ≤ a ∧ a ≤ 1152921504606846976 ∧ 0 < b ∧ b ≤ 1152921504606846976, .int .i64 (a / b))
  | _ => none
attribute [push_cast] downF
theorem down_eq {a b : Int} (hb : 0 < b) : (a.tmod b < 0 → a.tdiv b - 1 = a / b) ∧ (¬ a.tmod b < 0 → a.tdiv b = a / b) := by
  rw [Int.tdiv_eq_ediv, Int.tmod_eq_emod]
  have h1 := Int.emod_nonneg a (show b ≠ 0 by omega)
  have h2 := Int.emod_lt_of_pos a hb
  by_cases h : 0 ≤ a ∨ b ∣ a
  · simp only [h, if_true]; omega
  · simp only [h, if_false, Int.sign_eq_one_of_pos hb]; omega
theorem tdiv_bd (a b : Int) : -(a.natAbs : Int) ≤ a.tdiv b ∧ a.tdiv b ≤ a.natAbs := by
  have h : (a.tdiv b).natAbs ≤ a.natAbs := by
    rw [Int.natAbs_tdiv]; exact Nat.div_le_self _ _
  omega
theorem p48 : EntryPOk Try.prog 48 downF := by
  refine ⟨⟨_, Try.func48, by kernel_rfl, by kernel_rfl⟩, fun us p v h hp => ?_⟩
  unfold downF at h
  split at h <;> cases h
  rename_i a b
  obtain ⟨h1, h2, h3, h4⟩ := hp
  refine tri_evS (hyp (l := []) (lp := []) trivial trivial) Try.func48 comp48 (rs := [.tmp 4]) (by rfl) Try.ntmps48 10 ?_
  simp -implicitDefEqProofs only [push_cast, false_implies, reduceCtorEq, Classical.not_not, Nat.reduceAdd, Nat.reduceSub, Nat.reduceMul, Nat.reduceLeDiff, Nat.reduceLT, Nat.reduceEqDiff, Nat.reduceBEq, Nat.reduceBNe, Int.reduceNeg, Int.reduceToNat, Bool.or_false, Bool.false_or, Bool.or_true, Bool.true_or, BEq.rfl, Bool.not_eq_true, Bool.not_eq_false, decide_eq_true_eq, not_true_eq_false, not_false_eq_true, ite_true, ite_false, List.append_nil, and_assoc, Nat.mul_zero, Nat.zero_mul, ir48, downF]
  have hd := tdiv_bd a b
  have he := down_eq (a := a) h3
  repeat (refine And.intro (by first | omega | trivial | (intros; omega)) ?_)
  refine ⟨fun h => ?_, fun h => ?_⟩
  · rw [inR_wrap (k := .i64) ⟨by omega, by omega⟩, he.1 h]
  · rw [he.2 h]
structure OutA where
  L1 : Xf.Loc
  L2 : Xf.Loc
  n : Int
  lo : Int
  hi : Int
structure OutR where
  L : Xf.Loc
  xs : List Int
  L1 : Xf.Loc
  L2 : Xf.Loc
  lo : Int
  hi : Int
def AllIn (lo hi : Int) (xs : List Int) : Prop := ∀ n, n ∈ xs → lo ≤ n ∧ n ≤ hi
instance (lo hi : Int) (xs : List Int) : Decidable (AllIn lo hi xs) := by unfold AllIn; infer_instance
theorem allIn_rd {lo hi : Int} {xs : List Int} : AllIn lo hi xs ↔ ∀ j : Nat, j < xs.length → lo ≤ rd xs j ∧ rd xs j ≤ hi := by
  unfold AllIn
  constructor
  · intro h j hj; rw [rd_lt xs j hj]; exact h _ (List.getElem_mem hj)
  · intro h n hn
    obtain ⟨j, hj, rfl⟩ := List.mem_iff_getElem.1 hn
    have := h j hj
    rwa [rd_lt xs j hj] at this
def Pl.In (p : Pl) (lo hi : Int) : Prop := SidesOk p.w p.h ∧ p.xs.length = p.w * p.h ∧ AllIn lo hi p.xs
instance (p : Pl) (lo hi : Int) : Decidable (p.In lo hi) := by unfold Pl.In; infer_instance
structure PlA where
  p : Pl
  L : Xf.Loc
structure PlW where
  a : PlA
  lo : Int
  hi : Int
def Pl.Ok (p : Pl) : Prop := p.In (-16777216) 16777216
instance (p : Pl) : Decidable p.Ok := by unfold Pl.Ok; infer_instance
def Pl.Eq (a b : Pl) : Prop := a.w = b.w ∧ a.h = b.h ∧ a.xs = b.xs
instance (a b : Pl) : Decidable (a.Eq b) := by unfold Pl.Eq; infer_instance
theorem Pl.Eq.refl (a : Pl) : a.Eq a := ⟨rfl, rfl, rfl⟩
structure Pl2 where
  a : PlA
  b : PlA
structure Bk where
  y : PlA
  u : PlA
  v : PlA
def Bk.planes (b : Bk) : Prop := b.y.p.Ok ∧ b.u.p.Ok ∧ b.v.p.Ok
def Bk.sides (b : Bk) : Prop := b.u.p.w = b.y.p.w ∧ b.u.p.h = b.y.p.h ∧ b.v.p.w = b.y.p.w ∧ b.v.p.h = b.y.p.h
instance (b : Bk) : Decidable b.planes := by unfold Bk.planes; infer_instance
instance (b : Bk) : Decidable b.sides := by unfold Bk.sides; infer_instance
def Bk.Ok (b : Bk) : Prop := b.planes ∧ b.sides
instance (b : Bk) : Decidable b.Ok := by unfold Bk.Ok; infer_instance
def bG (y u v : List Int) : Nat → Int := fun k => rd y (k : Nat) - (rd u (k : Nat) + rd v (k : Nat)) / 4
def Bk.small (b : Bk) : Prop := b.y.p.xs.length ≤ 140737488355328 ∧ b.u.p.xs.length ≤ 140737488355328 ∧ b.v.p.xs.length ≤ 140737488355328
theorem Bk.Ok.val {w h w1 h1 w2 h2 : Int} {xs ys ws : List Int} {L1 L2 L3 : Xf.Loc} (H : (⟨⟨⟨w, h, xs⟩, L1⟩, ⟨⟨w1, h1, ys⟩, L2⟩, ⟨⟨w2, h2, ws⟩, L3⟩⟩ : Bk).Ok) :
    SidesOk w h ∧ (xs.length : Int) = w * h ∧ ys.length = xs.length ∧ ws.length = xs.length ∧ w1 = w ∧ h1 = h ∧ w2 = w ∧ h2 = h ∧
      ∀ k : Nat, k < xs.length → (-16777216 ≤ rd xs k ∧ rd xs k ≤ 16777216) ∧ (-16777216 ≤ rd ys k ∧ rd ys k ≤ 16777216) ∧ (-16777216 ≤ rd ws k ∧ rd ws k ≤ 16777216) := by
  obtain ⟨⟨⟨a1, a2, a3⟩, ⟨b1, b2, b3⟩, ⟨c1, c2, c3⟩⟩, d1, d2, d3, d4⟩ := H
  simp only at a1 a2 a3 b1 b2 b3 c1 c2 c3 d1 d2 d3 d4
  subst d1 d2 d3 d4
  have e1 : ys.length = xs.length := by omega
  have e2 : ws.length = xs.length := by omega
  exact ⟨a1, a2, e1, e2, rfl, rfl, rfl, rfl, fun k hk => ⟨allIn_rd.1 a3 k hk, allIn_rd.1 b3 k (by omega), allIn_rd.1 c3 k (by omega)⟩⟩
theorem Dens.mem : ∀ {cs : List SV} {vs : List Value} {c : SV}, Dens cs vs → c ∈ cs → ∃ v, Den c v
  | [], _, _, _, h => by cases h
  | d :: cs, vs, c, hd, h => by
    simp only [Dens] at hd
    obtain ⟨v, vs', _, h1, h2⟩ := hd
    rcases List.mem_cons.1 h with rfl | h
    · exact ⟨v, h1⟩
    · exact Dens.mem h2 h
structure Row2 where
  L : Xf.Loc
  xs : List Int
  M : Xf.Loc
  ys : List Int
def ir62 : IR :=
  .seq (.reg false [⟨some 4, none, ⟨[], []⟩, .mov (.k (.int .i64 0))⟩] [4] []) (.seq (.reg false [⟨some 8, none, ⟨[], []⟩, .mov (.t 0)⟩,
    ⟨some 9, none, ⟨[], []⟩, .bin 1 .mul (.k (.int .i64 2)) (.t 8)⟩,
    ⟨some 10, none, ⟨[], []⟩, .mov (.t 1)⟩,
    ⟨some 11, none, ⟨[], []⟩, .bin 1 .add (.t 9) (.t 10)⟩,
    ⟨some 12, none, ⟨[], []⟩, .mov (.t 1)⟩,
    ⟨some 13, none, ⟨[], []⟩, .bin 1 .mul (.k (.int .i64 2)) (.t 12)⟩,
    ⟨some 5, none, ⟨[], []⟩, .mov (.t 11)⟩,
    ⟨some 6, none, ⟨[], []⟩, .mov (.t 13)⟩] [0, 1, 8, 9, 10, 11, 12, 13] []) (.seq (.reg false [⟨some 14, none, ⟨[], []⟩, .mov (.t 5)⟩,
    ⟨some 15, none, ⟨[], []⟩, .mov (.t 6)⟩,
    ⟨some 16, none, ⟨[], []⟩, .bin 1 .quo (.t 14) (.t 15)⟩,
    ⟨some 7, none, ⟨[], []⟩, .mov (.t 16)⟩] [14, 15, 16] []) (.seq (.seq (.reg false [⟨some 17, none, ⟨[], []⟩, .mov (.t 5)⟩,
    ⟨some 18, none, ⟨[], []⟩, .mov (.t 6)⟩,
    ⟨some 19, none, ⟨[], []⟩, .bin 1 .rem (.t 17) (.t 18)⟩,
    ⟨some 20, none, ⟨[], []⟩, .bin 1 .lss (.t 19) (.k (.int .i64 0))⟩] [5, 6, 17, 18, 19] []) (.cond (.t 20) (.reg false [⟨some 21, none, ⟨[], []⟩, .mov (.t 7)⟩,
    ⟨some 22, none, ⟨[], []⟩, .bin 1 .sub (.t 21) (.k (.int .i64 1))⟩,
    ⟨some 7, none, ⟨[], []⟩, .mov (.t 22)⟩] [20, 21, 22] []) (.skip))) (.seq (.reg false [⟨some 23, none, ⟨[], []⟩, .mov (.t 7)⟩,
    ⟨some 4, none, ⟨[], []⟩, .mov (.t 23)⟩] [7, 20, 23] []) (.ret)))))
set_option maxRecDepth 4000 in
theorem comp62 : (Try.f62.body.bind fun c => compC tab isP chkAll ir62 c) = some ir62 := by kernel_rfl
def ir63 : IR :=
  .seq (.reg false [⟨some 4, none, ⟨[], []⟩, .mov (.k (.int .i64 0))⟩] [4] []) (.seq (.reg false [⟨some 5, none, ⟨[], []⟩, .mov (.t 0)⟩,
    ⟨some 6, none, ⟨[], []⟩, .bin 0 .mul (.k (.int .i64 2)) (.t 5)⟩,
    ⟨some 7, none, ⟨[], []⟩, .mov (.t 1)⟩,
    ⟨some 8, none, ⟨[], []⟩, .bin 0 .add (.t 6) (.t 7)⟩,
    ⟨some 9, none, ⟨[], []⟩, .mov (.t 1)⟩,
    ⟨some 10, none, ⟨[], []⟩, .bin 0 .mul (.k (.int .i64 2)) (.t 9)⟩,
    ⟨some 11, none, ⟨[], []⟩, .callp 48 [.t 8, .t 10]⟩,
    ⟨some 4, none, ⟨[], []⟩, .mov (.t 11)⟩] [0, 1, 5, 6, 7, 8, 9, 10, 11] []) (.ret))
set_option maxRecDepth 4000 in
theorem comp63 : (Try.f63.body.bind fun c => compC tab isP chkAll ir63 c) = some ir63 := by kernel_rfl
def meanI (s n : Int) : Int := (2 * s + n) / (2 * n)
def meanF : EntryP
  | [.int .i64 s, .int .i64 n] => some (-1099511627776 ≤ s ∧ s ≤ 1099511627776 ∧ 0 < n ∧ n ≤ 1099511627776, .int .i64 (meanI s n))
  | _ => none
attribute [push_cast] meanF
theorem p62 : EntryPOk Try.prog 62 meanF := by
  refine ⟨⟨_, Try.func62, by kernel_rfl, by kernel_rfl⟩, fun us p v h hp => ?_⟩
  unfold meanF at h
  split at h <;> cases h
  rename_i s n
  obtain ⟨h1, h2, h3, h4⟩ := hp
  refine tri_evS (hyp (l := []) (lp := []) trivial trivial) Try.func62 comp62 (rs := [.tmp 4]) (by rfl) Try.ntmps62 10 ?_
  have e1 : IntKind.i64.wrap (2 * s) = 2 * s := inR_wrap (k := .i64) ⟨by omega, by omega⟩
  have e2 : IntKind.i64.wrap (2 * s + n) = 2 * s + n := inR_wrap (k := .i64) ⟨by omega, by omega⟩
  have e3 : IntKind.i64.wrap (2 * n) = 2 * n := inR_wrap (k := .i64) ⟨by omega, by omega⟩
  simp -implicitDefEqProofs only [push_cast, false_implies, reduceCtorEq, Classical.not_not, Nat.reduceAdd, Nat.reduceSub, Nat.reduceMul, Nat.reduceLeDiff, Nat.reduceLT, Nat.reduceEqDiff, Nat.reduceBEq, Nat.reduceBNe, Int.reduceNeg, Int.reduceToNat, Bool.or_false, Bool.false_or, Bool.or_true, Bool.true_or, BEq.rfl, Bool.not_eq_true, Bool.not_eq_false, decide_eq_true_eq, not_true_eq_false, not_false_eq_true, ite_true, ite_false, List.append_nil, and_assoc, Nat.mul_zero, Nat.zero_mul, ir62, meanF, meanI, e1, e2, e3]
  have hd := tdiv_bd (2 * s + n) (2 * n)
  have he := down_eq (a := 2 * s + n) (b := 2 * n) (by omega)
  repeat (refine And.intro (by first | omega | trivial | (intros; omega)) ?_)
  refine ⟨fun h => ?_, fun h => ?_⟩
  · rw [inR_wrap (k := .i64) ⟨by omega, by omega⟩, he.1 h]
  · rw [he.2 h]
theorem p63 : EntryPOk Try.prog 63 meanF := by
  refine ⟨⟨_, Try.func63, by kernel_rfl, by kernel_rfl⟩, fun us p v h hp => ?_⟩
  unfold meanF at h
  split at h <;> cases h
  rename_i s n
  obtain ⟨h1, h2, h3, h4⟩ := hp
  refine tri_evS (hyp (l := []) (lp := [(48, downF)]) trivial ⟨p48, trivial⟩) Try.func63 comp63 (rs := [.tmp 4]) (by rfl) Try.ntmps63 10 ?_
  simp -implicitDefEqProofs only [push_cast, false_implies, reduceCtorEq, Classical.not_not, Nat.reduceAdd, Nat.reduceSub, Nat.reduceMul, Nat.reduceLeDiff, Nat.reduceLT, Nat.reduceEqDiff, Nat.reduceBEq, Nat.reduceBNe, Int.reduceNeg, Int.reduceToNat, Bool.or_false, Bool.false_or, Bool.or_true, Bool.true_or, BEq.rfl, Bool.not_eq_true, Bool.not_eq_false, decide_eq_true_eq, not_true_eq_false, not_false_eq_true, ite_true, ite_false, List.append_nil, and_assoc, Nat.mul_zero, Nat.zero_mul, ir63, meanF, meanI]
  omega
structure PlD where
  a : PlA
  w : Int
  h : Int
def PlD.fit (d : PlD) : Prop := SidesOk d.w d.h ∧ d.a.p.w = (d.w + 1) / 2 ∧ d.a.p.h = (d.h + 1) / 2
instance (d : PlD) : Decidable d.fit := by unfold PlD.fit; infer_instance
def PlD.Ok (d : PlD) : Prop := d.a.p.Ok ∧ d.fit
instance (d : PlD) : Decidable d.Ok := by unfold PlD.Ok; infer_instance
def ir69 : IR :=
  .seq (.reg false [⟨some 4, none, ⟨[], []⟩, .mov (.k (.bool false))⟩] [4] []) (.seq (.reg false [⟨some 5, none, ⟨[], []⟩, .mov (.t 0)⟩,
    ⟨some 6, none, ⟨[], []⟩, .bin 0 .geq (.t 5) (.k (.int .i64 0))⟩,
    ⟨some 7, none, ⟨[], []⟩, .mov (.t 6)⟩,
    ⟨some 8, some (7, true), ⟨[], []⟩, .mov (.t 1)⟩,
    ⟨some 9, some (7, true), ⟨[], []⟩, .bin 0 .geq (.t 8) (.k (.int .i64 0))⟩,
    ⟨some 10, none, ⟨[], []⟩, .pick (.t 7) (.t 9) (.k (.bool false))⟩,
    ⟨some 11, none, ⟨[], []⟩, .mov (.t 10)⟩,
    ⟨some 12, some (11, true), ⟨[], []⟩, .mov (.t 0)⟩,
    ⟨some 13, some (11, true), ⟨[], []⟩, .bin 0 .leq (.t 12) (.k (.int .i64 200))⟩,
    ⟨some 14, none, ⟨[], []⟩, .pick (.t 11) (.t 13) (.k (.bool false))⟩,
    ⟨some 15, none, ⟨[], []⟩, .mov (.t 14)⟩,
    ⟨some 16, some (15, true), ⟨[], []⟩, .mov (.t 1)⟩,
    ⟨some 17, some (15, true), ⟨[], []⟩, .bin 0 .leq (.t 16) (.k (.int .i64 200))⟩,
    ⟨some 18, none, ⟨[], []⟩, .pick (.t 15) (.t 17) (.k (.bool false))⟩,
    ⟨some 19, none, ⟨[], []⟩, .mov (.t 18)⟩,
    ⟨some 20, some (19, true), ⟨[], []⟩, .mov (.t 0)⟩,
    ⟨some 21, some (19, true), ⟨[], []⟩, .mov (.t 1)⟩,
    ⟨some 22, some (19, true), ⟨[], []⟩, .bin 0 .mul (.t 20) (.t 21)⟩,
    ⟨some 23, some (19, true), ⟨[], []⟩, .bin 0 .leq (.t 22) (.k (.int .i64 8192))⟩,
    ⟨some 24, none, ⟨[], []⟩, .pick (.t 19) (.t 23) (.k (.bool false))⟩,
    ⟨some 4, none, ⟨[], []⟩, .mov (.t 24)⟩] [0, 1, 5, 6, 7, 8, 9, 10, 11, 12, 13, 14, 15, 16, 17, 18, 19, 20, 21, 22, 23, 24] []) (.ret))
set_option maxRecDepth 4000 in
theorem comp69 : (Try.f69.body.bind fun c => compC tab isP chkAll ir69 c) = some ir69 := by kernel_rfl
def b57_1 : IR :=
  .seq (.reg false [⟨some 26, none, ⟨[], []⟩, .bin 0 .lss (.t 25) (.t 24)⟩] [] []) (.seq (.cond (.t 26) (.skip) (.exit 0)) (.seq (.block 1 (.seq (.reg false [⟨some 27, none, ⟨[], []⟩, .idxS (.t 23) (.t 25) 1⟩,
    ⟨some 28, none, ⟨[], []⟩, .ld true none 0 0 (.t 27)⟩,
    ⟨some 4, none, ⟨[], []⟩, .mov (.t 28)⟩] [26, 27, 28] []) (.seq (.reg false [⟨some 29, none, ⟨[], []⟩, .mov (.t 4)⟩,
    ⟨some 30, none, ⟨[], []⟩, .bin 0 .gtr (.t 29) (.k (.int .u8 1))⟩] [4, 29] []) (.cond (.t 30) (.seq (.reg false [⟨some 2, none, ⟨[], []⟩, .mov (.k (.bool false))⟩] [23, 24, 25, 30] []) (.ret)) (.skip))))) (.reg false [⟨some 31, none, ⟨[], []⟩, .bin 0 .add (.t 25) (.k (.int .i64 1))⟩,
    ⟨some 25, none, ⟨[], []⟩, .mov (.t 31)⟩] [2, 30, 31] [])))
def r57_2 : IR :=
  .seq (.reg false [⟨some 2, none, ⟨[], []⟩, .mov (.k (.bool true))⟩] [23, 24, 25] []) (.ret)
def ir57 : IR :=
  .seq (.reg false [⟨some 1, none, ⟨[], []⟩, .box 10 (.t 0)⟩,
    ⟨some 2, none, ⟨[], []⟩, .mov (.k (.bool false))⟩] [0, 2] []) (.seq (.seq (.reg false [⟨some 5, none, ⟨[], []⟩, .fld (.t 1) 0⟩,
    ⟨some 6, none, ⟨[], []⟩, .ld false none 0 0 (.t 5)⟩,
    ⟨some 7, none, ⟨[], []⟩, .fld (.t 1) 1⟩,
    ⟨some 8, none, ⟨[], []⟩, .ld false none 0 0 (.t 7)⟩,
    ⟨some 9, none, ⟨[], []⟩, .callp 69 [.t 6, .t 8]⟩,
    ⟨some 10, none, ⟨[], []⟩, .not (.t 9)⟩,
    ⟨some 11, none, ⟨[], []⟩, .mov (.t 10)⟩,
    ⟨some 12, some (11, false), ⟨[], []⟩, .fld (.t 1) 2⟩,
    ⟨some 13, some (11, false), ⟨[], []⟩, .ld false none 0 0 (.t 12)⟩,
    ⟨some 14, some (11, false), ⟨[], []⟩, .len (.t 13)⟩,
    ⟨some 15, some (11, false), ⟨[], []⟩, .fld (.t 1) 0⟩,
    ⟨some 16, some (11, false), ⟨[], []⟩, .ld false none 0 0 (.t 15)⟩,
    ⟨some 17, some (11, false), ⟨[], []⟩, .fld (.t 1) 1⟩,
    ⟨some 18, some (11, false), ⟨[], []⟩, .ld false none 0 0 (.t 17)⟩,
    ⟨some 19, some (11, false), ⟨[], []⟩, .bin 0 .mul (.t 16) (.t 18)⟩,
    ⟨some 20, some (11, false), ⟨[], []⟩, .bin 0 .neq (.t 14) (.t 19)⟩,
    ⟨some 21, none, ⟨[], []⟩, .pick (.t 11) (.k (.bool true)) (.t 20)⟩] [5, 6, 7, 8, 9, 10, 11, 12, 13, 14, 15, 16, 17, 18, 19, 20] []) (.cond (.t 21) (.seq (.reg false [⟨some 2, none, ⟨[], []⟩, .mov (.k (.bool false))⟩] [1, 21] []) (.ret)) (.skip))) (.seq (.seq (.reg false [⟨some 22, none, ⟨[], []⟩, .fld (.t 1) 2⟩,
    ⟨some 23, none, ⟨[], []⟩, .ld false none 0 0 (.t 22)⟩,
    ⟨some 24, none, ⟨[], []⟩, .len (.t 23)⟩,
    ⟨some 25, none, ⟨[], []⟩, .mov (.k (.int .i64 0))⟩] [1, 2, 21, 22] []) (.block 0 (.loop b57_1))) (r57_2)))
def kp57_1 : List Nat := [23, 24, 25]
def kl57_1 : List Nat := []
attribute [push_cast] kp57_1 kl57_1
set_option maxRecDepth 4000 in
theorem comp57 : (Try.f57.body.bind fun c => compC tab isP chkAll ir57 c) = some ir57 := by kernel_rfl
def b60_1 : IR :=
  .seq (.seq (.reg false [⟨some 21, none, ⟨[], []⟩, .mov (.t 3)⟩,
    ⟨some 22, none, ⟨[], []⟩, .fld (.t 1) 2⟩,
    ⟨some 23, none, ⟨[], []⟩, .ld false none 0 0 (.t 22)⟩,
    ⟨some 24, none, ⟨[], []⟩, .len (.t 23)⟩,
    ⟨some 25, none, ⟨[], []⟩, .bin 0 .lss (.t 21) (.t 24)⟩] [21, 22, 23, 24] []) (.cond (.t 25) (.skip) (.exit 0))) (.seq (.block 1 (.seq (.reg false [⟨some 28, none, ⟨[], []⟩, .fld (.t 1) 2⟩,
    ⟨some 29, none, ⟨[], []⟩, .ld false none 0 0 (.t 28)⟩,
    ⟨some 30, none, ⟨[], []⟩, .mov (.t 3)⟩,
    ⟨some 31, none, ⟨[], []⟩, .idxS (.t 29) (.t 30) 1⟩,
    ⟨some 32, none, ⟨[], []⟩, .ld true none 0 0 (.t 31)⟩,
    ⟨some 33, none, ⟨[], []⟩, .bin 0 .gtr (.t 32) (.k (.int .u8 1))⟩] [25, 28, 29, 30, 31, 32] []) (.cond (.t 33) (.seq (.reg false [⟨some 2, none, ⟨[], []⟩, .mov (.k (.bool false))⟩] [1, 3, 33] []) (.ret)) (.skip)))) (.reg false [⟨some 26, none, ⟨[], []⟩, .mov (.t 3)⟩,
    ⟨some 27, none, ⟨[], []⟩, .bin 0 .add (.t 26) (.k (.int .i64 1))⟩,
    ⟨some 3, none, ⟨[], []⟩, .mov (.t 27)⟩] [2, 26, 27, 33] []))
def r60_2 : IR :=
  .seq (.reg false [⟨some 2, none, ⟨[], []⟩, .mov (.k (.bool true))⟩] [1, 3] []) (.ret)
def ir60 : IR :=
  .seq (.reg false [⟨some 1, none, ⟨[], []⟩, .box 10 (.t 0)⟩,
    ⟨some 2, none, ⟨[], []⟩, .mov (.k (.bool false))⟩] [0, 2] []) (.seq (.seq (.reg false [⟨some 4, none, ⟨[], []⟩, .fld (.t 1) 0⟩,
    ⟨some 5, none, ⟨[], []⟩, .ld false none 0 0 (.t 4)⟩,
    ⟨some 6, none, ⟨[], []⟩, .fld (.t 1) 1⟩,
    ⟨some 7, none, ⟨[], []⟩, .ld false none 0 0 (.t 6)⟩,
    ⟨some 8, none, ⟨[], []⟩, .callp 43 [.t 5, .t 7]⟩,
    ⟨some 9, none, ⟨[], []⟩, .not (.t 8)⟩,
    ⟨some 10, none, ⟨[], []⟩, .mov (.t 9)⟩,
    ⟨some 11, some (10, false), ⟨[], []⟩, .fld (.t 1) 2⟩,
    ⟨some 12, some (10, false), ⟨[], []⟩, .ld false none 0 0 (.t 11)⟩,
    ⟨some 13, some (10, false), ⟨[], []⟩, .len (.t 12)⟩,
    ⟨some 14, some (10, false), ⟨[], []⟩, .fld (.t 1) 0⟩,
    ⟨some 15, some (10, false), ⟨[], []⟩, .ld false none 0 0 (.t 14)⟩,
    ⟨some 16, some (10, false), ⟨[], []⟩, .fld (.t 1) 1⟩,
    ⟨some 17, some (10, false), ⟨[], []⟩, .ld false none 0 0 (.t 16)⟩,
    ⟨some 18, some (10, false), ⟨[], []⟩, .bin 0 .mul (.t 15) (.t 17)⟩,
    ⟨some 19, some (10, false), ⟨[], []⟩, .bin 0 .neq (.t 13) (.t 18)⟩,
    ⟨some 20, none, ⟨[], []⟩, .pick (.t 10) (.k (.bool true)) (.t 19)⟩] [4, 5, 6, 7, 8, 9, 10, 11, 12, 13, 14, 15, 16, 17, 18, 19] []) (.cond (.t 20) (.seq (.reg false [⟨some 2, none, ⟨[], []⟩, .mov (.k (.bool false))⟩] [1, 20] []) (.ret)) (.skip))) (.seq (.seq (.reg false [⟨some 3, none, ⟨[], []⟩, .mov (.k (.int .i64 0))⟩] [2, 20] []) (.block 0 (.loop b60_1))) (r60_2)))
def kp60_1 : List Nat := [1, 3]
def kl60_1 : List Nat := []
attribute [push_cast] kp60_1 kl60_1
set_option maxRecDepth 4000 in
theorem comp60 : (Try.f60.body.bind fun c => compC tab isP chkAll ir60 c) = some ir60 := by kernel_rfl
def ir70 : IR :=
  .seq (.reg false [⟨some 3, none, ⟨[], []⟩, .box 10 (.t 0)⟩,
    ⟨some 6, none, ⟨[], []⟩, .mov (.k (.bool false))⟩] [0, 6] []) (.seq (.reg false [⟨some 7, none, ⟨[], []⟩, .mov (.t 1)⟩,
    ⟨some 8, none, ⟨[], []⟩, .bin 0 .geq (.t 7) (.k (.int .i64 0))⟩,
    ⟨some 9, none, ⟨[], []⟩, .mov (.t 8)⟩,
    ⟨some 10, some (9, true), ⟨[], []⟩, .mov (.t 2)⟩,
    ⟨some 11, some (9, true), ⟨[], []⟩, .bin 0 .geq (.t 10) (.k (.int .i64 0))⟩,
    ⟨some 12, none, ⟨[], []⟩, .pick (.t 9) (.t 11) (.k (.bool false))⟩,
    ⟨some 13, none, ⟨[], []⟩, .mov (.t 12)⟩,
    ⟨some 14, some (13, true), ⟨[], []⟩, .mov (.t 1)⟩,
    ⟨some 15, some (13, true), ⟨[], []⟩, .fld (.t 3) 0⟩,
    ⟨some 16, some (13, true), ⟨[], []⟩, .ld false none 0 0 (.t 15)⟩,
    ⟨some 17, some (13, true), ⟨[], []⟩, .bin 0 .lss (.t 14) (.t 16)⟩,
    ⟨some 18, none, ⟨[], []⟩, .pick (.t 13) (.t 17) (.k (.bool false))⟩,
    ⟨some 19, none, ⟨[], []⟩, .mov (.t 18)⟩,
    ⟨some 20, some (19, true), ⟨[], []⟩, .mov (.t 2)⟩,
    ⟨some 21, some (19, true), ⟨[], []⟩, .fld (.t 3) 1⟩,
    ⟨some 22, some (19, true), ⟨[], []⟩, .ld false none 0 0 (.t 21)⟩,
    ⟨some 23, some (19, true), ⟨[], []⟩, .bin 0 .lss (.t 20) (.t 22)⟩,
    ⟨some 24, none, ⟨[], []⟩, .pick (.t 19) (.t 23) (.k (.bool false))⟩,
    ⟨some 6, none, ⟨[], []⟩, .mov (.t 24)⟩] [1, 2, 3, 7, 8, 9, 10, 11, 12, 13, 14, 15, 16, 17, 18, 19, 20, 21, 22, 23, 24] []) (.ret))
set_option maxRecDepth 4000 in
theorem comp70 : (Try.f70.body.bind fun c => compC tab isP chkAll ir70 c) = some ir70 := by kernel_rfl
def ir61 : IR :=
  .seq (.reg false [⟨some 3, none, ⟨[], []⟩, .box 10 (.t 0)⟩,
    ⟨some 6, none, ⟨[], []⟩, .mov (.k (.int .i64 0))⟩] [0, 6] []) (.seq (.seq (.reg false [⟨some 7, none, ⟨[], []⟩, .ld false (some 3) 0 0 (.t 3)⟩,
    ⟨some 8, none, ⟨[], []⟩, .mov (.t 1)⟩,
    ⟨some 9, none, ⟨[], []⟩, .mov (.t 2)⟩,
    ⟨some 10, none, ⟨[], []⟩, .call (some 4) 11 70 [.t 7, .t 8, .t 9]⟩,
    ⟨some 11, none, ⟨[], []⟩, .not (.t 10)⟩] [7, 8, 9, 10] []) (.cond (.t 11) (.seq (.reg false [⟨some 6, none, ⟨[], []⟩, .mov (.k (.int .i64 0))⟩] [1, 2, 3, 11] []) (.ret)) (.skip))) (.seq (.reg false [⟨some 12, none, ⟨[], []⟩, .fld (.t 3) 2⟩,
    ⟨some 13, none, ⟨[], []⟩, .ld false none 0 0 (.t 12)⟩,
    ⟨some 14, none, ⟨[], []⟩, .mov (.t 2)⟩,
    ⟨some 15, none, ⟨[], []⟩, .fld (.t 3) 0⟩,
    ⟨some 16, none, ⟨[], []⟩, .ld false none 0 0 (.t 15)⟩,
    ⟨some 17, none, ⟨[], []⟩, .bin 0 .mul (.t 14) (.t 16)⟩,
    ⟨some 18, none, ⟨[], []⟩, .mov (.t 1)⟩,
    ⟨some 19, none, ⟨[], []⟩, .bin 0 .add (.t 17) (.t 18)⟩,
    ⟨some 20, none, ⟨[], []⟩, .idxS (.t 13) (.t 19) 1⟩,
    ⟨some 21, none, ⟨[], []⟩, .ld true none 0 0 (.t 20)⟩,
    ⟨some 22, none, ⟨[], []⟩, .cvt 0 .i64 (.t 21)⟩,
    ⟨some 6, none, ⟨[], []⟩, .mov (.t 22)⟩] [1, 2, 3, 11, 12, 13, 14, 15, 16, 17, 18, 19, 20, 21, 22] []) (.ret)))
set_option maxRecDepth 4000 in
theorem comp61 : (Try.f61.body.bind fun c => compC tab isP chkAll ir61 c) = some ir61 := by kernel_rfl
structure Bm where
  w : Int
  h : Int
  xs : List Int
def bmV (b : Bm) (L : Xf.Loc) (c : Nat) : SV := .agg [.int .i64 b.w, .int .i64 b.h, .sl c L 1 0 b.xs.length]
attribute [push_cast] bmV
structure BmA where
  b : Bm
  L : Xf.Loc
def getB (look : Look) : SV → Option (BmA × List Nat)
  | .agg [.int .i64 w, .int .i64 h, .sl c _ 1 0 _] => match rowI (lkZ look (.ints .u8 []) c) with
    | some (L, .u8, xs) => some (⟨⟨w, h, xs⟩, L⟩, [c])
    | _ => none
  | _ => none
attribute [push_cast] getB
def Bits (xs : List Int) : Prop := ∀ n, n ∈ xs → n ≤ 1
instance (xs : List Int) : Decidable (Bits xs) := by unfold Bits; infer_instance
theorem bits_rd {xs : List Int} : Bits xs ↔ ∀ j : Nat, j < xs.length → rd xs j ≤ 1 := by
  unfold Bits
  constructor
  · intro h j hj; rw [rd_lt xs j hj]; exact h _ (List.getElem_mem hj)
  · intro h n hn
    obtain ⟨j, hj, rfl⟩ := List.mem_iff_getElem.1 hn
    have := h j hj
    rwa [rd_lt xs j hj] at this
def Bm.Ok (b : Bm) : Prop := SidesOk b.w b.h ∧ b.xs.length = b.w * b.h ∧ Bits b.xs
instance (b : Bm) : Decidable b.Ok := by unfold Bm.Ok; infer_instance
theorem p69 : EntryPOk Try.prog 69 sidesF := by
  refine ⟨⟨_, Try.func69, by kernel_rfl, by kernel_rfl⟩, fun us p v h hp => ?_⟩
  unfold sidesF at h
  split at h <;> cases h
  refine tri_evS (hyp (l := []) (lp := []) trivial trivial) Try.func69 comp69 (rs := [.tmp 4]) (by rfl) Try.ntmps69 10 ?_
  simp -implicitDefEqProofs only [push_cast, false_implies, reduceCtorEq, Classical.not_not, Nat.reduceAdd, Nat.reduceSub, Nat.reduceMul, Nat.reduceLeDiff, Nat.reduceLT, Nat.reduceEqDiff, Nat.reduceBEq, Nat.reduceBNe, Int.reduceNeg, Int.reduceToNat, Bool.or_false, Bool.false_or, Bool.or_true, Bool.true_or, BEq.rfl, Bool.not_eq_true, Bool.not_eq_false, decide_eq_true_eq, not_true_eq_false, not_false_eq_true, ite_true, ite_false, List.append_nil, and_assoc, Nat.mul_zero, Nat.zero_mul, ir69, sidesF]
  refine ⟨fun h => ?_, by simp only [SidesOk, and_assoc]⟩
  have := mul_bd h.1 h.2.2.1 h.2.1 h.2.2.2
  omega
def fs57 : FS where
  A := BmA
  args := fun a => [bmV a.b a.L 0]
  mem := fun a => [some (.ro, a.L, .ints .u8 a.b.xs)]
  pre := fun a => a.b.xs.length ≤ 140737488355328
  res := fun a _ => .bool (decide a.b.Ok)
  out := fun _ _ => []
  new := fun _ _ => []
def inv57 : List SV → Look → Option (BmA × List Nat)
  | [v], look => getB look v
  | _, _ => none
attribute [push_cast] inv57
theorem ok57 : FSOk Try.prog 57 fs57 := by
  refine ⟨⟨_, Try.func57, by kernel_rfl, by kernel_rfl⟩, fun a => ⟨by simp [fs57, push_cast, noMine, argOwn, Chunk.frArg], by simp [fs57, push_cast, outOk, Chunk.ext], fun x => .inl (by simp [fs57, push_cast, frNew, frOut, Chunk.fr])⟩, fun a hp => ?_⟩
  obtain ⟨⟨w, h, xs⟩, L⟩ := a
  change xs.length ≤ 140737488355328 at hp
  change Tri Try.prog 57 [bmV ⟨w, h, xs⟩ L 0] [some (.ro, L, .ints .u8 xs)] (postF fs57 ⟨⟨w, h, xs⟩, L⟩)
  refine tri_evS (hyp (l := []) (lp := [(69, sidesF)]) trivial ⟨p69, trivial⟩) Try.func57 comp57 (rs := [.tmp 2]) (by rfl) Try.ntmps57 11 ?_
  simp -implicitDefEqProofs only [push_cast, false_implies, reduceCtorEq, Classical.not_not, Nat.reduceAdd, Nat.reduceSub, Nat.reduceMul, Nat.reduceLeDiff, Nat.reduceLT, Nat.reduceEqDiff, Nat.reduceBEq, Nat.reduceBNe, Int.reduceNeg, Int.reduceToNat, Bool.or_false, Bool.false_or, Bool.or_true, Bool.true_or, BEq.rfl, Bool.not_eq_true, Bool.not_eq_false, decide_eq_true_eq, not_true_eq_false, not_false_eq_true, ite_true, ite_false, List.append_nil, and_assoc, Nat.mul_zero, Nat.zero_mul, ir57]
  refine fun X => ⟨fun H => ?_, fun hn => ?_, fun hy => ?_⟩
  · have := H.bd
    exact ⟨H, by omega, by omega⟩
  · have e : ¬ (⟨w, h, xs⟩ : Bm).Ok := fun H => by
      obtain ⟨a1, b, _⟩ := H
      simp only at a1 b
      simp [a1, b] at hn
    refine postF.mk' (fun _ => default) [some 0] ?_
    simp -implicitDefEqProofs only [push_cast, false_implies, reduceCtorEq, Classical.not_not, Nat.reduceAdd, Nat.reduceSub, Nat.reduceMul, Nat.reduceLeDiff, Nat.reduceLT, Nat.reduceEqDiff, Nat.reduceBEq, Nat.reduceBNe, Int.reduceNeg, Int.reduceToNat, Bool.or_false, Bool.false_or, Bool.or_true, Bool.true_or, BEq.rfl, Bool.not_eq_true, Bool.not_eq_false, decide_eq_true_eq, not_true_eq_false, not_false_eq_true, ite_true, ite_false, List.append_nil, and_assoc, Nat.mul_zero, Nat.zero_mul, fs57, e, decide_false]
  have hs : SidesOk w h := Classical.byContradiction fun H => hy (.inl H)
  have hl : (xs.length : Int) = w * h := Classical.byContradiction fun H => hy (.inr H)
  refine evS_loopU (A := Nat) kp57_1 kl57_1 (fun i => [(25, .int .i64 i)]) (fun _ => [])
    (fun i => i ≤ xs.length ∧ ∀ j, j < i → rd xs (j : Nat) ≤ 1) (fun i => xs.length - i) 0 ⟨by omega, by omega⟩ (Sub.pt ?_) ?_
  · simp -implicitDefEqProofs only [push_cast, false_implies, reduceCtorEq, Classical.not_not, Nat.reduceAdd, Nat.reduceSub, Nat.reduceMul, Nat.reduceLeDiff, Nat.reduceLT, Nat.reduceEqDiff, Nat.reduceBEq, Nat.reduceBNe, Int.reduceNeg, Int.reduceToNat, Bool.or_false, Bool.false_or, Bool.or_true, Bool.true_or, BEq.rfl, Bool.not_eq_true, Bool.not_eq_false, decide_eq_true_eq, not_true_eq_false, not_false_eq_true, ite_true, ite_false, List.append_nil, and_assoc, Nat.mul_zero, Nat.zero_mul]
  intro i ⟨h1, h2⟩ K hK
  simp -implicitDefEqProofs only [push_cast, false_implies, reduceCtorEq, Classical.not_not, Nat.reduceAdd, Nat.reduceSub, Nat.reduceMul, Nat.reduceLeDiff, Nat.reduceLT, Nat.reduceEqDiff, Nat.reduceBEq, Nat.reduceBNe, Int.reduceNeg, Int.reduceToNat, Bool.or_false, Bool.false_or, Bool.or_true, Bool.true_or, BEq.rfl, Bool.not_eq_true, Bool.not_eq_false, decide_eq_true_eq, not_true_eq_false, not_false_eq_true, ite_true, ite_false, List.append_nil, and_assoc, Nat.mul_zero, Nat.zero_mul, b57_1, r57_2]
  refine ⟨fun hl => ?_, fun hl => ?_⟩
  · repeat (refine And.intro (by first | omega | trivial | (intros; omega)) ?_)
    refine ⟨fun hb => ?_, fun hg => ⟨by omega, by omega, ?_⟩⟩
    · have e : ¬ (⟨w, h, xs⟩ : Bm).Ok := fun H => by
        have := bits_rd.1 H.2.2 i (show i < xs.length by omega)
        simp only at this
        omega
      refine postF.mk' (fun _ => default) [some 0] ?_
      simp -implicitDefEqProofs only [push_cast, false_implies, reduceCtorEq, Classical.not_not, Nat.reduceAdd, Nat.reduceSub, Nat.reduceMul, Nat.reduceLeDiff, Nat.reduceLT, Nat.reduceEqDiff, Nat.reduceBEq, Nat.reduceBNe, Int.reduceNeg, Int.reduceToNat, Bool.or_false, Bool.false_or, Bool.or_true, Bool.true_or, BEq.rfl, Bool.not_eq_true, Bool.not_eq_false, decide_eq_true_eq, not_true_eq_false, not_false_eq_true, ite_true, ite_false, List.append_nil, and_assoc, Nat.mul_zero, Nat.zero_mul, fs57, e, decide_false]
    · refine hK (i + 1) ⟨by omega, fun j hj => ?_⟩ (show xs.length - (i + 1) < xs.length - i by omega) _ _ (Sub.pt ?_)
      · by_cases e : j = i
        · subst e; omega
        · exact h2 j (by omega)
      · simp -implicitDefEqProofs only [push_cast, false_implies, reduceCtorEq, Classical.not_not, Nat.reduceAdd, Nat.reduceSub, Nat.reduceMul, Nat.reduceLeDiff, Nat.reduceLT, Nat.reduceEqDiff, Nat.reduceBEq, Nat.reduceBNe, Int.reduceNeg, Int.reduceToNat, Bool.or_false, Bool.false_or, Bool.or_true, Bool.true_or, BEq.rfl, Bool.not_eq_true, Bool.not_eq_false, decide_eq_true_eq, not_true_eq_false, not_false_eq_true, ite_true, ite_false, List.append_nil, and_assoc, Nat.mul_zero, Nat.zero_mul]
  · have e : (⟨w, h, xs⟩ : Bm).Ok := ⟨hs, ‹_›, bits_rd.2 fun j (hj : j < xs.length) => h2 j (by omega)⟩
    refine postF.mk' (fun _ => default) [some 0] ?_
    simp -implicitDefEqProofs only [push_cast, false_implies, reduceCtorEq, Classical.not_not, Nat.reduceAdd, Nat.reduceSub, Nat.reduceMul, Nat.reduceLeDiff, Nat.reduceLT, Nat.reduceEqDiff, Nat.reduceBEq, Nat.reduceBNe, Int.reduceNeg, Int.reduceToNat, Bool.or_false, Bool.false_or, Bool.or_true, Bool.true_or, BEq.rfl, Bool.not_eq_true, Bool.not_eq_false, decide_eq_true_eq, not_true_eq_false, not_false_eq_true, ite_true, ite_false, List.append_nil, and_assoc, Nat.mul_zero, Nat.zero_mul, fs57, e, decide_true]
def ent57 : Entry := spOf fs57 inv57
theorem e57 : EntryOk Try.prog 57 ent57 := entry_of ok57 inv57
@[push_cast] theorem ent57_app (us : List SV) (look : Look) (x : Nat → Xf.Loc) (k : Nat) : ent57 us look x k = spOf fs57 inv57 us look x k := rfl
theorem ok60 : FSOk Try.prog 60 fs57 := by
  refine ⟨⟨_, Try.func60, by kernel_rfl, by kernel_rfl⟩, fun a => ⟨by simp [fs57, push_cast, noMine, argOwn, Chunk.frArg], by simp [fs57, push_cast, outOk, Chunk.ext], fun x => .inl (by simp [fs57, push_cast, frNew, frOut, Chunk.fr])⟩, fun a hp => ?_⟩
  obtain ⟨⟨w, h, xs⟩, L⟩ := a
  change xs.length ≤ 140737488355328 at hp
  change Tri Try.prog 60 [bmV ⟨w, h, xs⟩ L 0] [some (.ro, L, .ints .u8 xs)] (postF fs57 ⟨⟨w, h, xs⟩, L⟩)
  refine tri_evS (hyp (l := []) (lp := [(43, sidesF)]) trivial ⟨p43, trivial⟩) Try.func60 comp60 (rs := [.tmp 2]) (by rfl) Try.ntmps60 11 ?_
  simp -implicitDefEqProofs only [push_cast, false_implies, reduceCtorEq, Classical.not_not, Nat.reduceAdd, Nat.reduceSub, Nat.reduceMul, Nat.reduceLeDiff, Nat.reduceLT, Nat.reduceEqDiff, Nat.reduceBEq, Nat.reduceBNe, Int.reduceNeg, Int.reduceToNat, Bool.or_false, Bool.false_or, Bool.or_true, Bool.true_or, BEq.rfl, Bool.not_eq_true, Bool.not_eq_false, decide_eq_true_eq, not_true_eq_false, not_false_eq_true, ite_true, ite_false, List.append_nil, and_assoc, Nat.mul_zero, Nat.zero_mul, ir60]
  refine fun X => ⟨fun H => ?_, fun hn => ?_, fun hy => ?_⟩
  · have := H.bd
    exact ⟨H, by omega, by omega⟩
  · have e : ¬ (⟨w, h, xs⟩ : Bm).Ok := fun H => by
      obtain ⟨a1, b, _⟩ := H
      simp only at a1 b
      simp [a1, b] at hn
    refine postF.mk' (fun _ => default) [some 0] ?_
    simp -implicitDefEqProofs only [push_cast, false_implies, reduceCtorEq, Classical.not_not, Nat.reduceAdd, Nat.reduceSub, Nat.reduceMul, Nat.reduceLeDiff, Nat.reduceLT, Nat.reduceEqDiff, Nat.reduceBEq, Nat.reduceBNe, Int.reduceNeg, Int.reduceToNat, Bool.or_false, Bool.false_or, Bool.or_true, Bool.true_or, BEq.rfl, Bool.not_eq_true, Bool.not_eq_false, decide_eq_true_eq, not_true_eq_false, not_false_eq_true, ite_true, ite_false, List.append_nil, and_assoc, Nat.mul_zero, Nat.zero_mul, fs57, e, decide_false]
  have hs : SidesOk w h := Classical.byContradiction fun H => hy (.inl H)
  have hl : (xs.length : Int) = w * h := Classical.byContradiction fun H => hy (.inr H)
  refine evS_loopU (A := Nat) kp60_1 kl60_1 (fun i => [(3, .int .i64 i)]) (fun _ => [])
    (fun i => i ≤ xs.length ∧ ∀ j, j < i → rd xs (j : Nat) ≤ 1) (fun i => xs.length - i) 0 ⟨by omega, by omega⟩ (Sub.pt ?_) ?_
  · simp -implicitDefEqProofs only [push_cast, false_implies, reduceCtorEq, Classical.not_not, Nat.reduceAdd, Nat.reduceSub, Nat.reduceMul, Nat.reduceLeDiff, Nat.reduceLT, Nat.reduceEqDiff, Nat.reduceBEq, Nat.reduceBNe, Int.reduceNeg, Int.reduceToNat, Bool.or_false, Bool.false_or, Bool.or_true, Bool.true_or, BEq.rfl, Bool.not_eq_true, Bool.not_eq_false, decide_eq_true_eq, not_true_eq_false, not_false_eq_true, ite_true, ite_false, List.append_nil, and_assoc, Nat.mul_zero, Nat.zero_mul]
  intro i ⟨h1, h2⟩ K hK
  simp -implicitDefEqProofs only [push_cast, false_implies, reduceCtorEq, Classical.not_not, Nat.reduceAdd, Nat.reduceSub, Nat.reduceMul, Nat.reduceLeDiff, Nat.reduceLT, Nat.reduceEqDiff, Nat.reduceBEq, Nat.reduceBNe, Int.reduceNeg, Int.reduceToNat, Bool.or_false, Bool.false_or, Bool.or_true, Bool.true_or, BEq.rfl, Bool.not_eq_true, Bool.not_eq_false, decide_eq_true_eq, not_true_eq_false, not_false_eq_true, ite_true, ite_false, List.append_nil, and_assoc, Nat.mul_zero, Nat.zero_mul, b60_1, r60_2]
  refine ⟨fun hl => ?_, fun hl => ?_⟩
  · repeat (refine And.intro (by first | omega | trivial | (intros; omega)) ?_)
    refine ⟨fun hb => ?_, fun hg => ⟨by omega, by omega, ?_⟩⟩
    · have e : ¬ (⟨w, h, xs⟩ : Bm).Ok := fun H => by
        have := bits_rd.1 H.2.2 i (show i < xs.length by omega)
        simp only at this
        omega
      refine postF.mk' (fun _ => default) [some 0] ?_
      simp -implicitDefEqProofs only [push_cast, false_implies, reduceCtorEq, Classical.not_not, Nat.reduceAdd, Nat.reduceSub, Nat.reduceMul, Nat.reduceLeDiff, Nat.reduceLT, Nat.reduceEqDiff, Nat.reduceBEq, Nat.reduceBNe, Int.reduceNeg, Int.reduceToNat, Bool.or_false, Bool.false_or, Bool.or_true, Bool.true_or, BEq.rfl, Bool.not_eq_true, Bool.not_eq_false, decide_eq_true_eq, not_true_eq_false, not_false_eq_true, ite_true, ite_false, List.append_nil, and_assoc, Nat.mul_zero, Nat.zero_mul, fs57, e, decide_false]
    · refine hK (i + 1) ⟨by omega, fun j hj => ?_⟩ (show xs.length - (i + 1) < xs.length - i by omega) _ _ (Sub.pt ?_)
      · by_cases e : j = i
        · subst e; omega
        · exact h2 j (by omega)
      · simp -implicitDefEqProofs only [push_cast, false_implies, reduceCtorEq, Classical.not_not, Nat.reduceAdd, Nat.reduceSub, Nat.reduceMul, Nat.reduceLeDiff, Nat.reduceLT, Nat.reduceEqDiff, Nat.reduceBEq, Nat.reduceBNe, Int.reduceNeg, Int.reduceToNat, Bool.or_false, Bool.false_or, Bool.or_true, Bool.true_or, BEq.rfl, Bool.not_eq_true, Bool.not_eq_false, decide_eq_true_eq, not_true_eq_false, not_false_eq_true, ite_true, ite_false, List.append_nil, and_assoc, Nat.mul_zero, Nat.zero_mul]
  · have e : (⟨w, h, xs⟩ : Bm).Ok := ⟨hs, ‹_›, bits_rd.2 fun j (hj : j < xs.length) => h2 j (by omega)⟩
    refine postF.mk' (fun _ => default) [some 0] ?_
    simp -implicitDefEqProofs only [push_cast, false_implies, reduceCtorEq, Classical.not_not, Nat.reduceAdd, Nat.reduceSub, Nat.reduceMul, Nat.reduceLeDiff, Nat.reduceLT, Nat.reduceEqDiff, Nat.reduceBEq, Nat.reduceBNe, Int.reduceNeg, Int.reduceToNat, Bool.or_false, Bool.false_or, Bool.or_true, Bool.true_or, BEq.rfl, Bool.not_eq_true, Bool.not_eq_false, decide_eq_true_eq, not_true_eq_false, not_false_eq_true, ite_true, ite_false, List.append_nil, and_assoc, Nat.mul_zero, Nat.zero_mul, fs57, e, decide_true]
def ent60 : Entry := spOf fs57 inv57
theorem e60 : EntryOk Try.prog 60 ent60 := entry_of ok60 inv57
@[push_cast] theorem ent60_app (us : List SV) (look : Look) (x : Nat → Xf.Loc) (k : Nat) : ent60 us look x k = spOf fs57 inv57 us look x k := rfl
structure AtA where
  a : BmA
  x : Int
  y : Int
def AtA.inside (a : AtA) : Prop := 0 ≤ a.x ∧ 0 ≤ a.y ∧ a.x < a.a.b.w ∧ a.y < a.a.b.h
instance (a : AtA) : Decidable a.inside := by unfold AtA.inside; infer_instance
def atV (a : AtA) : Int := if a.inside then rd a.a.b.xs (a.y * a.a.b.w + a.x) else 0
def fs70 : FS where
  A := AtA
  args := fun a => [bmV a.a.b a.a.L 0, .int .i64 a.x, .int .i64 a.y]
  mem := fun a => [some (.ro, a.a.L, .ints .u8 a.a.b.xs)]
  pre := fun _ => True
  res := fun a _ => .bool (decide a.inside)
  out := fun _ _ => []
  new := fun _ _ => []
def inv70 : List SV → Look → Option (AtA × List Nat)
  | [v, .int .i64 x, .int .i64 y], look => match getB look v with
    | some (a, g) => some (⟨a, x, y⟩, g)
    | _ => none
  | _, _ => none
attribute [push_cast] inv70
theorem ok70 : FSOk Try.prog 70 fs70 := by
  refine ⟨⟨_, Try.func70, by kernel_rfl, by kernel_rfl⟩, fun a => ⟨by simp [fs70, push_cast, noMine, argOwn, Chunk.frArg], by simp [fs70, push_cast, outOk, Chunk.ext], fun x => .inl (by simp [fs70, push_cast, frNew, frOut, Chunk.fr])⟩, fun a hp => ?_⟩
  obtain ⟨⟨⟨w, h, xs⟩, L⟩, x, y⟩ := a
  change Tri Try.prog 70 [bmV ⟨w, h, xs⟩ L 0, .int .i64 x, .int .i64 y] [some (.ro, L, .ints .u8 xs)] (postF fs70 ⟨⟨⟨w, h, xs⟩, L⟩, x, y⟩)
  refine tri_evS (hyp (l := []) (lp := []) trivial trivial) Try.func70 comp70 (rs := [.tmp 6]) (by rfl) Try.ntmps70 11 ?_
  simp -implicitDefEqProofs only [push_cast, false_implies, reduceCtorEq, Classical.not_not, Nat.reduceAdd, Nat.reduceSub, Nat.reduceMul, Nat.reduceLeDiff, Nat.reduceLT, Nat.reduceEqDiff, Nat.reduceBEq, Nat.reduceBNe, Int.reduceNeg, Int.reduceToNat, Bool.or_false, Bool.false_or, Bool.or_true, Bool.true_or, BEq.rfl, Bool.not_eq_true, Bool.not_eq_false, decide_eq_true_eq, not_true_eq_false, not_false_eq_true, ite_true, ite_false, List.append_nil, and_assoc, Nat.mul_zero, Nat.zero_mul, ir70]
  refine fun X => ⟨fun H => ⟨H.1, H.2, H⟩, fun H => ⟨H.1, H.2.1, H.2.2, H⟩, postF.mk' (fun _ => default) [some 0] ?_⟩
  simp -implicitDefEqProofs only [push_cast, false_implies, reduceCtorEq, Classical.not_not, Nat.reduceAdd, Nat.reduceSub, Nat.reduceMul, Nat.reduceLeDiff, Nat.reduceLT, Nat.reduceEqDiff, Nat.reduceBEq, Nat.reduceBNe, Int.reduceNeg, Int.reduceToNat, Bool.or_false, Bool.false_or, Bool.or_true, Bool.true_or, BEq.rfl, Bool.not_eq_true, Bool.not_eq_false, decide_eq_true_eq, not_true_eq_false, not_false_eq_true, ite_true, ite_false, List.append_nil, and_assoc, Nat.mul_zero, Nat.zero_mul, fs70, AtA.inside]
def ent70 : Entry := spOf fs70 inv70
theorem e70 : EntryOk Try.prog 70 ent70 := entry_of ok70 inv70
@[push_cast] theorem ent70_app (us : List SV) (look : Look) (x : Nat → Xf.Loc) (k : Nat) : ent70 us look x k = spOf fs70 inv70 us look x k := rfl
def fs61 : FS := { fs70 with pre := fun a => a.a.b.Ok ∧ ∀ n, n ∈ a.a.b.xs → 0 ≤ n, res := fun a _ => .int .i64 (atV a) }
theorem ok61 : FSOk Try.prog 61 fs61 := by
  refine ⟨⟨_, Try.func61, by kernel_rfl, by kernel_rfl⟩, fun a => ⟨by simp [fs61, fs70, push_cast, noMine, argOwn, Chunk.frArg], by simp [fs61, fs70, push_cast, outOk, Chunk.ext], fun x => .inl (by simp [fs61, fs70, push_cast, frNew, frOut, Chunk.fr])⟩, fun a hp => ?_⟩
  obtain ⟨⟨⟨w, h, xs⟩, L⟩, x, y⟩ := a
  obtain ⟨⟨hs, hl, hb⟩, h0⟩ : (⟨w, h, xs⟩ : Bm).Ok ∧ ∀ n, n ∈ xs → 0 ≤ n := hp
  change Tri Try.prog 61 [bmV ⟨w, h, xs⟩ L 0, .int .i64 x, .int .i64 y] [some (.ro, L, .ints .u8 xs)] (postF fs61 ⟨⟨⟨w, h, xs⟩, L⟩, x, y⟩)
  refine tri_evS (hyp (l := [(70, ent70)]) (lp := []) ⟨e70, trivial⟩ trivial) Try.func61 comp61 (rs := [.tmp 6]) (by rfl) Try.ntmps61 15 ?_
  simp -implicitDefEqProofs only [push_cast, false_implies, reduceCtorEq, Classical.not_not, Nat.reduceAdd, Nat.reduceSub, Nat.reduceMul, Nat.reduceLeDiff, Nat.reduceLT, Nat.reduceEqDiff, Nat.reduceBEq, Nat.reduceBNe, Int.reduceNeg, Int.reduceToNat, Bool.or_false, Bool.false_or, Bool.or_true, Bool.true_or, BEq.rfl, Bool.not_eq_true, Bool.not_eq_false, decide_eq_true_eq, not_true_eq_false, not_false_eq_true, ite_true, ite_false, List.append_nil, and_assoc, Nat.mul_zero, Nat.zero_mul, ir61, fs70]
  refine fun X => ⟨fun hn => ?_, fun hy => ?_⟩
  · refine postF.mk' (fun _ => default) [some 0] ?_
    simp -implicitDefEqProofs only [push_cast, false_implies, reduceCtorEq, Classical.not_not, Nat.reduceAdd, Nat.reduceSub, Nat.reduceMul, Nat.reduceLeDiff, Nat.reduceLT, Nat.reduceEqDiff, Nat.reduceBEq, Nat.reduceBNe, Int.reduceNeg, Int.reduceToNat, Bool.or_false, Bool.false_or, Bool.or_true, Bool.true_or, BEq.rfl, Bool.not_eq_true, Bool.not_eq_false, decide_eq_true_eq, not_true_eq_false, not_false_eq_true, ite_true, ite_false, List.append_nil, and_assoc, Nat.mul_zero, Nat.zero_mul, fs61, fs70, atV, hn, if_false]
  · obtain ⟨b1, b2, b3, b4⟩ : 0 ≤ x ∧ 0 ≤ y ∧ x < w ∧ y < h := id hy
    obtain ⟨a1, a2, a3, a4, a5⟩ := id hs
    simp only at a1 a2 a3 a4 a5 hl hb
    have hi := idx_bd b2 b4 b1 b3
    have hm := mul_bd b2 (show y ≤ 200 by omega) a1 a3
    have hv : 0 ≤ rd xs (y * w + x) ∧ rd xs (y * w + x) ≤ 1 := by
      have hk : (y * w + x).toNat < xs.length := by omega
      have e : rd xs (y * w + x) = xs[(y * w + x).toNat] := by simp [rd, hk]
      rw [e]; exact ⟨h0 _ (List.getElem_mem hk), hb _ (List.getElem_mem hk)⟩
    repeat (refine And.intro (by first | omega | trivial | (intros; omega)) ?_)
    refine postF.mk' (fun _ => default) [some 0] ?_
    simp -implicitDefEqProofs only [push_cast, false_implies, reduceCtorEq, Classical.not_not, Nat.reduceAdd, Nat.reduceSub, Nat.reduceMul, Nat.reduceLeDiff, Nat.reduceLT, Nat.reduceEqDiff, Nat.reduceBEq, Nat.reduceBNe, Int.reduceNeg, Int.reduceToNat, Bool.or_false, Bool.false_or, Bool.or_true, Bool.true_or, BEq.rfl, Bool.not_eq_true, Bool.not_eq_false, decide_eq_true_eq, not_true_eq_false, not_false_eq_true, ite_true, ite_false, List.append_nil, and_assoc, Nat.mul_zero, Nat.zero_mul, fs61, fs70, atV, hy, if_true]
def ent61 : Entry := spOf fs61 inv70
theorem e61 : EntryOk Try.prog 61 ent61 := entry_of ok61 inv70
@[push_cast] theorem ent61_app (us : List SV) (look : Look) (x : Nat → Xf.Loc) (k : Nat) : ent61 us look x k = spOf fs61 inv70 us look x k := rfl
def sumF (f : Nat → Int) : Nat → Int
  | 0 => 0
  | n + 1 => sumF f n + f n
theorem sumF_congr {f g : Nat → Int} : ∀ {n : Nat}, (∀ k, k < n → f k = g k) → sumF f n = sumF g n
  | 0, _ => rfl
  | n + 1, h => by rw [sumF, sumF, sumF_congr fun k hk => h k (by omega), h n (by omega)]
theorem sumF_add (f : Nat → Int) (a : Nat) : ∀ b, sumF f (a + b) = sumF f a + sumF (fun i => f (a + i)) b
  | 0 => by simp [sumF]
  | b + 1 => by rw [← Nat.add_assoc, sumF, sumF, sumF_add f a b]; omega
theorem sumF_zero : ∀ n, sumF (fun _ => 0) n = 0
  | 0 => rfl
  | n + 1 => by rw [sumF, sumF_zero n]; rfl
theorem sumF_rows (f : Nat → Int) (W : Nat) : ∀ H, sumF f (H * W) = sumF (fun v => sumF (fun u => f (v * W + u)) W) H
  | 0 => by rw [Nat.zero_mul]; rfl
  | H + 1 => by rw [Nat.succ_mul, sumF_add, sumF_rows f W H, sumF]
theorem sumF_bd {f : Nat → Int} {B : Int} : ∀ {n : Nat}, (∀ k, k < n → 0 ≤ f k ∧ f k ≤ B) → 0 ≤ sumF f n ∧ sumF f n ≤ n * B
  | 0, _ => by simp [sumF]
  | n + 1, h => by
    have h1 := sumF_bd (n := n) fun k hk => h k (by omega)
    have h2 := h n (by omega)
    rw [sumF, Int.natCast_add, Int.add_mul]
    simp only [Int.natCast_one, Int.one_mul]
    omega
theorem sumF_win (g : Nat → Int) {X c W : Nat} (h : X + c ≤ W) : sumF (fun u => if X ≤ u ∧ u < X + c then g u else 0) W = sumF (fun i => g (X + i)) c := by
  obtain ⟨d, rfl⟩ : ∃ d, W = X + c + d := ⟨W - (X + c), by omega⟩
  rw [sumF_add, sumF_add]
  have e1 : sumF (fun u => if X ≤ u ∧ u < X + c then g u else 0) X = 0 := by
    rw [sumF_congr (g := fun _ => 0) fun k hk => if_neg (by omega), sumF_zero]
  have e2 : sumF (fun i => (fun u => if X ≤ u ∧ u < X + c then g u else 0) (X + c + i)) d = 0 := by
    rw [sumF_congr (g := fun _ => 0) fun k hk => if_neg (by omega), sumF_zero]
  have e3 : sumF (fun i => (fun u => if X ≤ u ∧ u < X + c then g u else 0) (X + i)) c = sumF (fun i => g (X + i)) c := sumF_congr fun k hk => if_pos (by omega)
  rw [e1, e2, e3]
  omega
theorem dmN {w v u : Nat} (hu : u < w) : (v * w + u) / w = v ∧ (v * w + u) % w = u := by
  have hw : 0 < w := by omega
  constructor
  · rw [Nat.mul_comm, Nat.mul_add_div hw, Nat.div_eq_of_lt hu, Nat.add_zero]
  · rw [Nat.mul_comm, Nat.mul_add_mod, Nat.mod_eq_of_lt hu]
/-- The sum over a rectangle is that over all places with a test. -/
theorem sumF_rect (g : Nat → Int) {X Y c r W H : Nat} (hx : X + c ≤ W) (hy : Y + r ≤ H) :
    sumF (fun k => if (Y ≤ k / W ∧ k / W < Y + r) ∧ (X ≤ k % W ∧ k % W < X + c) then g k else 0) (H * W) = sumF (fun a => sumF (fun i => g ((Y + a) * W + (X + i))) c) r := by
  rw [sumF_rows, ← sumF_win (fun v => sumF (fun i => g (v * W + (X + i))) c) hy]
  refine sumF_congr fun v hv => ?_
  by_cases hv2 : Y ≤ v ∧ v < Y + r
  · rw [if_pos hv2, ← sumF_win (fun u => g (v * W + u)) hx]
    refine sumF_congr fun u hu => ?_
    rw [(dmN hu).1, (dmN hu).2]
    by_cases hu2 : X ≤ u ∧ u < X + c
    · rw [if_pos ⟨hv2, hu2⟩, if_pos hu2]
    · rw [if_neg fun h => hu2 h.2, if_neg hu2]
  · rw [if_neg hv2, sumF_congr (g := fun _ => 0) fun u hu => if_neg (by rw [(dmN hu).1]; exact fun h => hv2 h.1), sumF_zero]
def ir64 : IR :=
  .seq (.reg false [⟨some 4, none, ⟨[], []⟩, .box 10 (.t 1)⟩] [1] []) (.reg true [⟨some 6, none, ⟨[], []⟩, .mov (.t 0)⟩,
    ⟨some 7, none, ⟨[], []⟩, .mov (.t 0)⟩,
    ⟨some 8, none, ⟨[], []⟩, .mov (.t 0)⟩,
    ⟨some 9, none, ⟨[], []⟩, .mov (.t 0)⟩,
    ⟨some 10, none, ⟨[], []⟩, .mov (.t 0)⟩,
    ⟨some 11, none, ⟨[], []⟩, .nilc (.t 10)⟩,
    ⟨some 12, none, ⟨[], []⟩, .fld (.t 11) 0⟩,
    ⟨some 13, none, ⟨[], []⟩, .ld true none 0 0 (.t 12)⟩,
    ⟨some 14, none, ⟨[], []⟩, .fld (.t 4) 2⟩,
    ⟨some 15, none, ⟨[], []⟩, .ld false none 0 0 (.t 14)⟩,
    ⟨some 16, none, ⟨[], []⟩, .mov (.t 2)⟩,
    ⟨some 17, none, ⟨[], []⟩, .idxS (.t 15) (.t 16) 1⟩,
    ⟨some 18, none, ⟨[], []⟩, .ld true none 0 0 (.t 17)⟩,
    ⟨some 19, none, ⟨[], []⟩, .bin 0 .add (.t 13) (.t 18)⟩,
    ⟨some 20, none, ⟨[], []⟩, .mov (.t 0)⟩,
    ⟨some 21, none, ⟨[], []⟩, .nilc (.t 20)⟩,
    ⟨some 22, none, ⟨[], []⟩, .fld (.t 21) 1⟩,
    ⟨some 23, none, ⟨[], []⟩, .ld true none 0 0 (.t 22)⟩,
    ⟨some 24, none, ⟨[], []⟩, .fld (.t 4) 3⟩,
    ⟨some 25, none, ⟨[], []⟩, .ld false none 0 0 (.t 24)⟩,
    ⟨some 26, none, ⟨[], []⟩, .mov (.t 2)⟩,
    ⟨some 27, none, ⟨[], []⟩, .idxS (.t 25) (.t 26) 1⟩,
    ⟨some 28, none, ⟨[], []⟩, .ld true none 0 0 (.t 27)⟩,
    ⟨some 29, none, ⟨[], []⟩, .bin 0 .add (.t 23) (.t 28)⟩,
    ⟨some 30, none, ⟨[], []⟩, .mov (.t 0)⟩,
    ⟨some 31, none, ⟨[], []⟩, .nilc (.t 30)⟩,
    ⟨some 32, none, ⟨[], []⟩, .fld (.t 31) 2⟩,
    ⟨some 33, none, ⟨[], []⟩, .ld true none 0 0 (.t 32)⟩,
    ⟨some 34, none, ⟨[], []⟩, .fld (.t 4) 4⟩,
    ⟨some 35, none, ⟨[], []⟩, .ld false none 0 0 (.t 34)⟩,
    ⟨some 36, none, ⟨[], []⟩, .mov (.t 2)⟩,
    ⟨some 37, none, ⟨[], []⟩, .idxS (.t 35) (.t 36) 1⟩,
    ⟨some 38, none, ⟨[], []⟩, .ld true none 0 0 (.t 37)⟩,
    ⟨some 39, none, ⟨[], []⟩, .bin 0 .add (.t 33) (.t 38)⟩,
    ⟨some 40, none, ⟨[], []⟩, .mov (.t 0)⟩,
    ⟨some 41, none, ⟨[], []⟩, .nilc (.t 40)⟩,
    ⟨some 42, none, ⟨[], []⟩, .fld (.t 41) 3⟩,
    ⟨some 43, none, ⟨[], []⟩, .ld true none 0 0 (.t 42)⟩,
    ⟨some 44, none, ⟨[], []⟩, .bin 0 .add (.t 43) (.k (.int .i64 1))⟩,
    ⟨some 45, none, ⟨[], []⟩, .nilc (.t 6)⟩,
    ⟨some 46, none, ⟨[], []⟩, .fld (.t 45) 0⟩,
    ⟨none, none, ⟨[], []⟩, .sto true 1 .i64 (.t 46) (.t 19)⟩,
    ⟨some 47, none, ⟨[], []⟩, .nilc (.t 7)⟩,
    ⟨some 48, none, ⟨[], []⟩, .fld (.t 47) 1⟩,
    ⟨none, none, ⟨[], []⟩, .sto true 1 .i64 (.t 48) (.t 29)⟩,
    ⟨some 49, none, ⟨[], []⟩, .nilc (.t 8)⟩,
    ⟨some 50, none, ⟨[], []⟩, .fld (.t 49) 2⟩,
    ⟨none, none, ⟨[], []⟩, .sto true 1 .i64 (.t 50) (.t 39)⟩,
    ⟨some 51, none, ⟨[], []⟩, .nilc (.t 9)⟩,
    ⟨some 52, none, ⟨[], []⟩, .fld (.t 51) 3⟩,
    ⟨none, none, ⟨[], []⟩, .sto true 1 .i64 (.t 52) (.t 44)⟩] [0, 2, 4, 6, 7, 8, 9, 10, 11, 12, 13, 14, 15, 16, 17, 18, 19, 20, 21, 22, 23, 24, 25, 26, 27, 28, 29, 30, 31, 32, 33, 34, 35, 36, 37, 38, 39, 40, 41, 42, 43, 44, 45, 46, 47, 48, 49, 50, 51, 52] [])
set_option maxRecDepth 4000 in
theorem comp64 : (Try.f64.body.bind fun c => compC tab isP chkAll ir64 c) = some ir64 := by kernel_rfl
structure Sm where
  r : Int
  g : Int
  b : Int
  n : Int
  deriving Inhabited
def Sm.rc (s : Sm) : List RC := [.int .i64 s.r, .int .i64 s.g, .int .i64 s.b, .int .i64 s.n]
def rdSm (l : List Sm) (i : Nat) : Sm := l.getD i default
theorem recAt_Sm {l : List Sm} {i : Nat} (h : i < l.length) (z : List RC) : recAt (i : Int) z (l.map Sm.rc) = (rdSm l i).rc := by
  simp [recAt, rdSm, h]
theorem recAt_set {l : List (List RC)} {i : Nat} (h : i < l.length) (z r : List RC) : recAt (i : Int) z (l.set i r) = r := by
  simp [recAt, h]
theorem map_set_Sm (l : List Sm) (i : Nat) (s : Sm) : (l.map Sm.rc).set i s.rc = (l.set i s).map Sm.rc := by simp
def getSm : List (List RC) → Option (List Sm)
  | [] => some []
  | [.int .i64 r, .int .i64 g, .int .i64 b, .int .i64 n] :: l => match getSm l with | some m => some (⟨r, g, b, n⟩ :: m) | none => none
  | _ => none
theorem getSm_map : ∀ l : List Sm, getSm (l.map Sm.rc) = some l
  | [] => rfl
  | x :: l => by simp only [List.map_cons, Sm.rc, getSm, getSm_map l]
theorem Sm.noRow (l : List Sm) (n : Nat) (fr : Bool) (z : List RC) (y : Addr) : ¬ rows (.recs n fr z (l.map Sm.rc)) y := by
  rintro ⟨L, k, xs, ⟨r, hr, hm⟩, _⟩
  obtain ⟨s, _, rfl⟩ := List.mem_map.1 hr
  simp [Sm.rc] at hm
def Sm.plus (s : Sm) (i : Im) (k : Nat) : Sm := ⟨s.r + rd i.R (k : Nat), s.g + rd i.G (k : Nat), s.b + rd i.B (k : Nat), s.n + 1⟩
structure SaA where
  L : Xf.Loc
  l : List Sm
  j : Nat
  a : ImA
  k : Nat
def zS : List RC := [.int .i64 0, .int .i64 0, .int .i64 0, .int .i64 0]
def fs64 : FS where
  A := SaA
  args := fun a => [.ptr 0 a.L a.j 4 0, imV a.a.i a.a.L1 a.a.L2 a.a.L3 1, .int .i64 a.k]
  mem := fun a => some (.lent, a.L, .recs 4 false zS (a.l.map Sm.rc)) :: imM a.a.i a.a.L1 a.a.L2 a.a.L3
  pre := fun a => a.j < a.l.length ∧ a.a.i.Ok ∧ a.k < a.a.i.R.length ∧ 0 ≤ (rdSm a.l a.j).r ∧ (rdSm a.l a.j).r ≤ 1000000000 ∧ 0 ≤ (rdSm a.l a.j).g ∧ (rdSm a.l a.j).g ≤ 1000000000 ∧ 0 ≤ (rdSm a.l a.j).b ∧ (rdSm a.l a.j).b ≤ 1000000000 ∧ 0 ≤ (rdSm a.l a.j).n ∧ (rdSm a.l a.j).n ≤ 1000000000
  res := fun _ _ => .tup []
  out := fun a _ => [some (some (.recs 4 false zS ((a.l.set a.j ((rdSm a.l a.j).plus a.a.i a.k)).map Sm.rc)))]
  new := fun _ _ => []
def inv64 : List SV → Look → Option (SaA × List Nat)
  | [.ptr c _ j 4 0, v, .int .i64 k], look => match rowR (look c), getI look v with
    | some (L, 4, _, r), some (a, g) => match getSm r with | some l => some (⟨L, l, j.toNat, a, k.toNat⟩, c :: g) | none => none
    | _, _ => none
  | _, _ => none
attribute [push_cast] inv64
theorem ok64 : FSOk Try.prog 64 fs64 := by
  refine ⟨⟨_, Try.func64, by kernel_rfl, by kernel_rfl⟩, fun a => ⟨by simp [fs64, imM, push_cast, noMine, argOwn, Chunk.frArg], by simp [fs64, imM, push_cast, outOk, Chunk.ext], fun x => .inr ⟨fun j L ch h => ?_, fun c ch h => .inr fun y hy => ?_⟩⟩, fun a hp => ?_⟩
  · simp [fs64] at h
  · exfalso
    match c, h with
    | 0, h => simp only [fs64, lk, Option.some.injEq] at h; subst h; exact Sm.noRow _ _ _ _ _ hy
    | c + 1, h => simp [fs64, lk] at h
  obtain ⟨L, l, j, ⟨⟨w, h, R, G, B⟩, L1, L2, L3⟩, k⟩ := a
  obtain ⟨hj, hi, hk, b1, b2, b3, b4, b5, b6, b7, b8⟩ := hp
  obtain ⟨v1, v2, v3⟩ := hi.val
  have v3 := v3 k hk
  simp only at hj hk v1 v2 v3 b1 b2 b3 b4 b5 b6 b7 b8
  have r1 := recAt_Sm hj zS
  have hlen : (l.map Sm.rc).length = l.length := List.length_map _
  have r2 := fun r => recAt_set (l := l.map Sm.rc) (i := j) (by omega) zS r
  obtain ⟨s, hs⟩ : ∃ s, rdSm l j = s := ⟨_, rfl⟩
  rw [hs] at r1 b1 b2 b3 b4 b5 b6 b7 b8
  obtain ⟨sr, sg, sb, sn⟩ := s
  simp only at b1 b2 b3 b4 b5 b6 b7 b8
  change Tri Try.prog 64 [.ptr 0 L j 4 0, imV ⟨w, h, R, G, B⟩ L1 L2 L3 1, .int .i64 k] [some (.lent, L, .recs 4 false zS (l.map Sm.rc)), some (.ro, L1, .ints .i64 R), some (.ro, L2, .ints .i64 G), some (.ro, L3, .ints .i64 B)] (postF fs64 ⟨L, l, j, ⟨⟨w, h, R, G, B⟩, L1, L2, L3⟩, k⟩)
  refine tri_evS (hyp (l := []) (lp := []) trivial trivial) Try.func64 comp64 (rs := []) (by rfl) Try.ntmps64 11 ?_
  simp -implicitDefEqProofs only [push_cast, false_implies, reduceCtorEq, Classical.not_not, Nat.reduceAdd, Nat.reduceSub, Nat.reduceMul, Nat.reduceLeDiff, Nat.reduceLT, Nat.reduceEqDiff, Nat.reduceBEq, Nat.reduceBNe, Int.reduceNeg, Int.reduceToNat, Bool.or_false, Bool.false_or, Bool.or_true, Bool.true_or, BEq.rfl, Bool.not_eq_true, Bool.not_eq_false, decide_eq_true_eq, not_true_eq_false, not_false_eq_true, ite_true, ite_false, List.append_nil, and_assoc, Nat.mul_zero, Nat.zero_mul, ir64, imV, r1, r2, Sm.rc, hlen, List.set_set, Int.toNat_natCast]
  obtain ⟨⟨u1, u2⟩, ⟨u3, u4⟩, u5, u6⟩ := v3
  have hls : ∀ r : List RC, (((l.map Sm.rc).set j r).length : Int) = l.length := fun r => by rw [List.length_set, hlen]
  have hset : ∀ r g b n : Int, ((l.map Sm.rc).set j [.int .i64 r, .int .i64 g, .int .i64 b, .int .i64 n]) = (l.set j ⟨r, g, b, n⟩).map Sm.rc := fun r g b n => map_set_Sm l j ⟨r, g, b, n⟩
  intro X
  simp only [hls]
  repeat (refine And.intro (by first | omega | trivial | (intros; omega)) ?_)
  refine postF.mk' (fun _ => default) [some 0, some 1, some 2, some 3] ?_
  simp -implicitDefEqProofs only [push_cast, false_implies, reduceCtorEq, Classical.not_not, Nat.reduceAdd, Nat.reduceSub, Nat.reduceMul, Nat.reduceLeDiff, Nat.reduceLT, Nat.reduceEqDiff, Nat.reduceBEq, Nat.reduceBNe, Int.reduceNeg, Int.reduceToNat, Bool.or_false, Bool.false_or, Bool.or_true, Bool.true_or, BEq.rfl, Bool.not_eq_true, Bool.not_eq_false, decide_eq_true_eq, not_true_eq_false, not_false_eq_true, ite_true, ite_false, List.append_nil, and_assoc, Nat.mul_zero, Nat.zero_mul, fs64, imM, Sm.plus, hs, hset]
def ent64 : Entry := spOf fs64 inv64
theorem e64 : EntryOk Try.prog 64 ent64 := entry_of ok64 inv64
@[push_cast] theorem ent64_app (us : List SV) (look : Look) (x : Nat → Xf.Loc) (k : Nat) : ent64 us look x k = spOf fs64 inv64 us look x k := rfl
def b37_1 : IR :=
  .seq (.reg false [⟨some 79, none, ⟨[], []⟩, .bin 0 .lss (.t 78) (.t 77)⟩] [] []) (.seq (.cond (.t 79) (.skip) (.exit 0)) (.seq (.block 1 (.seq (.reg false [⟨some 80, none, ⟨[], []⟩, .mov (.t 78)⟩,
    ⟨some 11, none, ⟨[], []⟩, .mov (.t 80)⟩] [79, 80] []) (.seq (.reg false [⟨some 81, none, ⟨[], []⟩, .mov (.t 8)⟩,
    ⟨some 82, none, ⟨[], []⟩, .mov (.t 81)⟩,
    ⟨some 83, some (82, false), ⟨[], []⟩, .fld (.t 5) 2⟩,
    ⟨some 84, some (82, false), ⟨[], []⟩, .ld false none 0 0 (.t 83)⟩,
    ⟨some 85, some (82, false), ⟨[], []⟩, .mov (.t 11)⟩,
    ⟨some 86, some (82, false), ⟨[], []⟩, .idxS (.t 84) (.t 85) 1⟩,
    ⟨some 87, some (82, false), ⟨[], []⟩, .ld true none 0 0 (.t 86)⟩,
    ⟨some 88, some (82, false), ⟨[], []⟩, .bin 0 .eql (.t 87) (.k (.int .u8 0))⟩,
    ⟨some 89, none, ⟨[], []⟩, .pick (.t 82) (.k (.bool true)) (.t 88)⟩] [81, 82, 83, 84, 85, 86, 87, 88] []) (.cond (.t 89) (.reg true [⟨some 90, none, ⟨[], []⟩, .mov (.t 10)⟩,
    ⟨some 91, none, ⟨[], []⟩, .mov (.t 11)⟩,
    ⟨some 92, none, ⟨[], []⟩, .fld (.t 3) 0⟩,
    ⟨some 93, none, ⟨[], []⟩, .ld false none 0 0 (.t 92)⟩,
    ⟨some 94, none, ⟨[], []⟩, .bin 0 .quo (.t 91) (.t 93)⟩,
    ⟨some 95, none, ⟨[], []⟩, .mov (.t 1)⟩,
    ⟨some 96, none, ⟨[], []⟩, .bin 0 .quo (.t 94) (.t 95)⟩,
    ⟨some 97, none, ⟨[], []⟩, .fld (.t 9) 0⟩,
    ⟨some 98, none, ⟨[], []⟩, .ld false none 0 0 (.t 97)⟩,
    ⟨some 99, none, ⟨[], []⟩, .bin 0 .mul (.t 96) (.t 98)⟩,
    ⟨some 100, none, ⟨[], []⟩, .mov (.t 11)⟩,
    ⟨some 101, none, ⟨[], []⟩, .fld (.t 3) 0⟩,
    ⟨some 102, none, ⟨[], []⟩, .ld false none 0 0 (.t 101)⟩,
    ⟨some 103, none, ⟨[], []⟩, .bin 0 .rem (.t 100) (.t 102)⟩,
    ⟨some 104, none, ⟨[], []⟩, .mov (.t 1)⟩,
    ⟨some 105, none, ⟨[], []⟩, .bin 0 .quo (.t 103) (.t 104)⟩,
    ⟨some 106, none, ⟨[], []⟩, .bin 0 .add (.t 99) (.t 105)⟩,
    ⟨some 107, none, ⟨[], []⟩, .idxS (.t 90) (.t 106) 4⟩,
    ⟨some 108, none, ⟨[], []⟩, .ld false (some 5) 0 0 (.t 3)⟩,
    ⟨some 109, none, ⟨[], []⟩, .mov (.t 11)⟩,
    ⟨some 110, none, ⟨[], []⟩, .call none 27 64 [.t 107, .t 108, .t 109]⟩] [11, 89, 90, 91, 92, 93, 94, 95, 96, 97, 98, 99, 100, 101, 102, 103, 104, 105, 106, 107, 108, 109, 110] []) (.skip))))) (.reg false [⟨some 111, none, ⟨[], []⟩, .bin 0 .add (.t 78) (.k (.int .i64 1))⟩,
    ⟨some 78, none, ⟨[], []⟩, .mov (.t 111)⟩] [11, 89, 111] [])))
def b37_2 : IR :=
  .seq (.reg false [⟨some 115, none, ⟨[], []⟩, .bin 0 .lss (.t 114) (.t 113)⟩] [] []) (.seq (.cond (.t 115) (.skip) (.exit 2)) (.seq (.block 3 (.seq (.reg false [⟨some 116, none, ⟨[], []⟩, .mov (.t 114)⟩,
    ⟨some 117, none, ⟨[], []⟩, .idxS (.t 112) (.t 114) 4⟩,
    ⟨some 118, none, ⟨[], []⟩, .ld true (some 4) 0 0 (.t 117)⟩,
    ⟨some 13, none, ⟨[], []⟩, .alloc 31 [.int .i64 0, .int .i64 0, .int .i64 0, .int .i64 0]⟩,
    ⟨some 12, none, ⟨[], []⟩, .mov (.t 116)⟩,
    ⟨none, none, ⟨[], []⟩, .sto false 4 .i64 (.t 13) (.t 118)⟩] [115, 116, 117, 118] []) (.seq (.reg false [⟨some 119, none, ⟨[], []⟩, .fld (.t 13) 3⟩,
    ⟨some 120, none, ⟨[], []⟩, .ld false none 0 0 (.t 119)⟩,
    ⟨some 121, none, ⟨[], []⟩, .bin 0 .eql (.t 120) (.k (.int .i64 0))⟩] [119, 120] []) (.cond (.t 121) (.reg false [⟨some 122, none, ⟨[], []⟩, .mov (.t 12)⟩,
    ⟨some 123, none, ⟨[], []⟩, .call none 32 42 [.t 9, .t 122, .k (.int .i64 255), .k (.int .i64 255), .k (.int .i64 255)]⟩] [12, 13, 121, 122, 123] []) (.reg true [⟨some 124, none, ⟨[], []⟩, .mov (.t 12)⟩,
    ⟨some 125, none, ⟨[], []⟩, .fld (.t 13) 0⟩,
    ⟨some 126, none, ⟨[], []⟩, .ld false none 0 0 (.t 125)⟩,
    ⟨some 127, none, ⟨[], []⟩, .fld (.t 13) 3⟩,
    ⟨some 128, none, ⟨[], []⟩, .ld false none 0 0 (.t 127)⟩,
    ⟨some 129, none, ⟨[], []⟩, .callp 62 [.t 126, .t 128]⟩,
    ⟨some 130, none, ⟨[], []⟩, .fld (.t 13) 1⟩,
    ⟨some 131, none, ⟨[], []⟩, .ld false none 0 0 (.t 130)⟩,
    ⟨some 132, none, ⟨[], []⟩, .fld (.t 13) 3⟩,
    ⟨some 133, none, ⟨[], []⟩, .ld false none 0 0 (.t 132)⟩,
    ⟨some 134, none, ⟨[], []⟩, .callp 62 [.t 131, .t 133]⟩,
    ⟨some 135, none, ⟨[], []⟩, .fld (.t 13) 2⟩,
    ⟨some 136, none, ⟨[], []⟩, .ld false none 0 0 (.t 135)⟩,
    ⟨some 137, none, ⟨[], []⟩, .fld (.t 13) 3⟩,
    ⟨some 138, none, ⟨[], []⟩, .ld false none 0 0 (.t 137)⟩,
    ⟨some 139, none, ⟨[], []⟩, .callp 62 [.t 136, .t 138]⟩,
    ⟨some 140, none, ⟨[], []⟩, .call none 36 42 [.t 9, .t 124, .t 129, .t 134, .t 139]⟩] [12, 13, 121, 124, 125, 126, 127, 128, 129, 130, 131, 132, 133, 134, 135, 136, 137, 138, 139, 140] []))))) (.reg false [⟨some 141, none, ⟨[], []⟩, .bin 0 .add (.t 114) (.k (.int .i64 1))⟩,
    ⟨some 114, none, ⟨[], []⟩, .mov (.t 141)⟩] [141] [])))
def r37_3 : IR :=
  .seq (.reg false [⟨some 142, none, ⟨[], []⟩, .ld false (some 5) 0 0 (.t 9)⟩,
    ⟨none, none, ⟨[], []⟩, .sto false 5 .i64 (.t 6) (.t 142)⟩,
    ⟨some 7, none, ⟨[], []⟩, .mov (.k (.int .i64 0))⟩] [9, 112, 113, 114, 142] []) (.ret)
def r37_4 : IR :=
  .seq (.seq (.reg false [⟨some 112, none, ⟨[], []⟩, .mov (.t 10)⟩,
    ⟨some 113, none, ⟨[], []⟩, .len (.t 112)⟩,
    ⟨some 114, none, ⟨[], []⟩, .mov (.k (.int .i64 0))⟩] [1, 3, 5, 8, 10, 77, 78] []) (.block 2 (.loop b37_2))) (r37_3)
def ir37 : IR :=
  .seq (.reg false [⟨some 3, none, ⟨[], []⟩, .box 10 (.t 0)⟩,
    ⟨some 5, none, ⟨[], []⟩, .box 11 (.t 2)⟩,
    ⟨some 6, none, ⟨[], []⟩, .alloc 12 [.int .i64 0, .int .i64 0, nilSV, nilSV, nilSV]⟩,
    ⟨some 7, none, ⟨[], []⟩, .mov (.k (.int .i64 0))⟩] [0, 2, 7] []) (.seq (.seq (.reg false [⟨some 14, none, ⟨[], []⟩, .ld false (some 5) 0 0 (.t 3)⟩,
    ⟨some 15, none, ⟨[], []⟩, .call (some 4) 13 15 [.t 14]⟩,
    ⟨some 16, none, ⟨[], []⟩, .not (.t 15)⟩] [14, 15] []) (.cond (.t 16) (.seq (.reg false [⟨some 17, none, ⟨[], []⟩, .build [.int .i64 0, .int .i64 0, nilSV, nilSV, nilSV] []⟩,
    ⟨none, none, ⟨[], []⟩, .sto false 5 .i64 (.t 6) (.t 17)⟩,
    ⟨some 7, none, ⟨[], []⟩, .mov (.k (.int .i64 75))⟩] [1, 3, 5, 16, 17] []) (.ret)) (.skip))) (.seq (.reg false [⟨some 18, none, ⟨[], []⟩, .fld (.t 5) 0⟩,
    ⟨some 19, none, ⟨[], []⟩, .ld false none 0 0 (.t 18)⟩,
    ⟨some 20, none, ⟨[], []⟩, .bin 0 .eql (.t 19) (.k (.int .i64 0))⟩,
    ⟨some 21, none, ⟨[], []⟩, .mov (.t 20)⟩,
    ⟨some 22, some (21, true), ⟨[], []⟩, .fld (.t 5) 1⟩,
    ⟨some 23, some (21, true), ⟨[], []⟩, .ld false none 0 0 (.t 22)⟩,
    ⟨some 24, some (21, true), ⟨[], []⟩, .bin 0 .eql (.t 23) (.k (.int .i64 0))⟩,
    ⟨some 25, none, ⟨[], []⟩, .pick (.t 21) (.t 24) (.k (.bool false))⟩,
    ⟨some 8, none, ⟨[], []⟩, .mov (.t 25)⟩] [7, 16, 18, 19, 20, 21, 22, 23, 24, 25] []) (.seq (.seq (.reg false [⟨some 26, none, ⟨[], []⟩, .mov (.t 1)⟩,
    ⟨some 27, none, ⟨[], []⟩, .bin 0 .lss (.t 26) (.k (.int .i64 1))⟩,
    ⟨some 28, none, ⟨[], []⟩, .mov (.t 27)⟩,
    ⟨some 29, some (28, false), ⟨[], []⟩, .mov (.t 1)⟩,
    ⟨some 30, some (28, false), ⟨[], []⟩, .bin 0 .gtr (.t 29) (.k (.int .i64 200))⟩,
    ⟨some 31, none, ⟨[], []⟩, .pick (.t 28) (.k (.bool true)) (.t 30)⟩,
    ⟨some 32, none, ⟨[], []⟩, .mov (.t 31)⟩,
    ⟨some 33, some (32, false), ⟨[], []⟩, .ld false (some 3) 0 0 (.t 5)⟩,
    ⟨some 34, some (32, false), ⟨[], []⟩, .call (some 4) 17 57 [.t 33]⟩,
    ⟨some 35, some (32, false), ⟨[], []⟩, .not (.t 34)⟩,
    ⟨some 36, none, ⟨[], []⟩, .pick (.t 32) (.k (.bool true)) (.t 35)⟩,
    ⟨some 37, none, ⟨[], []⟩, .mov (.t 36)⟩,
    ⟨some 38, some (37, false), ⟨[], []⟩, .mov (.t 8)⟩,
    ⟨some 39, some (37, false), ⟨[], []⟩, .not (.t 38)⟩,
    ⟨some 40, some (37, false), ⟨[], []⟩, .mov (.t 39)⟩,
    ⟨some 41, some (40, true), ⟨[], []⟩, .fld (.t 5) 0⟩,
    ⟨some 42, some (40, true), ⟨[], []⟩, .ld false none 0 0 (.t 41)⟩,
    ⟨some 43, some (40, true), ⟨[], []⟩, .fld (.t 3) 0⟩,
    ⟨some 44, some (40, true), ⟨[], []⟩, .ld false none 0 0 (.t 43)⟩,
    ⟨some 45, some (40, true), ⟨[], []⟩, .bin 0 .neq (.t 42) (.t 44)⟩,
    ⟨some 46, some (40, true), ⟨[], []⟩, .mov (.t 45)⟩,
    ⟨some 47, some (46, false), ⟨[], []⟩, .fld (.t 5) 1⟩,
    ⟨some 48, some (46, false), ⟨[], []⟩, .ld false none 0 0 (.t 47)⟩,
    ⟨some 49, some (46, false), ⟨[], []⟩, .fld (.t 3) 1⟩,
    ⟨some 50, some (46, false), ⟨[], []⟩, .ld false none 0 0 (.t 49)⟩,
    ⟨some 51, some (46, false), ⟨[], []⟩, .bin 0 .neq (.t 48) (.t 50)⟩,
    ⟨some 52, some (40, true), ⟨[], []⟩, .pick (.t 46) (.k (.bool true)) (.t 51)⟩,
    ⟨some 53, some (37, false), ⟨[], []⟩, .pick (.t 40) (.t 52) (.k (.bool false))⟩,
    ⟨some 54, none, ⟨[], []⟩, .pick (.t 37) (.k (.bool true)) (.t 53)⟩] [26, 27, 28, 29, 30, 31, 32, 33, 34, 35, 36, 37, 38, 39, 40, 41, 42, 43, 44, 45, 46, 47, 48, 49, 50, 51, 52, 53] []) (.cond (.t 54) (.seq (.reg false [⟨some 55, none, ⟨[], []⟩, .build [.int .i64 0, .int .i64 0, nilSV, nilSV, nilSV] []⟩,
    ⟨none, none, ⟨[], []⟩, .sto false 5 .i64 (.t 6) (.t 55)⟩,
    ⟨some 7, none, ⟨[], []⟩, .mov (.k (.int .i64 2))⟩] [1, 3, 5, 8, 54, 55] []) (.ret)) (.skip))) (.seq (.reg true [⟨some 56, none, ⟨[], []⟩, .fld (.t 3) 0⟩,
    ⟨some 57, none, ⟨[25], []⟩, .ld false none 0 0 (.t 56)⟩,
    ⟨some 58, none, ⟨[], []⟩, .mov (.t 1)⟩,
    ⟨some 59, none, ⟨[], []⟩, .bin 0 .add (.t 57) (.t 58)⟩,
    ⟨some 60, none, ⟨[], []⟩, .bin 0 .sub (.t 59) (.k (.int .i64 1))⟩,
    ⟨some 61, none, ⟨[], []⟩, .mov (.t 1)⟩,
    ⟨some 62, none, ⟨[], []⟩, .bin 0 .quo (.t 60) (.t 61)⟩,
    ⟨some 63, none, ⟨[], []⟩, .fld (.t 3) 1⟩,
    ⟨some 64, none, ⟨[25], []⟩, .ld false none 0 0 (.t 63)⟩,
    ⟨some 65, none, ⟨[], []⟩, .mov (.t 1)⟩,
    ⟨some 66, none, ⟨[], []⟩, .bin 0 .add (.t 64) (.t 65)⟩,
    ⟨some 67, none, ⟨[], []⟩, .bin 0 .sub (.t 66) (.k (.int .i64 1))⟩,
    ⟨some 68, none, ⟨[], []⟩, .mov (.t 1)⟩,
    ⟨some 69, none, ⟨[], []⟩, .bin 0 .quo (.t 67) (.t 68)⟩,
    ⟨some 70, none, ⟨[25], []⟩, .call (some 4) 21 41 [.t 62, .t 69]⟩,
    ⟨some 9, none, ⟨[], []⟩, .alloc 25 [.int .i64 0, .int .i64 0, nilSV, nilSV, nilSV]⟩,
    ⟨none, none, ⟨[], []⟩, .sto false 5 .i64 (.t 9) (.t 70)⟩] [7, 54, 56, 57, 58, 59, 60, 61, 62, 63, 64, 65, 66, 67, 68, 69, 70] []) (.seq (.reg false [⟨some 71, none, ⟨[], []⟩, .fld (.t 9) 2⟩,
    ⟨some 72, none, ⟨[], []⟩, .ld false none 0 0 (.t 71)⟩,
    ⟨some 73, none, ⟨[], []⟩, .len (.t 72)⟩,
    ⟨some 74, none, ⟨[], []⟩, .mksR 26 [.int .i64 0, .int .i64 0, .int .i64 0, .int .i64 0] 32 (.t 73) (.t 73)⟩,
    ⟨some 10, none, ⟨[], []⟩, .mov (.t 74)⟩] [71, 72, 73, 74] []) (.seq (.seq (.reg false [⟨some 75, none, ⟨[], []⟩, .fld (.t 3) 2⟩,
    ⟨some 76, none, ⟨[], []⟩, .ld false none 0 0 (.t 75)⟩,
    ⟨some 77, none, ⟨[], []⟩, .len (.t 76)⟩,
    ⟨some 78, none, ⟨[], []⟩, .mov (.k (.int .i64 0))⟩] [75, 76] []) (.block 0 (.loop b37_1))) (r37_4)))))))
def kp37_1 : List Nat := [1, 3, 5, 6, 8, 9, 10, 77, 78]
def kl37_1 : List Nat := [27, 28, 29, 30]
attribute [push_cast] kp37_1 kl37_1
def kp37_2 : List Nat := [6, 9, 112, 113, 114]
def kl37_2 : List Nat := [31, 32, 33, 34, 35, 36, 37, 38, 39]
attribute [push_cast] kp37_2 kl37_2
set_option maxRecDepth 4000 in
theorem comp37 : (Try.f37.body.bind fun c => compC tab isP chkAll ir37 c) = some ir37 := by kernel_rfl
structure ShA where
  a : ImA
  k : Int
  b : BmA
def ShA.fit (c : ShA) : Prop := 1 ≤ c.k ∧ c.k ≤ 200 ∧ c.b.b.Ok ∧ ((c.b.b.w = 0 ∧ c.b.b.h = 0) ∨ (c.b.b.w = c.a.i.w ∧ c.b.b.h = c.a.i.h))
instance (c : ShA) : Decidable c.fit := by unfold ShA.fit; infer_instance
def ShA.Ok (c : ShA) : Prop := c.a.i.Ok ∧ c.fit
instance (c : ShA) : Decidable c.Ok := by unfold ShA.Ok; infer_instance
/-- The cell of the small image that a place belongs to. -/
def cellN (W K O m : Nat) : Nat := m / W / K * O + m % W / K
def smG (W K O : Nat) (b : Bm) (f : Nat → Int) (a j : Nat) : Int := if cellN W K O j = a ∧ rd b.xs (j : Nat) = 0 then f j else 0
def smF (W K O : Nat) (b : Bm) (i : Im) (m a : Nat) : Sm :=
  ⟨sumF (smG W K O b (fun j => rd i.R (j : Nat)) a) m, sumF (smG W K O b (fun j => rd i.G (j : Nat)) a) m, sumF (smG W K O b (fun j => rd i.B (j : Nat)) a) m, sumF (smG W K O b (fun _ => 1) a) m⟩
def smL (W K O N : Nat) (b : Bm) (i : Im) (m : Nat) : List Sm := (List.range N).map (smF W K O b i m)
theorem smL_length (W K O N : Nat) (b : Bm) (i : Im) (m : Nat) : (smL W K O N b i m).length = N := by simp [smL]
theorem rdSm_smL {W K O N : Nat} {b : Bm} {i : Im} {m a : Nat} (h : a < N) : rdSm (smL W K O N b i m) a = smF W K O b i m a := by
  simp [rdSm, smL, h]
theorem smL_add {W K O N : Nat} {b : Bm} {i : Im} {m : Nat} (hc : cellN W K O m < N) (h : rd b.xs (m : Nat) = 0) :
    (smL W K O N b i m).set (cellN W K O m) ((smF W K O b i m (cellN W K O m)).plus i m) = smL W K O N b i (m + 1) := by
  refine List.ext_getElem (by simp [smL]) fun a h1 h2 => ?_
  have ha : a < N := by simpa [smL] using h2
  rw [List.getElem_set]
  have e1 : ∀ m, ∀ h : a < (smL W K O N b i m).length, (smL W K O N b i m)[a] = smF W K O b i m a := fun m h => by simp [smL]
  rw [e1, e1]
  unfold smF Sm.plus smG
  simp only [sumF]
  split
  · rename_i e
    subst e
    simp only [h, and_self, if_true]
  · rename_i e
    simp only [e, false_and, if_false, Int.add_zero]
theorem smL_skip {W K O N : Nat} {b : Bm} {i : Im} {m : Nat} (h : ¬ rd b.xs (m : Nat) = 0) : smL W K O N b i m = smL W K O N b i (m + 1) := by
  unfold smL
  refine List.map_congr_left fun a _ => ?_
  unfold smF smG
  simp only [sumF, h, and_false, if_false, Int.add_zero]
theorem smL_zero {W K O N : Nat} {b : Bm} {i : Im} : (smL W K O N b i 0).map Sm.rc = List.replicate N zS := by
  refine List.ext_getElem (by simp [smL]) fun a h1 h2 => ?_
  simp [smL, smF, sumF, Sm.rc, zS]
theorem smF_bd {W K O : Nat} {b : Bm} {i : Im} (hi : i.Ok) {m : Nat} (hm : m ≤ i.R.length) (a : Nat) :
    let s := smF W K O b i m a
    (0 ≤ s.r ∧ s.r ≤ 2088960) ∧ (0 ≤ s.g ∧ s.g ≤ 2088960) ∧ (0 ≤ s.b ∧ s.b ≤ 2088960) ∧ 0 ≤ s.n ∧ s.n ≤ 8192 := by
  obtain ⟨v1, v2, v3⟩ := hi.val
  have hl : (i.R.length : Int) = i.w * i.h := hi.2.1.1
  have hs : SidesOk i.w i.h := hi.1
  have h5 := hs.2.2.2.2
  have key : ∀ (f : Nat → Int) (B : Int), 0 ≤ B → (∀ j, j < m → 0 ≤ f j ∧ f j ≤ B) → ∀ j, j < m → 0 ≤ smG W K O b f a j ∧ smG W K O b f a j ≤ B := fun f B hB h j hj => by
    unfold smG
    split
    · exact h j hj
    · exact ⟨Int.le_refl _, hB⟩
  have k1 := sumF_bd (key (fun j => rd i.R (j : Nat)) 255 (by decide) fun j hj => (v3 j (by omega)).1)
  have k2 := sumF_bd (key (fun j => rd i.G (j : Nat)) 255 (by decide) fun j hj => (v3 j (by omega)).2.1)
  have k3 := sumF_bd (key (fun j => rd i.B (j : Nat)) 255 (by decide) fun j hj => (v3 j (by omega)).2.2)
  have k4 := sumF_bd (key (fun _ => 1) 1 (by decide) fun j hj => ⟨by decide, Int.le_refl _⟩)
  simp only [smF]
  refine ⟨⟨k1.1, ?_⟩, ⟨k2.1, ?_⟩, ⟨k3.1, ?_⟩, k4.1, ?_⟩ <;> omega
/-- How many cells a line has. -/
def ceilN (w : Int) (k : Int) : Nat := ((w + k - 1) / k).toNat
def shO (n s : Int) : Int := if n = 0 then 255 else meanI s n
def shF (c : ShA) (f : Sm → Int) (a : Nat) : Int :=
  let s := smF c.a.i.w.toNat c.k.toNat (ceilN c.a.i.w c.k) c.b.b c.a.i c.a.i.R.length a
  shO s.n (f s)
def shL (c : ShA) (f : Sm → Int) : List Int := tabl (ceilN c.a.i.w c.k * ceilN c.a.i.h c.k) (shF c f)
def shrI (c : ShA) : Im := if c.Ok then ⟨ceilN c.a.i.w c.k, ceilN c.a.i.h c.k, shL c Sm.r, shL c Sm.g, shL c Sm.b⟩ else im0
theorem ceil_bd {w k : Int} (hw : 0 ≤ w) (hk : 1 ≤ k) : 0 ≤ (w + k - 1) / k ∧ (w + k - 1) / k ≤ w ∧ ∀ x, 0 ≤ x → x < w → 0 ≤ x / k ∧ x / k < (w + k - 1) / k := by
  refine ⟨Int.ediv_nonneg (by omega) (by omega), ?_, fun x h0 h1 => ⟨Int.ediv_nonneg h0 (by omega), ?_⟩⟩
  · rcases Int.lt_or_eq_of_le hw with h | h
    · refine Int.ediv_le_of_le_mul (by omega) ?_
      have := Int.mul_nonneg (show 0 ≤ w - 1 by omega) (show 0 ≤ k - 1 by omega)
      rw [Int.sub_mul, Int.mul_sub, Int.one_mul] at this
      omega
    · have h0 : w = 0 := h.symm
      rw [h0, Int.ediv_eq_zero_of_lt (by omega) (by omega)]
      exact Int.le_refl _
  · have h2 : (x + 1 * k) / k = x / k + 1 := Int.add_mul_ediv_right x 1 (by omega)
    have h3 : (x + 1 * k) / k ≤ (w + k - 1) / k := Int.ediv_le_ediv (by omega) (by omega)
    omega
def fs37 : FS where
  A := ShA
  args := fun c => [imV c.a.i c.a.L1 c.a.L2 c.a.L3 0, .int .i64 c.k, bmV c.b.b c.b.L 3]
  mem := fun c => imM c.a.i c.a.L1 c.a.L2 c.a.L3 ++ [some (.ro, c.b.L, .ints .u8 c.b.b.xs)]
  pre := fun c => c.a.i.small ∧ c.b.b.xs.length ≤ 140737488355328 ∧ ∀ n, n ∈ c.b.b.xs → 0 ≤ n
  res := fun c x => .tup [imV (shrI c) (lx c.Ok x 0) (lx c.Ok x 1) (lx c.Ok x 2) 4, .int .i64 (if c.Ok then 0 else if c.a.i.Ok then 2 else 75)]
  out := fun _ _ => []
  new := fun c x => imN (shrI c) (lx c.Ok x)
def inv37 : List SV → Look → Option (ShA × List Nat)
  | [v, .int .i64 k, u], look => match getI look v, getB look u with
    | some (a, g), some (b, g') => some (⟨a, k, b⟩, g ++ g')
    | _, _ => none
  | _, _ => none
attribute [push_cast] inv37
end Go.Proofs.Ytnmbimhcfioeiaa
