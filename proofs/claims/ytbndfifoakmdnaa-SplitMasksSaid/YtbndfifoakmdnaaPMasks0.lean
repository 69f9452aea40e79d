import Derived.Test.YtbndfifoakmdnaaKc
import Derived.Test.YtbndfifoakmdnaaProg
import Derived.Test.YtbndfifoakmdnaaChecked
import Derived.ChangeArms
import Derived.ChangeSlices
set_option linter.unusedVariables false
set_option linter.unusedSimpArgs false
set_option maxRecDepth 1000
namespace Go.Proofs.Ytbndfifoakmdnaa
open Xf
def tab : Tab := fun t => match t with
  | 2 => some ⟨1, 8, [.int .i64 0], .int .i64, none⟩
  | 3 => some ⟨1, 8, [.int .i64 0], .int .i64, none⟩
  | 4 => some ⟨1, 1, [.bool false], .bool, none⟩
  | 5 => some ⟨1, 1, [.int .u8 0], .int .u8, none⟩
  | 6 => some ⟨1, 1, [.int .u8 0], .int .u8, none⟩
  | 7 => some ⟨4, 24, [.int .i64 0, .int .i64 0, .bool false, .int .u8 0], .struct [(0, 2), (1, 3), (2, 4), (3, 6)], (some [true, true, false, true])⟩
  | 8 => some ⟨4, 24, [.int .i64 0, .int .i64 0, .bool false, .int .u8 0], .struct [(0, 2), (1, 3), (2, 4), (3, 6)], (some [true, true, false, true])⟩
  | 9 => some ⟨1, 16, [.val (.string ⟨#[]⟩)], .string, none⟩
  | 12 => some ⟨1, 8, [.int .u64 0], .int .u64, none⟩
  | 13 => some ⟨2, 24, [.val (.string ⟨#[]⟩), .int .u64 0], .struct [(0, 9), (1, 12)], none⟩
  | 14 => some ⟨2, 24, [.val (.string ⟨#[]⟩), .int .u64 0], .struct [(0, 9), (1, 12)], none⟩
  | 15 => some ⟨1, 8, [.val (.pointer none)], .pointer, none⟩
  | 16 => some ⟨1, 8, [.val (.pointer none)], .pointer, none⟩
  | 17 => some ⟨1, 8, [.val (.pointer none)], .pointer, none⟩
  | 18 => some ⟨1, 8, [.val (.pointer none)], .struct [(0, 17)], none⟩
  | 19 => some ⟨1, 8, [.val (.pointer none)], .struct [(0, 17)], none⟩
  | 21 => some ⟨1, 4, [.int .i32 0], .int .i32, none⟩
  | 22 => some ⟨1, 24, [nilSV], .slice 3, none⟩
  | 23 => some ⟨3, 40, [.int .i64 0, .int .i64 0, nilSV], .struct [(0, 3), (1, 3), (2, 22)], none⟩
  | 24 => some ⟨3, 40, [.int .i64 0, .int .i64 0, nilSV], .struct [(0, 3), (1, 3), (2, 22)], none⟩
  | 25 => some ⟨4, 32, [.int .i64 0, .int .i64 0, .int .i64 0, .int .i64 0], .struct [(0, 3), (1, 3), (2, 3), (3, 3)], (some [true, true, true, true])⟩
  | 26 => some ⟨4, 32, [.int .i64 0, .int .i64 0, .int .i64 0, .int .i64 0], .struct [(0, 3), (1, 3), (2, 3), (3, 3)], (some [true, true, true, true])⟩
  | 29 => some ⟨1, 24, [nilSV], .slice 34, none⟩
  | 30 => some ⟨1, 8, [.int .i64 0], .int .i64, none⟩
  | 33 => some ⟨5, 40, [.int .i64 0, .int .i64 0, .int .i64 0, .int .i64 0, .int .i64 0], .struct [(0, 3), (1, 3), (2, 3), (3, 3), (4, 3)], (some [true, true, true, true, true])⟩
  | 34 => some ⟨5, 40, [.int .i64 0, .int .i64 0, .int .i64 0, .int .i64 0, .int .i64 0], .struct [(0, 3), (1, 3), (2, 3), (3, 3), (4, 3)], (some [true, true, true, true, true])⟩
  | 43 => some ⟨1, 24, [nilSV], .slice 5, none⟩
  | 44 => some ⟨3, 40, [.int .i64 0, .int .i64 0, nilSV], .struct [(0, 3), (1, 3), (2, 43)], none⟩
  | 45 => some ⟨3, 40, [.int .i64 0, .int .i64 0, nilSV], .struct [(0, 3), (1, 3), (2, 43)], none⟩
  | 55 => some ⟨4, 32, [.int .i64 0, .int .i64 0, .int .i64 0, .int .i64 0], .struct [(0, 3), (1, 3), (2, 3), (3, 3)], (some [true, true, true, true])⟩
  | 56 => some ⟨4, 32, [.int .i64 0, .int .i64 0, .int .i64 0, .int .i64 0], .struct [(0, 3), (1, 3), (2, 3), (3, 3)], (some [true, true, true, true])⟩
  | 60 => some ⟨3, 24, [.int .i64 0, .int .i64 0, .int .i64 0], .array 3 3, (some [true, true, true])⟩
  | 80 => some ⟨1, 24, [nilSV], .slice 56, none⟩
  | 88 => some ⟨1, 8, [.val (.pointer none)], .pointer, none⟩
  | 89 => some ⟨2, 32, [nilSV, .int .i64 0], .struct [(0, 29), (1, 3)], none⟩
  | 90 => some ⟨2, 32, [nilSV, .int .i64 0], .struct [(0, 29), (1, 3)], none⟩
  | 100 => some ⟨4, 40, [.val (.pointer none), .val (.pointer none), .val (.pointer none), .val (.string ⟨#[]⟩)], .struct [(0, 17), (1, 17), (2, 17), (3, 9)], none⟩
  | 101 => some ⟨4, 40, [.val (.pointer none), .val (.pointer none), .val (.pointer none), .val (.string ⟨#[]⟩)], .struct [(0, 17), (1, 17), (2, 17), (3, 9)], none⟩
  | 102 => some ⟨0, 0, [], .array 0 16, none⟩
  | 103 => some ⟨0, 0, [], .struct [(0, 102)], none⟩
  | 104 => some ⟨0, 0, [], .struct [(0, 102)], none⟩
  | 106 => some ⟨1, 4, [.int .u32 0], .int .u32, none⟩
  | 107 => some ⟨1, 1, [.int .u8 0], .int .u8, none⟩
  | 108 => some ⟨1, 1, [.int .u8 0], .int .u8, none⟩
  | 110 => some ⟨1, 8, [.val (.pointer none)], .pointer, none⟩
  | 111 => some ⟨1, 4, [.int .i32 0], .int .i32, none⟩
  | 112 => some ⟨1, 4, [.int .i32 0], .int .i32, none⟩
  | 113 => some ⟨11, 48, [.int .u64 0, .int .u64 0, .int .u32 0, .int .u8 0, .int .u8 0, .int .u8 0, .int .u8 0, .val .nilFunc, .val (.pointer none), .int .i32 0, .int .i32 0], .struct [(0, 12), (1, 12), (2, 106), (3, 107), (4, 5), (5, 5), (6, 108), (7, 109), (8, 110), (9, 111), (10, 112)], none⟩
  | 114 => some ⟨11, 48, [.int .u64 0, .int .u64 0, .int .u32 0, .int .u8 0, .int .u8 0, .int .u8 0, .int .u8 0, .val .nilFunc, .val (.pointer none), .int .i32 0, .int .i32 0], .struct [(0, 12), (1, 12), (2, 106), (3, 107), (4, 5), (5, 5), (6, 108), (7, 109), (8, 110), (9, 111), (10, 112)], none⟩
  | _ => none
theorem tt2 : TtOk Try.prog 2 ⟨1, 8, [.int .i64 0], .int .i64, none⟩ := TtOk.of (z := .int .i64 0) (by kernel_rfl) (by kernel_rfl) (by simp [Dens, Den, nilSV, nilLoc0, Value.cells]) (by simp [TT.agg, Value.cells]) Try.underlying2 (by first | exact ⟨_, rfl, rfl⟩ | rfl | exact ⟨_, rfl⟩) (by first | rfl | kernel_rfl) rfl
theorem tt3 : TtOk Try.prog 3 ⟨1, 8, [.int .i64 0], .int .i64, none⟩ := TtOk.of (z := .int .i64 0) (by kernel_rfl) (by kernel_rfl) (by simp [Dens, Den, nilSV, nilLoc0, Value.cells]) (by simp [TT.agg, Value.cells]) Try.underlying3 (by first | exact ⟨_, rfl, rfl⟩ | rfl | exact ⟨_, rfl⟩) (by first | rfl | kernel_rfl) rfl
theorem tt4 : TtOk Try.prog 4 ⟨1, 1, [.bool false], .bool, none⟩ := TtOk.of (z := .bool false) (by kernel_rfl) (by kernel_rfl) (by simp [Dens, Den, nilSV, nilLoc0, Value.cells]) (by simp [TT.agg, Value.cells]) Try.underlying4 (by first | exact ⟨_, rfl, rfl⟩ | rfl | exact ⟨_, rfl⟩) (by first | rfl | kernel_rfl) rfl
theorem tt5 : TtOk Try.prog 5 ⟨1, 1, [.int .u8 0], .int .u8, none⟩ := TtOk.of (z := .int .u8 0) (by kernel_rfl) (by kernel_rfl) (by simp [Dens, Den, nilSV, nilLoc0, Value.cells]) (by simp [TT.agg, Value.cells]) Try.underlying5 (by first | exact ⟨_, rfl, rfl⟩ | rfl | exact ⟨_, rfl⟩) (by first | rfl | kernel_rfl) rfl
theorem tt6 : TtOk Try.prog 6 ⟨1, 1, [.int .u8 0], .int .u8, none⟩ := TtOk.of (z := .int .u8 0) (by kernel_rfl) (by kernel_rfl) (by simp [Dens, Den, nilSV, nilLoc0, Value.cells]) (by simp [TT.agg, Value.cells]) Try.underlying6 (by first | exact ⟨_, rfl, rfl⟩ | rfl | exact ⟨_, rfl⟩) (by first | rfl | kernel_rfl) rfl
theorem tt7 : TtOk Try.prog 7 ⟨4, 24, [.int .i64 0, .int .i64 0, .bool false, .int .u8 0], .struct [(0, 2), (1, 3), (2, 4), (3, 6)], (some [true, true, false, true])⟩ := TtOk.of (z := .agg #[.int .i64 0, .int .i64 0, .bool false, .int .u8 0]) (by kernel_rfl) (by kernel_rfl) (by simp [Dens, Den, nilSV, nilLoc0, Value.cells]) (by simp [TT.agg, Value.cells]) Try.underlying7 (by first | exact ⟨_, rfl, rfl⟩ | rfl | exact ⟨_, rfl⟩) (by first | rfl | kernel_rfl) rfl
theorem tt8 : TtOk Try.prog 8 ⟨4, 24, [.int .i64 0, .int .i64 0, .bool false, .int .u8 0], .struct [(0, 2), (1, 3), (2, 4), (3, 6)], (some [true, true, false, true])⟩ := TtOk.of (z := .agg #[.int .i64 0, .int .i64 0, .bool false, .int .u8 0]) (by kernel_rfl) (by kernel_rfl) (by simp [Dens, Den, nilSV, nilLoc0, Value.cells]) (by simp [TT.agg, Value.cells]) Try.underlying8 (by first | exact ⟨_, rfl, rfl⟩ | rfl | exact ⟨_, rfl⟩) (by first | rfl | kernel_rfl) rfl
theorem tt9 : TtOk Try.prog 9 ⟨1, 16, [.val (.string ⟨#[]⟩)], .string, none⟩ := TtOk.of (z := .string ⟨#[]⟩) (by kernel_rfl) (by kernel_rfl) (by simp [Dens, Den, nilSV, nilLoc0, Value.cells]) (by simp [TT.agg, Value.cells]) Try.underlying9 (by first | exact ⟨_, rfl, rfl⟩ | rfl | exact ⟨_, rfl⟩) (by first | rfl | kernel_rfl) rfl
theorem tt12 : TtOk Try.prog 12 ⟨1, 8, [.int .u64 0], .int .u64, none⟩ := TtOk.of (z := .int .u64 0) (by kernel_rfl) (by kernel_rfl) (by simp [Dens, Den, nilSV, nilLoc0, Value.cells]) (by simp [TT.agg, Value.cells]) Try.underlying12 (by first | exact ⟨_, rfl, rfl⟩ | rfl | exact ⟨_, rfl⟩) (by first | rfl | kernel_rfl) rfl
theorem tt13 : TtOk Try.prog 13 ⟨2, 24, [.val (.string ⟨#[]⟩), .int .u64 0], .struct [(0, 9), (1, 12)], none⟩ := TtOk.of (z := .agg #[.string ⟨#[]⟩, .int .u64 0]) (by kernel_rfl) (by kernel_rfl) (by simp [Dens, Den, nilSV, nilLoc0, Value.cells]) (by simp [TT.agg, Value.cells]) Try.underlying13 (by first | exact ⟨_, rfl, rfl⟩ | rfl | exact ⟨_, rfl⟩) (by first | rfl | kernel_rfl) rfl
theorem tt14 : TtOk Try.prog 14 ⟨2, 24, [.val (.string ⟨#[]⟩), .int .u64 0], .struct [(0, 9), (1, 12)], none⟩ := TtOk.of (z := .agg #[.string ⟨#[]⟩, .int .u64 0]) (by kernel_rfl) (by kernel_rfl) (by simp [Dens, Den, nilSV, nilLoc0, Value.cells]) (by simp [TT.agg, Value.cells]) Try.underlying14 (by first | exact ⟨_, rfl, rfl⟩ | rfl | exact ⟨_, rfl⟩) (by first | rfl | kernel_rfl) rfl
theorem tt15 : TtOk Try.prog 15 ⟨1, 8, [.val (.pointer none)], .pointer, none⟩ := TtOk.of (z := .pointer none) (by kernel_rfl) (by kernel_rfl) (by simp [Dens, Den, nilSV, nilLoc0, Value.cells]) (by simp [TT.agg, Value.cells]) Try.underlying15 (by first | exact ⟨_, rfl, rfl⟩ | rfl | exact ⟨_, rfl⟩) (by first | rfl | kernel_rfl) rfl
theorem tt16 : TtOk Try.prog 16 ⟨1, 8, [.val (.pointer none)], .pointer, none⟩ := TtOk.of (z := .pointer none) (by kernel_rfl) (by kernel_rfl) (by simp [Dens, Den, nilSV, nilLoc0, Value.cells]) (by simp [TT.agg, Value.cells]) Try.underlying16 (by first | exact ⟨_, rfl, rfl⟩ | rfl | exact ⟨_, rfl⟩) (by first | rfl | kernel_rfl) rfl
theorem tt17 : TtOk Try.prog 17 ⟨1, 8, [.val (.pointer none)], .pointer, none⟩ := TtOk.of (z := .pointer none) (by kernel_rfl) (by kernel_rfl) (by simp [Dens, Den, nilSV, nilLoc0, Value.cells]) (by simp [TT.agg, Value.cells]) Try.underlying17 (by first | exact ⟨_, rfl, rfl⟩ | rfl | exact ⟨_, rfl⟩) (by first | rfl | kernel_rfl) rfl
theorem tt18 : TtOk Try.prog 18 ⟨1, 8, [.val (.pointer none)], .struct [(0, 17)], none⟩ := TtOk.of (z := .agg #[.pointer none]) (by kernel_rfl) (by kernel_rfl) (by simp [Dens, Den, nilSV, nilLoc0, Value.cells]) (by simp [TT.agg, Value.cells]) Try.underlying18 (by first | exact ⟨_, rfl, rfl⟩ | rfl | exact ⟨_, rfl⟩) (by first | rfl | kernel_rfl) rfl
theorem tt19 : TtOk Try.prog 19 ⟨1, 8, [.val (.pointer none)], .struct [(0, 17)], none⟩ := TtOk.of (z := .agg #[.pointer none]) (by kernel_rfl) (by kernel_rfl) (by simp [Dens, Den, nilSV, nilLoc0, Value.cells]) (by simp [TT.agg, Value.cells]) Try.underlying19 (by first | exact ⟨_, rfl, rfl⟩ | rfl | exact ⟨_, rfl⟩) (by first | rfl | kernel_rfl) rfl
theorem tt21 : TtOk Try.prog 21 ⟨1, 4, [.int .i32 0], .int .i32, none⟩ := TtOk.of (z := .int .i32 0) (by kernel_rfl) (by kernel_rfl) (by simp [Dens, Den, nilSV, nilLoc0, Value.cells]) (by simp [TT.agg, Value.cells]) Try.underlying21 (by first | exact ⟨_, rfl, rfl⟩ | rfl | exact ⟨_, rfl⟩) (by first | rfl | kernel_rfl) rfl
theorem tt22 : TtOk Try.prog 22 ⟨1, 24, [nilSV], .slice 3, none⟩ := TtOk.of (z := .slice none 0 0) (by kernel_rfl) (by kernel_rfl) (by simp [Dens, Den, nilSV, nilLoc0, Value.cells]) (by simp [TT.agg, Value.cells]) Try.underlying22 (by first | exact ⟨_, rfl, rfl⟩ | rfl | exact ⟨_, rfl⟩) (by first | rfl | kernel_rfl) rfl
theorem tt23 : TtOk Try.prog 23 ⟨3, 40, [.int .i64 0, .int .i64 0, nilSV], .struct [(0, 3), (1, 3), (2, 22)], none⟩ := TtOk.of (z := .agg #[.int .i64 0, .int .i64 0, .slice none 0 0]) (by kernel_rfl) (by kernel_rfl) (by simp [Dens, Den, nilSV, nilLoc0, Value.cells]) (by simp [TT.agg, Value.cells]) Try.underlying23 (by first | exact ⟨_, rfl, rfl⟩ | rfl | exact ⟨_, rfl⟩) (by first | rfl | kernel_rfl) rfl
theorem tt24 : TtOk Try.prog 24 ⟨3, 40, [.int .i64 0, .int .i64 0, nilSV], .struct [(0, 3), (1, 3), (2, 22)], none⟩ := TtOk.of (z := .agg #[.int .i64 0, .int .i64 0, .slice none 0 0]) (by kernel_rfl) (by kernel_rfl) (by simp [Dens, Den, nilSV, nilLoc0, Value.cells]) (by simp [TT.agg, Value.cells]) Try.underlying24 (by first | exact ⟨_, rfl, rfl⟩ | rfl | exact ⟨_, rfl⟩) (by first | rfl | kernel_rfl) rfl
theorem tt25 : TtOk Try.prog 25 ⟨4, 32, [.int .i64 0, .int .i64 0, .int .i64 0, .int .i64 0], .struct [(0, 3), (1, 3), (2, 3), (3, 3)], (some [true, true, true, true])⟩ := TtOk.of (z := .agg #[.int .i64 0, .int .i64 0, .int .i64 0, .int .i64 0]) (by kernel_rfl) (by kernel_rfl) (by simp [Dens, Den, nilSV, nilLoc0, Value.cells]) (by simp [TT.agg, Value.cells]) Try.underlying25 (by first | exact ⟨_, rfl, rfl⟩ | rfl | exact ⟨_, rfl⟩) (by first | rfl | kernel_rfl) rfl
theorem tt26 : TtOk Try.prog 26 ⟨4, 32, [.int .i64 0, .int .i64 0, .int .i64 0, .int .i64 0], .struct [(0, 3), (1, 3), (2, 3), (3, 3)], (some [true, true, true, true])⟩ := TtOk.of (z := .agg #[.int .i64 0, .int .i64 0, .int .i64 0, .int .i64 0]) (by kernel_rfl) (by kernel_rfl) (by simp [Dens, Den, nilSV, nilLoc0, Value.cells]) (by simp [TT.agg, Value.cells]) Try.underlying26 (by first | exact ⟨_, rfl, rfl⟩ | rfl | exact ⟨_, rfl⟩) (by first | rfl | kernel_rfl) rfl
theorem tt29 : TtOk Try.prog 29 ⟨1, 24, [nilSV], .slice 34, none⟩ := TtOk.of (z := .slice none 0 0) (by kernel_rfl) (by kernel_rfl) (by simp [Dens, Den, nilSV, nilLoc0, Value.cells]) (by simp [TT.agg, Value.cells]) Try.underlying29 (by first | exact ⟨_, rfl, rfl⟩ | rfl | exact ⟨_, rfl⟩) (by first | rfl | kernel_rfl) rfl
theorem tt30 : TtOk Try.prog 30 ⟨1, 8, [.int .i64 0], .int .i64, none⟩ := TtOk.of (z := .int .i64 0) (by kernel_rfl) (by kernel_rfl) (by simp [Dens, Den, nilSV, nilLoc0, Value.cells]) (by simp [TT.agg, Value.cells]) Try.underlying30 (by first | exact ⟨_, rfl, rfl⟩ | rfl | exact ⟨_, rfl⟩) (by first | rfl | kernel_rfl) rfl
theorem tt33 : TtOk Try.prog 33 ⟨5, 40, [.int .i64 0, .int .i64 0, .int .i64 0, .int .i64 0, .int .i64 0], .struct [(0, 3), (1, 3), (2, 3), (3, 3), (4, 3)], (some [true, true, true, true, true])⟩ := TtOk.of (z := .agg #[.int .i64 0, .int .i64 0, .int .i64 0, .int .i64 0, .int .i64 0]) (by kernel_rfl) (by kernel_rfl) (by simp [Dens, Den, nilSV, nilLoc0, Value.cells]) (by simp [TT.agg, Value.cells]) Try.underlying33 (by first | exact ⟨_, rfl, rfl⟩ | rfl | exact ⟨_, rfl⟩) (by first | rfl | kernel_rfl) rfl
theorem tt34 : TtOk Try.prog 34 ⟨5, 40, [.int .i64 0, .int .i64 0, .int .i64 0, .int .i64 0, .int .i64 0], .struct [(0, 3), (1, 3), (2, 3), (3, 3), (4, 3)], (some [true, true, true, true, true])⟩ := TtOk.of (z := .agg #[.int .i64 0, .int .i64 0, .int .i64 0, .int .i64 0, .int .i64 0]) (by kernel_rfl) (by kernel_rfl) (by simp [Dens, Den, nilSV, nilLoc0, Value.cells]) (by simp [TT.agg, Value.cells]) Try.underlying34 (by first | exact ⟨_, rfl, rfl⟩ | rfl | exact ⟨_, rfl⟩) (by first | rfl | kernel_rfl) rfl
theorem tt43 : TtOk Try.prog 43 ⟨1, 24, [nilSV], .slice 5, none⟩ := TtOk.of (z := .slice none 0 0) (by kernel_rfl) (by kernel_rfl) (by simp [Dens, Den, nilSV, nilLoc0, Value.cells]) (by simp [TT.agg, Value.cells]) Try.underlying43 (by first | exact ⟨_, rfl, rfl⟩ | rfl | exact ⟨_, rfl⟩) (by first | rfl | kernel_rfl) rfl
theorem tt44 : TtOk Try.prog 44 ⟨3, 40, [.int .i64 0, .int .i64 0, nilSV], .struct [(0, 3), (1, 3), (2, 43)], none⟩ := TtOk.of (z := .agg #[.int .i64 0, .int .i64 0, .slice none 0 0]) (by kernel_rfl) (by kernel_rfl) (by simp [Dens, Den, nilSV, nilLoc0, Value.cells]) (by simp [TT.agg, Value.cells]) Try.underlying44 (by first | exact ⟨_, rfl, rfl⟩ | rfl | exact ⟨_, rfl⟩) (by first | rfl | kernel_rfl) rfl
theorem tt45 : TtOk Try.prog 45 ⟨3, 40, [.int .i64 0, .int .i64 0, nilSV], .struct [(0, 3), (1, 3), (2, 43)], none⟩ := TtOk.of (z := .agg #[.int .i64 0, .int .i64 0, .slice none 0 0]) (by kernel_rfl) (by kernel_rfl) (by simp [Dens, Den, nilSV, nilLoc0, Value.cells]) (by simp [TT.agg, Value.cells]) Try.underlying45 (by first | exact ⟨_, rfl, rfl⟩ | rfl | exact ⟨_, rfl⟩) (by first | rfl | kernel_rfl) rfl
theorem tt55 : TtOk Try.prog 55 ⟨4, 32, [.int .i64 0, .int .i64 0, .int .i64 0, .int .i64 0], .struct [(0, 3), (1, 3), (2, 3), (3, 3)], (some [true, true, true, true])⟩ := TtOk.of (z := .agg #[.int .i64 0, .int .i64 0, .int .i64 0, .int .i64 0]) (by kernel_rfl) (by kernel_rfl) (by simp [Dens, Den, nilSV, nilLoc0, Value.cells]) (by simp [TT.agg, Value.cells]) Try.underlying55 (by first | exact ⟨_, rfl, rfl⟩ | rfl | exact ⟨_, rfl⟩) (by first | rfl | kernel_rfl) rfl
theorem tt56 : TtOk Try.prog 56 ⟨4, 32, [.int .i64 0, .int .i64 0, .int .i64 0, .int .i64 0], .struct [(0, 3), (1, 3), (2, 3), (3, 3)], (some [true, true, true, true])⟩ := TtOk.of (z := .agg #[.int .i64 0, .int .i64 0, .int .i64 0, .int .i64 0]) (by kernel_rfl) (by kernel_rfl) (by simp [Dens, Den, nilSV, nilLoc0, Value.cells]) (by simp [TT.agg, Value.cells]) Try.underlying56 (by first | exact ⟨_, rfl, rfl⟩ | rfl | exact ⟨_, rfl⟩) (by first | rfl | kernel_rfl) rfl
theorem tt60 : TtOk Try.prog 60 ⟨3, 24, [.int .i64 0, .int .i64 0, .int .i64 0], .array 3 3, (some [true, true, true])⟩ := TtOk.of (z := .agg #[.int .i64 0, .int .i64 0, .int .i64 0]) (by kernel_rfl) (by kernel_rfl) (by simp [Dens, Den, nilSV, nilLoc0, Value.cells]) (by simp [TT.agg, Value.cells]) Try.underlying60 (by first | exact ⟨_, rfl, rfl⟩ | rfl | exact ⟨_, rfl⟩) (by first | rfl | kernel_rfl) rfl
theorem tt80 : TtOk Try.prog 80 ⟨1, 24, [nilSV], .slice 56, none⟩ := TtOk.of (z := .slice none 0 0) (by kernel_rfl) (by kernel_rfl) (by simp [Dens, Den, nilSV, nilLoc0, Value.cells]) (by simp [TT.agg, Value.cells]) Try.underlying80 (by first | exact ⟨_, rfl, rfl⟩ | rfl | exact ⟨_, rfl⟩) (by first | rfl | kernel_rfl) rfl
theorem tt88 : TtOk Try.prog 88 ⟨1, 8, [.val (.pointer none)], .pointer, none⟩ := TtOk.of (z := .pointer none) (by kernel_rfl) (by kernel_rfl) (by simp [Dens, Den, nilSV, nilLoc0, Value.cells]) (by simp [TT.agg, Value.cells]) Try.underlying88 (by first | exact ⟨_, rfl, rfl⟩ | rfl | exact ⟨_, rfl⟩) (by first | rfl | kernel_rfl) rfl
theorem tt89 : TtOk Try.prog 89 ⟨2, 32, [nilSV, .int .i64 0], .struct [(0, 29), (1, 3)], none⟩ := TtOk.of (z := .agg #[.slice none 0 0, .int .i64 0]) (by kernel_rfl) (by kernel_rfl) (by simp [Dens, Den, nilSV, nilLoc0, Value.cells]) (by simp [TT.agg, Value.cells]) Try.underlying89 (by first | exact ⟨_, rfl, rfl⟩ | rfl | exact ⟨_, rfl⟩) (by first | rfl | kernel_rfl) rfl
theorem tt90 : TtOk Try.prog 90 ⟨2, 32, [nilSV, .int .i64 0], .struct [(0, 29), (1, 3)], none⟩ := TtOk.of (z := .agg #[.slice none 0 0, .int .i64 0]) (by kernel_rfl) (by kernel_rfl) (by simp [Dens, Den, nilSV, nilLoc0, Value.cells]) (by simp [TT.agg, Value.cells]) Try.underlying90 (by first | exact ⟨_, rfl, rfl⟩ | rfl | exact ⟨_, rfl⟩) (by first | rfl | kernel_rfl) rfl
theorem tt100 : TtOk Try.prog 100 ⟨4, 40, [.val (.pointer none), .val (.pointer none), .val (.pointer none), .val (.string ⟨#[]⟩)], .struct [(0, 17), (1, 17), (2, 17), (3, 9)], none⟩ := TtOk.of (z := .agg #[.pointer none, .pointer none, .pointer none, .string ⟨#[]⟩]) (by kernel_rfl) (by kernel_rfl) (by simp [Dens, Den, nilSV, nilLoc0, Value.cells]) (by simp [TT.agg, Value.cells]) Try.underlying100 (by first | exact ⟨_, rfl, rfl⟩ | rfl | exact ⟨_, rfl⟩) (by first | rfl | kernel_rfl) rfl
theorem tt101 : TtOk Try.prog 101 ⟨4, 40, [.val (.pointer none), .val (.pointer none), .val (.pointer none), .val (.string ⟨#[]⟩)], .struct [(0, 17), (1, 17), (2, 17), (3, 9)], none⟩ := TtOk.of (z := .agg #[.pointer none, .pointer none, .pointer none, .string ⟨#[]⟩]) (by kernel_rfl) (by kernel_rfl) (by simp [Dens, Den, nilSV, nilLoc0, Value.cells]) (by simp [TT.agg, Value.cells]) Try.underlying101 (by first | exact ⟨_, rfl, rfl⟩ | rfl | exact ⟨_, rfl⟩) (by first | rfl | kernel_rfl) rfl
theorem tt102 : TtOk Try.prog 102 ⟨0, 0, [], .array 0 16, none⟩ := TtOk.of (z := .agg #[]) (by kernel_rfl) (by kernel_rfl) (by simp [Dens, Den, nilSV, nilLoc0, Value.cells]) (by simp [TT.agg, Value.cells]) Try.underlying102 (by first | exact ⟨_, rfl, rfl⟩ | rfl | exact ⟨_, rfl⟩) (by first | rfl | kernel_rfl) rfl
theorem tt103 : TtOk Try.prog 103 ⟨0, 0, [], .struct [(0, 102)], none⟩ := TtOk.of (z := .agg #[]) (by kernel_rfl) (by kernel_rfl) (by simp [Dens, Den, nilSV, nilLoc0, Value.cells]) (by simp [TT.agg, Value.cells]) Try.underlying103 (by first | exact ⟨_, rfl, rfl⟩ | rfl | exact ⟨_, rfl⟩) (by first | rfl | kernel_rfl) rfl
theorem tt104 : TtOk Try.prog 104 ⟨0, 0, [], .struct [(0, 102)], none⟩ := TtOk.of (z := .agg #[]) (by kernel_rfl) (by kernel_rfl) (by simp [Dens, Den, nilSV, nilLoc0, Value.cells]) (by simp [TT.agg, Value.cells]) Try.underlying104 (by first | exact ⟨_, rfl, rfl⟩ | rfl | exact ⟨_, rfl⟩) (by first | rfl | kernel_rfl) rfl
theorem tt106 : TtOk Try.prog 106 ⟨1, 4, [.int .u32 0], .int .u32, none⟩ := TtOk.of (z := .int .u32 0) (by kernel_rfl) (by kernel_rfl) (by simp [Dens, Den, nilSV, nilLoc0, Value.cells]) (by simp [TT.agg, Value.cells]) Try.underlying106 (by first | exact ⟨_, rfl, rfl⟩ | rfl | exact ⟨_, rfl⟩) (by first | rfl | kernel_rfl) rfl
theorem tt107 : TtOk Try.prog 107 ⟨1, 1, [.int .u8 0], .int .u8, none⟩ := TtOk.of (z := .int .u8 0) (by kernel_rfl) (by kernel_rfl) (by simp [Dens, Den, nilSV, nilLoc0, Value.cells]) (by simp [TT.agg, Value.cells]) Try.underlying107 (by first | exact ⟨_, rfl, rfl⟩ | rfl | exact ⟨_, rfl⟩) (by first | rfl | kernel_rfl) rfl
theorem tt108 : TtOk Try.prog 108 ⟨1, 1, [.int .u8 0], .int .u8, none⟩ := TtOk.of (z := .int .u8 0) (by kernel_rfl) (by kernel_rfl) (by simp [Dens, Den, nilSV, nilLoc0, Value.cells]) (by simp [TT.agg, Value.cells]) Try.underlying108 (by first | exact ⟨_, rfl, rfl⟩ | rfl | exact ⟨_, rfl⟩) (by first | rfl | kernel_rfl) rfl
theorem tt110 : TtOk Try.prog 110 ⟨1, 8, [.val (.pointer none)], .pointer, none⟩ := TtOk.of (z := .pointer none) (by kernel_rfl) (by kernel_rfl) (by simp [Dens, Den, nilSV, nilLoc0, Value.cells]) (by simp [TT.agg, Value.cells]) Try.underlying110 (by first | exact ⟨_, rfl, rfl⟩ | rfl | exact ⟨_, rfl⟩) (by first | rfl | kernel_rfl) rfl
theorem tt111 : TtOk Try.prog 111 ⟨1, 4, [.int .i32 0], .int .i32, none⟩ := TtOk.of (z := .int .i32 0) (by kernel_rfl) (by kernel_rfl) (by simp [Dens, Den, nilSV, nilLoc0, Value.cells]) (by simp [TT.agg, Value.cells]) Try.underlying111 (by first | exact ⟨_, rfl, rfl⟩ | rfl | exact ⟨_, rfl⟩) (by first | rfl | kernel_rfl) rfl
theorem tt112 : TtOk Try.prog 112 ⟨1, 4, [.int .i32 0], .int .i32, none⟩ := TtOk.of (z := .int .i32 0) (by kernel_rfl) (by kernel_rfl) (by simp [Dens, Den, nilSV, nilLoc0, Value.cells]) (by simp [TT.agg, Value.cells]) Try.underlying112 (by first | exact ⟨_, rfl, rfl⟩ | rfl | exact ⟨_, rfl⟩) (by first | rfl | kernel_rfl) rfl
theorem tt113 : TtOk Try.prog 113 ⟨11, 48, [.int .u64 0, .int .u64 0, .int .u32 0, .int .u8 0, .int .u8 0, .int .u8 0, .int .u8 0, .val .nilFunc, .val (.pointer none), .int .i32 0, .int .i32 0], .struct [(0, 12), (1, 12), (2, 106), (3, 107), (4, 5), (5, 5), (6, 108), (7, 109), (8, 110), (9, 111), (10, 112)], none⟩ := TtOk.of (z := .agg #[.int .u64 0, .int .u64 0, .int .u32 0, .int .u8 0, .int .u8 0, .int .u8 0, .int .u8 0, .nilFunc, .pointer none, .int .i32 0, .int .i32 0]) (by kernel_rfl) (by kernel_rfl) (by simp [Dens, Den, nilSV, nilLoc0, Value.cells]) (by simp [TT.agg, Value.cells]) Try.underlying113 (by first | exact ⟨_, rfl, rfl⟩ | rfl | exact ⟨_, rfl⟩) (by first | rfl | kernel_rfl) rfl
theorem tt114 : TtOk Try.prog 114 ⟨11, 48, [.int .u64 0, .int .u64 0, .int .u32 0, .int .u8 0, .int .u8 0, .int .u8 0, .int .u8 0, .val .nilFunc, .val (.pointer none), .int .i32 0, .int .i32 0], .struct [(0, 12), (1, 12), (2, 106), (3, 107), (4, 5), (5, 5), (6, 108), (7, 109), (8, 110), (9, 111), (10, 112)], none⟩ := TtOk.of (z := .agg #[.int .u64 0, .int .u64 0, .int .u32 0, .int .u8 0, .int .u8 0, .int .u8 0, .int .u8 0, .nilFunc, .pointer none, .int .i32 0, .int .i32 0]) (by kernel_rfl) (by kernel_rfl) (by simp [Dens, Den, nilSV, nilLoc0, Value.cells]) (by simp [TT.agg, Value.cells]) Try.underlying114 (by first | exact ⟨_, rfl, rfl⟩ | rfl | exact ⟨_, rfl⟩) (by first | rfl | kernel_rfl) rfl
theorem hT : ∀ t tt, tab t = some tt → TtOk Try.prog t tt := by
  intro t tt h
  unfold tab at h
  split at h
  · cases h; exact tt2
  · cases h; exact tt3
  · cases h; exact tt4
  · cases h; exact tt5
  · cases h; exact tt6
  · cases h; exact tt7
  · cases h; exact tt8
  · cases h; exact tt9
  · cases h; exact tt12
  · cases h; exact tt13
  · cases h; exact tt14
  · cases h; exact tt15
  · cases h; exact tt16
  · cases h; exact tt17
  · cases h; exact tt18
  · cases h; exact tt19
  · cases h; exact tt21
  · cases h; exact tt22
  · cases h; exact tt23
  · cases h; exact tt24
  · cases h; exact tt25
  · cases h; exact tt26
  · cases h; exact tt29
  · cases h; exact tt30
  · cases h; exact tt33
  · cases h; exact tt34
  · cases h; exact tt43
  · cases h; exact tt44
  · cases h; exact tt45
  · cases h; exact tt55
  · cases h; exact tt56
  · cases h; exact tt60
  · cases h; exact tt80
  · cases h; exact tt88
  · cases h; exact tt89
  · cases h; exact tt90
  · cases h; exact tt100
  · cases h; exact tt101
  · cases h; exact tt102
  · cases h; exact tt103
  · cases h; exact tt104
  · cases h; exact tt106
  · cases h; exact tt107
  · cases h; exact tt108
  · cases h; exact tt110
  · cases h; exact tt111
  · cases h; exact tt112
  · cases h; exact tt113
  · cases h; exact tt114
  · cases h
def isP : FuncId → Bool := fun f => f == 32 || f == 39 || f == 70
def ir32 : IR :=
  .seq (.reg false [⟨some 4, none, ⟨[], []⟩, .mov (.k (.bool false))⟩] [4] []) (.seq (.reg false [⟨some 5, none, ⟨[], []⟩, .mov (.t 0)⟩,
    ⟨some 6, none, ⟨[], []⟩, .bin 0 .geq (.t 5) (.k (.int .i64 0))⟩,
    ⟨some 7, none, ⟨[], []⟩, .mov (.t 6)⟩,
    ⟨some 8, some (7, true), ⟨[], []⟩, .mov (.t 1)⟩,
    ⟨some 9, some (7, true), ⟨[], []⟩, .bin 0 .geq (.t 8) (.k (.int .i64 0))⟩,
    ⟨some 10, none, ⟨[], []⟩, .pick (.t 7) (.t 9) (.k (.bool false))⟩,
    ⟨some 11, none, ⟨[], []⟩, .mov (.t 10)⟩,
    ⟨some 12, some (11, true), ⟨[], []⟩, .mov (.t 0)⟩,
    ⟨some 13, some (11, true), ⟨[], []⟩, .bin 0 .leq (.t 12) (.k (.int .i64 200))⟩,
    ⟨some 14, none, ⟨[], []⟩, .pick (.t 11) (.t 13) (.k (.bool false))⟩,
    ⟨some 15, none, ⟨[], []⟩, .mov (.t 14)⟩,
    ⟨some 16, some (15, true), ⟨[], []⟩, .mov (.t 1)⟩,
    ⟨some 17, some (15, true), ⟨[], []⟩, .bin 0 .leq (.t 16) (.k (.int .i64 200))⟩,
    ⟨some 18, none, ⟨[], []⟩, .pick (.t 15) (.t 17) (.k (.bool false))⟩,
    ⟨some 19, none, ⟨[], []⟩, .mov (.t 18)⟩,
    ⟨some 20, some (19, true), ⟨[], []⟩, .mov (.t 0)⟩,
    ⟨some 21, some (19, true), ⟨[], []⟩, .mov (.t 1)⟩,
    ⟨some 22, some (19, true), ⟨[], []⟩, .bin 0 .mul (.t 20) (.t 21)⟩,
    ⟨some 23, some (19, true), ⟨[], []⟩, .bin 0 .leq (.t 22) (.k (.int .i64 8192))⟩,
    ⟨some 24, none, ⟨[], []⟩, .pick (.t 19) (.t 23) (.k (.bool false))⟩,
    ⟨some 4, none, ⟨[], []⟩, .mov (.t 24)⟩] [0, 1, 5, 6, 7, 8, 9, 10, 11, 12, 13, 14, 15, 16, 17, 18, 19, 20, 21, 22, 23, 24] []) (.ret))
set_option maxRecDepth 4000 in
theorem comp32 : (Try.f32.body.bind fun c => compC tab isP chkAll ir32 c) = some ir32 := by kernel_rfl
theorem mixed : Try.prog.follows .mixedOrders = true := by kernel_rfl
theorem hyp {l : List (FuncId × Entry)} {lp : List (FuncId × EntryP)} (h : allOk Try.prog l) (hp : allPOk Try.prog lp) : Hyp Try.prog tab isP (spList l) (spPList lp) chkAll :=
  ⟨hT, spPList_ok hp, spList_ok h, draw_ok mixed hT (spPList_ok hp) (spList_ok h)⟩
theorem hypI {l : List (FuncId × Entry)} {li : List (FuncId × ITS)} {lp : List (FuncId × EntryP)} (h : allOk Try.prog l) (hi : allIt Try.prog li) (hp : allPOk Try.prog lp) : Hyp Try.prog tab isP (spListI l li) (spPList lp) chkAll :=
  ⟨hT, spPList_ok hp, spListI_ok h hi, draw_ok mixed hT (spPList_ok hp) (spListI_ok h hi)⟩
def SidesOk (w h : Int) : Prop := 0 ≤ w ∧ 0 ≤ h ∧ w ≤ 200 ∧ h ≤ 200 ∧ w * h ≤ 8192
instance (w h : Int) : Decidable (SidesOk w h) := by unfold SidesOk; infer_instance
def ValOk (n : Int) : Prop := 0 ≤ n ∧ n ≤ 255
instance (n : Int) : Decidable (ValOk n) := by unfold ValOk; infer_instance
theorem SidesOk.bd {w h : Int} (H : SidesOk w h) : 0 ≤ w * h ∧ w * h ≤ 8192 := ⟨Int.mul_nonneg H.1 H.2.1, H.2.2.2.2⟩
def sidesF : EntryP
  | [.int .i64 w, .int .i64 h] => some (True, .bool (decide (SidesOk w h)))
  | _ => none
attribute [push_cast] sidesF
theorem p32 : EntryPOk Try.prog 32 sidesF := by
  refine ⟨⟨_, Try.func32, by kernel_rfl, by kernel_rfl⟩, fun us p v h hp => ?_⟩
  unfold sidesF at h
  split at h <;> cases h
  refine tri_evS (hyp (l := []) (lp := []) trivial trivial) Try.func32 comp32 (rs := [.tmp 4]) (by rfl) Try.ntmps32 10 ?_
  simp -implicitDefEqProofs only [push_cast, false_implies, reduceCtorEq, Classical.not_not, Nat.reduceAdd, Nat.reduceSub, Nat.reduceMul, Nat.reduceLeDiff, Nat.reduceLT, Nat.reduceEqDiff, Nat.reduceBEq, Nat.reduceBNe, Int.reduceNeg, Int.reduceToNat, Bool.or_false, Bool.false_or, Bool.or_true, Bool.true_or, BEq.rfl, Bool.not_eq_true, Bool.not_eq_false, decide_eq_true_eq, not_true_eq_false, not_false_eq_true, ite_true, ite_false, List.append_nil, and_assoc, Nat.mul_zero, Nat.zero_mul, ir32, sidesF]
  refine ⟨fun h => ?_, by simp only [SidesOk, and_assoc]⟩
  have := mul_bd h.1 h.2.2.1 h.2.1 h.2.2.2
  omega
/-- A row that is only read. -/
structure RowA where
  L : Xf.Loc
  xs : List Int
def AllVal (xs : List Int) : Prop := ∀ n ∈ xs, ValOk n
instance (xs : List Int) : Decidable (AllVal xs) := by unfold AllVal; infer_instance
structure RowN where
  L : Xf.Loc
  xs : List Int
  n : Int
structure Im where
  w : Int
  h : Int
  R : List Int
  G : List Int
  B : List Int
structure ImA where
  i : Im
  L1 : Xf.Loc
  L2 : Xf.Loc
  L3 : Xf.Loc
def Im.Ok (i : Im) : Prop := SidesOk i.w i.h ∧ (i.R.length = i.w * i.h ∧ AllVal i.R) ∧ (i.G.length = i.w * i.h ∧ AllVal i.G) ∧ (i.B.length = i.w * i.h ∧ AllVal i.B)
instance (i : Im) : Decidable i.Ok := by unfold Im.Ok; infer_instance
structure WH where
  w : Int
  h : Int
structure SetA where
  i : Im
  L : Xf.Loc
  L1 : Xf.Loc
  L2 : Xf.Loc
  L3 : Xf.Loc
  k : Int
  r : Int
  g : Int
  b : Int
  n1 : Int
  n2 : Int
  n3 : Int
structure NewA where
  w : Int
  h : Int
  r : Int
  g : Int
  b : Int
def NewA.Ok (a : NewA) : Prop := SidesOk a.w a.h ∧ ValOk a.r ∧ ValOk a.g ∧ ValOk a.b
instance (a : NewA) : Decidable a.Ok := by unfold NewA.Ok; infer_instance
/-- Where a result lies: nowhere, if there is none. -/
def lx (p : Prop) [Decidable p] (x : Nat → Xf.Loc) (k : Nat) : Xf.Loc := if p then x k else nilLoc
theorem allVal_rd {xs : List Int} : AllVal xs ↔ ∀ j : Nat, j < xs.length → ValOk (rd xs j) := by
  unfold AllVal
  constructor
  · intro h j hj; rw [rd_lt xs j hj]; exact h _ (List.getElem_mem hj)
  · intro h x hx
    obtain ⟨j, hj, rfl⟩ := List.getElem_of_mem hx
    have := h j hj
    rwa [rd_lt xs j hj] at this
structure Im2 where
  a : ImA
  b : ImA
structure Pl where
  w : Int
  h : Int
  xs : List Int
def plV (p : Pl) (L : Xf.Loc) (c : Nat) : SV := .agg [.int .i64 p.w, .int .i64 p.h, .sl c L 1 0 p.xs.length]
attribute [push_cast] plV
theorem Im.Ok.val {i : Im} (h : i.Ok) : i.G.length = i.R.length ∧ i.B.length = i.R.length ∧ ∀ k : Nat, k < i.R.length → (0 ≤ rd i.R (k : Nat) ∧ rd i.R (k : Nat) ≤ 255) ∧ (0 ≤ rd i.G (k : Nat) ∧ rd i.G (k : Nat) ≤ 255) ∧ (0 ≤ rd i.B (k : Nat) ∧ rd i.B (k : Nat) ≤ 255) := by
  obtain ⟨_, ⟨a, x⟩, ⟨b, y⟩, ⟨c, z⟩⟩ := h
  have e1 : i.G.length = i.R.length := by omega
  have e2 : i.B.length = i.R.length := by omega
  exact ⟨e1, e2, fun k hk => ⟨allVal_rd.1 x k hk, allVal_rd.1 y k (by omega), allVal_rd.1 z k (by omega)⟩⟩
structure CutA where
  a : ImA
  x : Int
  y : Int
  w : Int
  h : Int
def CutA.In (c : CutA) : Prop := 0 ≤ c.x ∧ 0 ≤ c.y ∧ 0 ≤ c.w ∧ 0 ≤ c.h ∧ c.x + c.w ≤ c.a.i.w ∧ c.y + c.h ≤ c.a.i.h
instance (c : CutA) : Decidable c.In := by unfold CutA.In; infer_instance
def CutA.Ok (c : CutA) : Prop := c.a.i.Ok ∧ c.In
instance (c : CutA) : Decidable c.Ok := by unfold CutA.Ok; infer_instance
theorem idx_bd {a b W H : Int} (h1 : 0 ≤ a) (h2 : a < H) (h3 : 0 ≤ b) (h4 : b < W) : 0 ≤ a * W + b ∧ a * W + b < W * H := by
  have e1 : 0 ≤ a * W := Int.mul_nonneg h1 (by omega)
  have e2 : (a + 1) * W ≤ H * W := Int.mul_le_mul_of_nonneg_right (by omega) (by omega)
  rw [Int.add_mul, Int.one_mul, Int.mul_comm H W] at e2
  omega
def ir39 : IR :=
  .seq (.reg false [⟨some 4, none, ⟨[], []⟩, .mov (.k (.bool false))⟩] [4] []) (.seq (.reg false [⟨some 5, none, ⟨[], []⟩, .mov (.t 0)⟩,
    ⟨some 6, none, ⟨[], []⟩, .bin 0 .geq (.t 5) (.k (.int .i64 0))⟩,
    ⟨some 7, none, ⟨[], []⟩, .mov (.t 6)⟩,
    ⟨some 8, some (7, true), ⟨[], []⟩, .mov (.t 1)⟩,
    ⟨some 9, some (7, true), ⟨[], []⟩, .bin 0 .geq (.t 8) (.k (.int .i64 0))⟩,
    ⟨some 10, none, ⟨[], []⟩, .pick (.t 7) (.t 9) (.k (.bool false))⟩,
    ⟨some 11, none, ⟨[], []⟩, .mov (.t 10)⟩,
    ⟨some 12, some (11, true), ⟨[], []⟩, .mov (.t 0)⟩,
    ⟨some 13, some (11, true), ⟨[], []⟩, .bin 0 .leq (.t 12) (.k (.int .i64 200))⟩,
    ⟨some 14, none, ⟨[], []⟩, .pick (.t 11) (.t 13) (.k (.bool false))⟩,
    ⟨some 15, none, ⟨[], []⟩, .mov (.t 14)⟩,
    ⟨some 16, some (15, true), ⟨[], []⟩, .mov (.t 1)⟩,
    ⟨some 17, some (15, true), ⟨[], []⟩, .bin 0 .leq (.t 16) (.k (.int .i64 200))⟩,
    ⟨some 18, none, ⟨[], []⟩, .pick (.t 15) (.t 17) (.k (.bool false))⟩,
    ⟨some 4, none, ⟨[], []⟩, .mov (.t 18)⟩] [0, 1, 5, 6, 7, 8, 9, 10, 11, 12, 13, 14, 15, 16, 17, 18] []) (.ret))
set_option maxRecDepth 4000 in
theorem comp39 : (Try.f39.body.bind fun c => compC tab isP chkAll ir39 c) = some ir39 := by kernel_rfl
def ir57 : IR :=
  .seq (.reg false [⟨some 4, none, ⟨[], []⟩, .mov (.k (.bool false))⟩] [4] []) (.seq (.reg false [⟨some 5, none, ⟨[], []⟩, .mov (.t 0)⟩,
    ⟨some 6, none, ⟨[], []⟩, .ld false none 0 0 (.t 1)⟩,
    ⟨some 7, none, ⟨[], []⟩, .bin 0 .lss (.t 5) (.t 6)⟩,
    ⟨some 8, none, ⟨[], []⟩, .mov (.t 7)⟩,
    ⟨some 9, some (8, false), ⟨[], []⟩, .mov (.t 0)⟩,
    ⟨some 10, some (8, false), ⟨[], []⟩, .ld false none 0 0 (.t 2)⟩,
    ⟨some 11, some (8, false), ⟨[], []⟩, .bin 0 .gtr (.t 9) (.t 10)⟩,
    ⟨some 12, none, ⟨[], []⟩, .pick (.t 8) (.k (.bool true)) (.t 11)⟩,
    ⟨some 4, none, ⟨[], []⟩, .mov (.t 12)⟩] [0, 1, 2, 5, 6, 7, 8, 9, 10, 11, 12] []) (.ret))
set_option maxRecDepth 4000 in
theorem comp57 : (Try.f57.body.bind fun c => compC tab isP chkAll ir57 c) = some ir57 := by kernel_rfl
def b68_1 : IR :=
  .seq (.reg false [⟨some 9, none, ⟨[], []⟩, .bin 0 .lss (.t 8) (.t 7)⟩] [] []) (.seq (.cond (.t 9) (.skip) (.exit 0)) (.seq (.block 1 (.seq (.reg false [⟨some 10, none, ⟨[], []⟩, .mov (.t 8)⟩,
    ⟨some 5, none, ⟨[], []⟩, .mov (.t 10)⟩] [9, 10] []) (.seq (.reg false [⟨some 11, none, ⟨[], []⟩, .mov (.t 1)⟩,
    ⟨some 12, none, ⟨[], []⟩, .mov (.t 0)⟩,
    ⟨some 13, none, ⟨[], []⟩, .mov (.t 5)⟩,
    ⟨some 14, none, ⟨[], []⟩, .idxS (.t 12) (.t 13) 1⟩,
    ⟨some 15, none, ⟨[], []⟩, .ld true none 0 0 (.t 14)⟩,
    ⟨some 16, none, ⟨[], []⟩, .callv (some 4) 10 (.t 11) [.t 15]⟩] [11, 12, 13, 14, 15] []) (.cond (.t 16) (.seq (.reg false [⟨some 17, none, ⟨[], []⟩, .mov (.t 5)⟩,
    ⟨some 4, none, ⟨[], []⟩, .mov (.t 17)⟩] [0, 1, 5, 7, 8, 16, 17] []) (.ret)) (.skip))))) (.reg false [⟨some 18, none, ⟨[], []⟩, .bin 0 .add (.t 8) (.k (.int .i64 1))⟩,
    ⟨some 8, none, ⟨[], []⟩, .mov (.t 18)⟩] [4, 5, 16, 18] [])))
def r68_2 : IR :=
  .seq (.reg false [⟨some 4, none, ⟨[], []⟩, .mov (.k (.int .i64 (-1)))⟩] [0, 1, 7, 8] []) (.ret)
def ir68 : IR :=
  .seq (.reg false [⟨some 4, none, ⟨[], []⟩, .mov (.k (.int .i64 0))⟩] [4] []) (.seq (.seq (.reg false [⟨some 6, none, ⟨[], []⟩, .mov (.t 0)⟩,
    ⟨some 7, none, ⟨[], []⟩, .len (.t 6)⟩,
    ⟨some 8, none, ⟨[], []⟩, .mov (.k (.int .i64 0))⟩] [6] []) (.block 0 (.loop b68_1))) (r68_2))
def kp68_1 : List Nat := [0, 1, 7, 8]
def kl68_1 : List Nat := [10, 11, 12, 13]
attribute [push_cast] kp68_1 kl68_1
set_option maxRecDepth 4000 in
theorem comp68 : (Try.f68.body.bind fun c => compC tab isP chkAll ir68 c) = some ir68 := by kernel_rfl
def ir56 : IR :=
  .seq (.reg false [⟨some 4, none, ⟨[], []⟩, .mov (.k (.bool false))⟩] [4] []) (.seq (.reg false [⟨some 5, none, ⟨[], []⟩, .mov (.t 0)⟩,
    ⟨some 6, none, ⟨[], []⟩, .mov (.t 1)⟩,
    ⟨some 7, none, ⟨[], []⟩, .call (some 4) 10 68 [.t 5, .t 6]⟩,
    ⟨some 8, none, ⟨[], []⟩, .bin 0 .geq (.t 7) (.k (.int .i64 0))⟩,
    ⟨some 4, none, ⟨[], []⟩, .mov (.t 8)⟩] [0, 1, 5, 6, 7, 8] []) (.ret))
set_option maxRecDepth 4000 in
theorem comp56 : (Try.f56.body.bind fun c => compC tab isP chkAll ir56 c) = some ir56 := by kernel_rfl
def ir31 : IR :=
  .seq (.reg false [⟨some 3, none, ⟨[], []⟩, .box 10 (.t 0)⟩,
    ⟨some 4, none, ⟨[], []⟩, .box 11 (.t 1)⟩,
    ⟨some 5, none, ⟨[], []⟩, .box 12 (.t 2)⟩,
    ⟨some 6, none, ⟨[], []⟩, .mov (.k (.bool false))⟩] [0, 1, 2, 6] []) (.seq (.seq (.reg false [⟨some 7, none, ⟨[], []⟩, .fld (.t 3) 0⟩,
    ⟨some 8, none, ⟨[], []⟩, .ld false none 0 0 (.t 7)⟩,
    ⟨some 9, none, ⟨[], []⟩, .fld (.t 3) 1⟩,
    ⟨some 10, none, ⟨[], []⟩, .ld false none 0 0 (.t 9)⟩,
    ⟨some 11, none, ⟨[], []⟩, .callp 39 [.t 8, .t 10]⟩,
    ⟨some 12, none, ⟨[], []⟩, .not (.t 11)⟩,
    ⟨some 13, none, ⟨[], []⟩, .mov (.t 12)⟩,
    ⟨some 14, some (13, false), ⟨[], []⟩, .fld (.t 3) 0⟩,
    ⟨some 15, some (13, false), ⟨[], []⟩, .ld false none 0 0 (.t 14)⟩,
    ⟨some 16, some (13, false), ⟨[], []⟩, .fld (.t 3) 1⟩,
    ⟨some 17, some (13, false), ⟨[], []⟩, .ld false none 0 0 (.t 16)⟩,
    ⟨some 18, some (13, false), ⟨[], []⟩, .bin 0 .mul (.t 15) (.t 17)⟩,
    ⟨some 19, some (13, false), ⟨[], []⟩, .fld (.t 3) 2⟩,
    ⟨some 20, some (13, false), ⟨[], []⟩, .ld false none 0 0 (.t 19)⟩,
    ⟨some 21, some (13, false), ⟨[], []⟩, .len (.t 20)⟩,
    ⟨some 22, some (13, false), ⟨[], []⟩, .bin 0 .neq (.t 18) (.t 21)⟩,
    ⟨some 23, none, ⟨[], []⟩, .pick (.t 13) (.k (.bool true)) (.t 22)⟩,
    ⟨some 24, none, ⟨[], []⟩, .mov (.t 23)⟩,
    ⟨some 25, some (24, false), ⟨[], []⟩, .fld (.t 3) 2⟩,
    ⟨some 26, some (24, false), ⟨[], []⟩, .ld false none 0 0 (.t 25)⟩,
    ⟨some 27, some (24, false), ⟨[], []⟩, .len (.t 26)⟩,
    ⟨some 28, some (24, false), ⟨[], []⟩, .bin 0 .gtr (.t 27) (.k (.int .i64 8192))⟩,
    ⟨some 29, none, ⟨[], []⟩, .pick (.t 24) (.k (.bool true)) (.t 28)⟩] [7, 8, 9, 10, 11, 12, 13, 14, 15, 16, 17, 18, 19, 20, 21, 22, 23, 24, 25, 26, 27, 28] []) (.cond (.t 29) (.seq (.reg false [⟨some 6, none, ⟨[], []⟩, .mov (.k (.bool false))⟩] [3, 4, 5, 29] []) (.ret)) (.skip))) (.seq (.reg false [⟨some 30, none, ⟨[], []⟩, .fld (.t 3) 2⟩,
    ⟨some 31, none, ⟨[], []⟩, .ld false none 0 0 (.t 30)⟩,
    ⟨some 32, none, ⟨[], []⟩, .mkf 57 [.t 4, .t 5]⟩,
    ⟨some 33, none, ⟨[], []⟩, .call (some 4) 13 56 [.t 31, .t 32]⟩,
    ⟨some 34, none, ⟨[], []⟩, .not (.t 33)⟩,
    ⟨some 6, none, ⟨[], []⟩, .mov (.t 34)⟩] [3, 4, 5, 29, 30, 31, 32, 33, 34] []) (.ret)))
set_option maxRecDepth 4000 in
theorem comp31 : (Try.f31.body.bind fun c => compC tab isP chkAll ir31 c) = some ir31 := by kernel_rfl
def ir14 : IR :=
  .seq (.reg false [⟨some 1, none, ⟨[], []⟩, .box 10 (.t 0)⟩,
    ⟨some 2, none, ⟨[], []⟩, .mov (.k (.bool false))⟩] [0, 2] []) (.seq (.reg false [⟨some 3, none, ⟨[], []⟩, .ld false (some 3) 0 0 (.t 1)⟩,
    ⟨some 4, none, ⟨[], []⟩, .call (some 4) 11 31 [.t 3, .k (.int .i64 0), .k (.int .i64 255)]⟩,
    ⟨some 2, none, ⟨[], []⟩, .mov (.t 4)⟩] [1, 3, 4] []) (.ret))
set_option maxRecDepth 4000 in
theorem comp14 : (Try.f14.body.bind fun c => compC tab isP chkAll ir14 c) = some ir14 := by kernel_rfl
/-- The first number of some kind. -/
def firstB (p : Int → Bool) (xs : List Int) : Int := if xs.findIdx p < xs.length then xs.findIdx p else -1
theorem firstB_at {p : Int → Bool} {xs : List Int} {i : Nat} (h : i < xs.length) (hb : p (rd xs i) = true) (hj : ∀ j, j < i → p (rd xs (j : Nat)) = false) : firstB p xs = i := by
  have : xs.findIdx p = i := by
    rw [List.findIdx_eq h]
    refine ⟨by rw [rd_lt xs i h] at hb; exact hb, fun j hji => ?_⟩
    have := hj j hji
    rw [rd_lt xs j (by omega)] at this
    exact this
  unfold firstB
  rw [this, if_pos h]
theorem firstB_no {p : Int → Bool} {xs : List Int} (hj : ∀ j, j < xs.length → p (rd xs (j : Nat)) = false) : firstB p xs = -1 := by
  unfold firstB
  rw [if_neg]
  intro h
  have := List.findIdx_getElem (w := h)
  have h2 := hj _ h
  rw [rd_lt xs _ h, this] at h2
  cases h2
theorem firstB_iff (p : Int → Bool) (xs : List Int) : 0 ≤ firstB p xs ↔ ∃ n, n ∈ xs ∧ p n = true := by
  unfold firstB
  have h := List.findIdx_lt_length (xs := xs) (p := p)
  by_cases hh : xs.findIdx p < xs.length
  · rw [if_pos hh]
    exact ⟨fun _ => h.1 hh, fun _ => by omega⟩
  · rw [if_neg hh]
    exact ⟨fun h => by omega, fun H => absurd (h.2 H) hh⟩
def sides4F : EntryP
  | [.int .i64 w, .int .i64 h] => some (True, .bool (decide (0 ≤ w ∧ 0 ≤ h ∧ w ≤ 200 ∧ h ≤ 200)))
  | _ => none
attribute [push_cast] sides4F
theorem p39 : EntryPOk Try.prog 39 sides4F := by
  refine ⟨⟨_, Try.func39, by kernel_rfl, by kernel_rfl⟩, fun us p v h hp => ?_⟩
  unfold sides4F at h
  split at h <;> cases h
  refine tri_evS (hyp (l := []) (lp := []) trivial trivial) Try.func39 comp39 (rs := [.tmp 4]) (by rfl) Try.ntmps39 10 ?_
  simp -implicitDefEqProofs only [push_cast, false_implies, reduceCtorEq, Classical.not_not, Nat.reduceAdd, Nat.reduceSub, Nat.reduceMul, Nat.reduceLeDiff, Nat.reduceLT, Nat.reduceEqDiff, Nat.reduceBEq, Nat.reduceBNe, Int.reduceNeg, Int.reduceToNat, Bool.or_false, Bool.false_or, Bool.or_true, Bool.true_or, BEq.rfl, Bool.not_eq_true, Bool.not_eq_false, decide_eq_true_eq, not_true_eq_false, not_false_eq_true, ite_true, ite_false, List.append_nil, and_assoc, Nat.mul_zero, Nat.zero_mul, ir39, sides4F]
structure OutA where
  L1 : Xf.Loc
  L2 : Xf.Loc
  n : Int
  lo : Int
  hi : Int
def outB (lo hi n : Int) : Bool := decide (n < lo ∨ hi < n)
def fs57 : FS where
  A := OutA
  args := fun a => [.int .i64 a.n, .ptr 0 a.L1 0 0 0, .ptr 1 a.L2 0 0 0]
  mem := fun a => [some (.ro, a.L1, .cells [.int .i64 a.lo]), some (.ro, a.L2, .cells [.int .i64 a.hi])]
  pre := fun _ => True
  res := fun a _ => .bool (outB a.lo a.hi a.n)
  out := fun _ _ => []
  new := fun _ _ => []
def inv57 : List SV → Look → Option (OutA × List Nat)
  | [.int .i64 n, .ptr c1 _ 0 0 0, .ptr c2 _ 0 0 0], look => match rowC (look c1), rowC (look c2) with
    | some (L1, [.int .i64 lo]), some (L2, [.int .i64 hi]) => some (⟨L1, L2, n, lo, hi⟩, [c1, c2])
    | _, _ => none
  | _, _ => none
attribute [push_cast] inv57
theorem ok57 : FSOk Try.prog 57 fs57 := by
  refine ⟨⟨_, Try.func57, by kernel_rfl, by kernel_rfl⟩, fun a => ⟨by simp [fs57, push_cast, noMine, argOwn, Chunk.frArg], by simp [fs57, push_cast, outOk, Chunk.ext], fun x => .inl (by simp [fs57, push_cast, frNew, frOut, Chunk.fr])⟩, fun a hp => ?_⟩
  obtain ⟨L1, L2, n, lo, hi⟩ := a
  change Tri Try.prog 57 [.int .i64 n, .ptr 0 L1 0 0 0, .ptr 1 L2 0 0 0] [some (.ro, L1, .cells [.int .i64 lo]), some (.ro, L2, .cells [.int .i64 hi])] (postF fs57 ⟨L1, L2, n, lo, hi⟩)
  refine tri_evS (hyp (l := []) (lp := []) trivial trivial) Try.func57 comp57 (rs := [.tmp 4]) (by rfl) Try.ntmps57 10 ?_
  simp -implicitDefEqProofs only [push_cast, false_implies, reduceCtorEq, Classical.not_not, Nat.reduceAdd, Nat.reduceSub, Nat.reduceMul, Nat.reduceLeDiff, Nat.reduceLT, Nat.reduceEqDiff, Nat.reduceBEq, Nat.reduceBNe, Int.reduceNeg, Int.reduceToNat, Bool.or_false, Bool.false_or, Bool.or_true, Bool.true_or, BEq.rfl, Bool.not_eq_true, Bool.not_eq_false, decide_eq_true_eq, not_true_eq_false, not_false_eq_true, ite_true, ite_false, List.append_nil, and_assoc, Nat.mul_zero, Nat.zero_mul, ir57]
  refine postF.mk' (fun _ => default) [some 0, some 1] ?_
  simp -implicitDefEqProofs only [push_cast, false_implies, reduceCtorEq, Classical.not_not, Nat.reduceAdd, Nat.reduceSub, Nat.reduceMul, Nat.reduceLeDiff, Nat.reduceLT, Nat.reduceEqDiff, Nat.reduceBEq, Nat.reduceBNe, Int.reduceNeg, Int.reduceToNat, Bool.or_false, Bool.false_or, Bool.or_true, Bool.true_or, BEq.rfl, Bool.not_eq_true, Bool.not_eq_false, decide_eq_true_eq, not_true_eq_false, not_false_eq_true, ite_true, ite_false, List.append_nil, and_assoc, Nat.mul_zero, Nat.zero_mul, fs57, outB]
def ent57 : Entry := spOf fs57 inv57
theorem e57 : EntryOk Try.prog 57 ent57 := entry_of ok57 inv57
@[push_cast] theorem ent57_app (us : List SV) (look : Look) (x : Nat → Xf.Loc) (k : Nat) : ent57 us look x k = spOf fs57 inv57 us look x k := rfl
structure OutR where
  L : Xf.Loc
  xs : List Int
  L1 : Xf.Loc
  L2 : Xf.Loc
  lo : Int
  hi : Int
def fs68w : FS where
  A := OutR
  args := fun a => [.sl 0 a.L 1 0 a.xs.length, .fn 57 [.ptr 1 a.L1 0 0 0, .ptr 2 a.L2 0 0 0]]
  mem := fun a => [some (.ro, a.L, .ints .i64 a.xs), some (.ro, a.L1, .cells [.int .i64 a.lo]), some (.ro, a.L2, .cells [.int .i64 a.hi])]
  pre := fun a => a.xs.length ≤ 140737488355328
  res := fun a _ => .int .i64 (firstB (outB a.lo a.hi) a.xs)
  out := fun _ _ => []
  new := fun _ _ => []
def inv68w : List SV → Look → Option (OutR × List Nat)
  | [.sl c _ 1 0 _, .fn 57 [.ptr c1 _ 0 0 0, .ptr c2 _ 0 0 0]], look => match rowI (look c), rowC (look c1), rowC (look c2) with
    | some (L, .i64, xs), some (L1, [.int .i64 lo]), some (L2, [.int .i64 hi]) => some (⟨L, xs, L1, L2, lo, hi⟩, [c, c1, c2])
    | _, _, _ => none
  | _, _ => none
attribute [push_cast] inv68w
theorem ok68w : FSOk Try.prog 68 fs68w := by
  refine ⟨⟨_, Try.func68, by kernel_rfl, by kernel_rfl⟩, fun a => ⟨by simp [fs68w, push_cast, noMine, argOwn, Chunk.frArg], by simp [fs68w, push_cast, outOk, Chunk.ext], fun x => .inl (by simp [fs68w, push_cast, frNew, frOut, Chunk.fr])⟩, fun a hp => ?_⟩
  obtain ⟨L, xs, L1, L2, lo, hi⟩ := a
  change xs.length ≤ 140737488355328 at hp
  change Tri Try.prog 68 [.sl 0 L 1 0 xs.length, .fn 57 [.ptr 1 L1 0 0 0, .ptr 2 L2 0 0 0]] [some (.ro, L, .ints .i64 xs), some (.ro, L1, .cells [.int .i64 lo]), some (.ro, L2, .cells [.int .i64 hi])] (postF fs68w ⟨L, xs, L1, L2, lo, hi⟩)
  refine tri_evS (hyp (l := [(57, ent57)]) (lp := []) ⟨e57, trivial⟩ trivial) Try.func68 comp68 (rs := [.tmp 4]) (by rfl) Try.ntmps68 14 ?_
  simp -implicitDefEqProofs only [push_cast, false_implies, reduceCtorEq, Classical.not_not, Nat.reduceAdd, Nat.reduceSub, Nat.reduceMul, Nat.reduceLeDiff, Nat.reduceLT, Nat.reduceEqDiff, Nat.reduceBEq, Nat.reduceBNe, Int.reduceNeg, Int.reduceToNat, Bool.or_false, Bool.false_or, Bool.or_true, Bool.true_or, BEq.rfl, Bool.not_eq_true, Bool.not_eq_false, decide_eq_true_eq, not_true_eq_false, not_false_eq_true, ite_true, ite_false, List.append_nil, and_assoc, Nat.mul_zero, Nat.zero_mul, ir68]
  refine evS_loopU (A := Nat) kp68_1 kl68_1 (fun i => [(8, .int .i64 i)]) (fun _ => [])
    (fun i => i ≤ xs.length ∧ ∀ j, j < i → outB lo hi (rd xs (j : Nat)) = false) (fun i => xs.length - i) 0 ⟨by omega, by omega⟩ (Sub.pt ?_) ?_
  · simp -implicitDefEqProofs only [push_cast, false_implies, reduceCtorEq, Classical.not_not, Nat.reduceAdd, Nat.reduceSub, Nat.reduceMul, Nat.reduceLeDiff, Nat.reduceLT, Nat.reduceEqDiff, Nat.reduceBEq, Nat.reduceBNe, Int.reduceNeg, Int.reduceToNat, Bool.or_false, Bool.false_or, Bool.or_true, Bool.true_or, BEq.rfl, Bool.not_eq_true, Bool.not_eq_false, decide_eq_true_eq, not_true_eq_false, not_false_eq_true, ite_true, ite_false, List.append_nil, and_assoc, Nat.mul_zero, Nat.zero_mul]
  intro i ⟨h1, h2⟩ K hK
  simp -implicitDefEqProofs only [push_cast, false_implies, reduceCtorEq, Classical.not_not, Nat.reduceAdd, Nat.reduceSub, Nat.reduceMul, Nat.reduceLeDiff, Nat.reduceLT, Nat.reduceEqDiff, Nat.reduceBEq, Nat.reduceBNe, Int.reduceNeg, Int.reduceToNat, Bool.or_false, Bool.false_or, Bool.or_true, Bool.true_or, BEq.rfl, Bool.not_eq_true, Bool.not_eq_false, decide_eq_true_eq, not_true_eq_false, not_false_eq_true, ite_true, ite_false, List.append_nil, and_assoc, Nat.mul_zero, Nat.zero_mul, b68_1, r68_2, fs57]
  refine ⟨fun h => ⟨by omega, h, by omega, h, fun hb => ?_, fun hb => ⟨by omega, by omega, ?_⟩⟩, fun h => ?_⟩
  · have e := firstB_at (by omega) hb h2
    exact postF.mk' (fun _ => default) [some 0, some 1, some 2] (by simp -implicitDefEqProofs only [push_cast, false_implies, reduceCtorEq, Classical.not_not, Nat.reduceAdd, Nat.reduceSub, Nat.reduceMul, Nat.reduceLeDiff, Nat.reduceLT, Nat.reduceEqDiff, Nat.reduceBEq, Nat.reduceBNe, Int.reduceNeg, Int.reduceToNat, Bool.or_false, Bool.false_or, Bool.or_true, Bool.true_or, BEq.rfl, Bool.not_eq_true, Bool.not_eq_false, decide_eq_true_eq, not_true_eq_false, not_false_eq_true, ite_true, ite_false, List.append_nil, and_assoc, Nat.mul_zero, Nat.zero_mul, fs68w, e])
  · refine hK (i + 1) ⟨by omega, ?_⟩ (show xs.length - (i + 1) < xs.length - i by omega) _ _ (Sub.pt ?_)
    · intro j hj
      by_cases e : j = i
      · subst e; exact hb
      · exact h2 j (by omega)
    · simp -implicitDefEqProofs only [push_cast, false_implies, reduceCtorEq, Classical.not_not, Nat.reduceAdd, Nat.reduceSub, Nat.reduceMul, Nat.reduceLeDiff, Nat.reduceLT, Nat.reduceEqDiff, Nat.reduceBEq, Nat.reduceBNe, Int.reduceNeg, Int.reduceToNat, Bool.or_false, Bool.false_or, Bool.or_true, Bool.true_or, BEq.rfl, Bool.not_eq_true, Bool.not_eq_false, decide_eq_true_eq, not_true_eq_false, not_false_eq_true, ite_true, ite_false, List.append_nil, and_assoc, Nat.mul_zero, Nat.zero_mul]
  · have e := firstB_no (p := outB lo hi) (xs := xs) (fun j hj => h2 j (by omega))
    exact postF.mk' (fun _ => default) [some 0, some 1, some 2] (by simp -implicitDefEqProofs only [push_cast, false_implies, reduceCtorEq, Classical.not_not, Nat.reduceAdd, Nat.reduceSub, Nat.reduceMul, Nat.reduceLeDiff, Nat.reduceLT, Nat.reduceEqDiff, Nat.reduceBEq, Nat.reduceBNe, Int.reduceNeg, Int.reduceToNat, Bool.or_false, Bool.false_or, Bool.or_true, Bool.true_or, BEq.rfl, Bool.not_eq_true, Bool.not_eq_false, decide_eq_true_eq, not_true_eq_false, not_false_eq_true, ite_true, ite_false, List.append_nil, and_assoc, Nat.mul_zero, Nat.zero_mul, fs68w, e])
def ent68w : Entry := spOf fs68w inv68w
theorem e68w : EntryOk Try.prog 68 ent68w := entry_of ok68w inv68w
@[push_cast] theorem ent68w_app (us : List SV) (look : Look) (x : Nat → Xf.Loc) (k : Nat) : ent68w us look x k = spOf fs68w inv68w us look x k := rfl
def AllIn (lo hi : Int) (xs : List Int) : Prop := ∀ n, n ∈ xs → lo ≤ n ∧ n ≤ hi
instance (lo hi : Int) (xs : List Int) : Decidable (AllIn lo hi xs) := by unfold AllIn; infer_instance
theorem allIn_iff {lo hi : Int} {xs : List Int} : (0 ≤ firstB (outB lo hi) xs) = ¬ AllIn lo hi xs := by
  rw [firstB_iff]
  unfold AllIn outB
  simp only [decide_eq_true_eq, Classical.not_forall, eq_iff_iff]
  constructor
  · rintro ⟨n, h1, h2⟩; exact ⟨n, h1, by omega⟩
  · rintro ⟨n, h1, h2⟩; exact ⟨n, h1, by omega⟩
theorem allIn_rd {lo hi : Int} {xs : List Int} : AllIn lo hi xs ↔ ∀ j : Nat, j < xs.length → lo ≤ rd xs j ∧ rd xs j ≤ hi := by
  unfold AllIn
  constructor
  · intro h j hj; rw [rd_lt xs j hj]; exact h _ (List.getElem_mem hj)
  · intro h n hn
    obtain ⟨j, hj, rfl⟩ := List.mem_iff_getElem.1 hn
    have := h j hj
    rwa [rd_lt xs j hj] at this
def fs56w : FS := { fs68w with res := fun a _ => .bool (decide (¬ AllIn a.lo a.hi a.xs)) }
theorem ok56w : FSOk Try.prog 56 fs56w := by
  refine ⟨⟨_, Try.func56, by kernel_rfl, by kernel_rfl⟩, fun a => ⟨by simp [fs56w, fs68w, push_cast, noMine, argOwn, Chunk.frArg], by simp [fs56w, fs68w, push_cast, outOk, Chunk.ext], fun x => .inl (by simp [fs56w, fs68w, push_cast, frNew, frOut, Chunk.fr])⟩, fun a hp => ?_⟩
  obtain ⟨L, xs, L1, L2, lo, hi⟩ := a
  change xs.length ≤ 140737488355328 at hp
  change Tri Try.prog 56 [.sl 0 L 1 0 xs.length, .fn 57 [.ptr 1 L1 0 0 0, .ptr 2 L2 0 0 0]] [some (.ro, L, .ints .i64 xs), some (.ro, L1, .cells [.int .i64 lo]), some (.ro, L2, .cells [.int .i64 hi])] (postF fs56w ⟨L, xs, L1, L2, lo, hi⟩)
  refine tri_evS (hyp (l := [(68, ent68w)]) (lp := []) ⟨e68w, trivial⟩ trivial) Try.func56 comp56 (rs := [.tmp 4]) (by rfl) Try.ntmps56 14 ?_
  simp -implicitDefEqProofs only [push_cast, false_implies, reduceCtorEq, Classical.not_not, Nat.reduceAdd, Nat.reduceSub, Nat.reduceMul, Nat.reduceLeDiff, Nat.reduceLT, Nat.reduceEqDiff, Nat.reduceBEq, Nat.reduceBNe, Int.reduceNeg, Int.reduceToNat, Bool.or_false, Bool.false_or, Bool.or_true, Bool.true_or, BEq.rfl, Bool.not_eq_true, Bool.not_eq_false, decide_eq_true_eq, not_true_eq_false, not_false_eq_true, ite_true, ite_false, List.append_nil, and_assoc, Nat.mul_zero, Nat.zero_mul, ir56, fs68w]
  exact ⟨hp, postF.mk' (fun _ => default) [some 0, some 1, some 2] (by simp -implicitDefEqProofs only [push_cast, false_implies, reduceCtorEq, Classical.not_not, Nat.reduceAdd, Nat.reduceSub, Nat.reduceMul, Nat.reduceLeDiff, Nat.reduceLT, Nat.reduceEqDiff, Nat.reduceBEq, Nat.reduceBNe, Int.reduceNeg, Int.reduceToNat, Bool.or_false, Bool.false_or, Bool.or_true, Bool.true_or, BEq.rfl, Bool.not_eq_true, Bool.not_eq_false, decide_eq_true_eq, not_true_eq_false, not_false_eq_true, ite_true, ite_false, List.append_nil, and_assoc, Nat.mul_zero, Nat.zero_mul, fs56w, fs68w, allIn_iff])⟩
def ent56w : Entry := spOf fs56w inv68w
theorem e56w : EntryOk Try.prog 56 ent56w := entry_of ok56w inv68w
@[push_cast] theorem ent56w_app (us : List SV) (look : Look) (x : Nat → Xf.Loc) (k : Nat) : ent56w us look x k = spOf fs56w inv68w us look x k := rfl
def Pl.In (p : Pl) (lo hi : Int) : Prop := SidesOk p.w p.h ∧ p.xs.length = p.w * p.h ∧ AllIn lo hi p.xs
instance (p : Pl) (lo hi : Int) : Decidable (p.In lo hi) := by unfold Pl.In; infer_instance
structure PlA where
  p : Pl
  L : Xf.Loc
structure PlW where
  a : PlA
  lo : Int
  hi : Int
def getP (look : Look) : SV → Option (PlA × List Nat)
  | .agg [.int .i64 w, .int .i64 h, .sl c _ 1 0 _] => match rowI (lkZ look (.ints .i64 []) c) with
    | some (L, .i64, xs) => some (⟨⟨w, h, xs⟩, L⟩, [c])
    | _ => none
  | _ => none
attribute [push_cast] getP
def fs31 : FS where
  A := PlW
  args := fun a => [plV a.a.p a.a.L 0, .int .i64 a.lo, .int .i64 a.hi]
  mem := fun a => [some (.ro, a.a.L, .ints .i64 a.a.p.xs)]
  pre := fun a => a.a.p.xs.length ≤ 140737488355328
  res := fun a _ => .bool (decide (a.a.p.In a.lo a.hi))
  out := fun _ _ => []
  new := fun _ _ => []
def inv31 : List SV → Look → Option (PlW × List Nat)
  | [v, .int .i64 lo, .int .i64 hi], look => match getP look v with
    | some (a, g) => some (⟨a, lo, hi⟩, g)
    | _ => none
  | _, _ => none
attribute [push_cast] inv31
theorem ok31 : FSOk Try.prog 31 fs31 := by
  refine ⟨⟨_, Try.func31, by kernel_rfl, by kernel_rfl⟩, fun a => ⟨by simp [fs31, push_cast, noMine, argOwn, Chunk.frArg], by simp [fs31, push_cast, outOk, Chunk.ext], fun x => .inl (by simp [fs31, push_cast, frNew, frOut, Chunk.fr])⟩, fun a hp => ?_⟩
  obtain ⟨⟨⟨w, h, xs⟩, L⟩, lo, hi⟩ := a
  change xs.length ≤ 140737488355328 at hp
  change Tri Try.prog 31 [plV ⟨w, h, xs⟩ L 0, .int .i64 lo, .int .i64 hi] [some (.ro, L, .ints .i64 xs)] (postF fs31 ⟨⟨⟨w, h, xs⟩, L⟩, lo, hi⟩)
  refine tri_evS (hyp (l := [(56, ent56w)]) (lp := [(39, sides4F)]) ⟨e56w, trivial⟩ ⟨p39, trivial⟩) Try.func31 comp31 (rs := [.tmp 6]) (by rfl) Try.ntmps31 17 ?_
  simp -implicitDefEqProofs only [push_cast, false_implies, reduceCtorEq, Classical.not_not, Nat.reduceAdd, Nat.reduceSub, Nat.reduceMul, Nat.reduceLeDiff, Nat.reduceLT, Nat.reduceEqDiff, Nat.reduceBEq, Nat.reduceBNe, Int.reduceNeg, Int.reduceToNat, Bool.or_false, Bool.false_or, Bool.or_true, Bool.true_or, BEq.rfl, Bool.not_eq_true, Bool.not_eq_false, decide_eq_true_eq, not_true_eq_false, not_false_eq_true, ite_true, ite_false, List.append_nil, and_assoc, Nat.mul_zero, Nat.zero_mul, ir31, fs56w, fs68w, hp]
  intro X
  refine ⟨fun H => ?_, fun H => ⟨H.1, H.2.1, H.2.2.1, H.2.2.2, H⟩, fun hn => ?_, fun hy => ?_⟩
  · have := mul_bd H.1 H.2.2.1 H.2.1 H.2.2.2
    omega
  · have e : ¬ (⟨w, h, xs⟩ : Pl).In lo hi := fun H => by
      obtain ⟨⟨a1, a2, a3, a4, a5⟩, b, _⟩ := H
      simp only at a1 a2 a3 a4 a5 b
      omega
    refine postF.mk' (fun _ => default) [some 0] ?_
    simp -implicitDefEqProofs only [push_cast, false_implies, reduceCtorEq, Classical.not_not, Nat.reduceAdd, Nat.reduceSub, Nat.reduceMul, Nat.reduceLeDiff, Nat.reduceLT, Nat.reduceEqDiff, Nat.reduceBEq, Nat.reduceBNe, Int.reduceNeg, Int.reduceToNat, Bool.or_false, Bool.false_or, Bool.or_true, Bool.true_or, BEq.rfl, Bool.not_eq_true, Bool.not_eq_false, decide_eq_true_eq, not_true_eq_false, not_false_eq_true, ite_true, ite_false, List.append_nil, and_assoc, Nat.mul_zero, Nat.zero_mul, fs31, e, decide_false]
  · have e : (AllIn lo hi xs) ↔ (⟨w, h, xs⟩ : Pl).In lo hi := by
      unfold Pl.In SidesOk
      simp only
      constructor
      · intro H; refine ⟨⟨by omega, by omega, by omega, by omega, by omega⟩, by omega, H⟩
      · intro H; exact H.2.2
    refine postF.mk' (fun _ => default) [some 0] ?_
    simp -implicitDefEqProofs only [push_cast, false_implies, reduceCtorEq, Classical.not_not, Nat.reduceAdd, Nat.reduceSub, Nat.reduceMul, Nat.reduceLeDiff, Nat.reduceLT, Nat.reduceEqDiff, Nat.reduceBEq, Nat.reduceBNe, Int.reduceNeg, Int.reduceToNat, Bool.or_false, Bool.false_or, Bool.or_true, Bool.true_or, BEq.rfl, Bool.not_eq_true, Bool.not_eq_false, decide_eq_true_eq, not_true_eq_false, not_false_eq_true, ite_true, ite_false, List.append_nil, and_assoc, Nat.mul_zero, Nat.zero_mul, fs31, e]
def ent31 : Entry := spOf fs31 inv31
theorem e31 : EntryOk Try.prog 31 ent31 := entry_of ok31 inv31
@[push_cast] theorem ent31_app (us : List SV) (look : Look) (x : Nat → Xf.Loc) (k : Nat) : ent31 us look x k = spOf fs31 inv31 us look x k := rfl
def Pl.Ok (p : Pl) : Prop := p.In (-16777216) 16777216
def Pl.Gr (p : Pl) : Prop := p.In 0 255
instance (p : Pl) : Decidable p.Ok := by unfold Pl.Ok; infer_instance
instance (p : Pl) : Decidable p.Gr := by unfold Pl.Gr; infer_instance
def fs12 : FS where
  A := PlA
  args := fun a => [plV a.p a.L 0]
  mem := fun a => [some (.ro, a.L, .ints .i64 a.p.xs)]
  pre := fun a => a.p.xs.length ≤ 140737488355328
  res := fun a _ => .bool (decide a.p.Ok)
  out := fun _ _ => []
  new := fun _ _ => []
def inv12 : List SV → Look → Option (PlA × List Nat)
  | [v], look => getP look v
  | _, _ => none
attribute [push_cast] inv12
def fs14 : FS := { fs12 with res := fun a _ => .bool (decide a.p.Gr) }
theorem ok14 : FSOk Try.prog 14 fs14 := by
  refine ⟨⟨_, Try.func14, by kernel_rfl, by kernel_rfl⟩, fun a => ⟨by simp [fs14, fs12, push_cast, noMine, argOwn, Chunk.frArg], by simp [fs14, fs12, push_cast, outOk, Chunk.ext], fun x => .inl (by simp [fs14, fs12, push_cast, frNew, frOut, Chunk.fr])⟩, fun a hp => ?_⟩
  obtain ⟨⟨w, h, xs⟩, L⟩ := a
  change xs.length ≤ 140737488355328 at hp
  change Tri Try.prog 14 [plV ⟨w, h, xs⟩ L 0] [some (.ro, L, .ints .i64 xs)] (postF fs14 ⟨⟨w, h, xs⟩, L⟩)
  refine tri_evS (hyp (l := [(31, ent31)]) (lp := []) ⟨e31, trivial⟩ trivial) Try.func14 comp14 (rs := [.tmp 2]) (by rfl) Try.ntmps14 15 ?_
  simp -implicitDefEqProofs only [push_cast, false_implies, reduceCtorEq, Classical.not_not, Nat.reduceAdd, Nat.reduceSub, Nat.reduceMul, Nat.reduceLeDiff, Nat.reduceLT, Nat.reduceEqDiff, Nat.reduceBEq, Nat.reduceBNe, Int.reduceNeg, Int.reduceToNat, Bool.or_false, Bool.false_or, Bool.or_true, Bool.true_or, BEq.rfl, Bool.not_eq_true, Bool.not_eq_false, decide_eq_true_eq, not_true_eq_false, not_false_eq_true, ite_true, ite_false, List.append_nil, and_assoc, Nat.mul_zero, Nat.zero_mul, ir14, fs31, hp]
  refine fun X => postF.mk' (fun _ => default) [some 0] ?_
  simp -implicitDefEqProofs only [push_cast, false_implies, reduceCtorEq, Classical.not_not, Nat.reduceAdd, Nat.reduceSub, Nat.reduceMul, Nat.reduceLeDiff, Nat.reduceLT, Nat.reduceEqDiff, Nat.reduceBEq, Nat.reduceBNe, Int.reduceNeg, Int.reduceToNat, Bool.or_false, Bool.false_or, Bool.or_true, Bool.true_or, BEq.rfl, Bool.not_eq_true, Bool.not_eq_false, decide_eq_true_eq, not_true_eq_false, not_false_eq_true, ite_true, ite_false, List.append_nil, and_assoc, Nat.mul_zero, Nat.zero_mul, fs14, fs12, Pl.Gr]
def ent14 : Entry := spOf fs14 inv12
theorem e14 : EntryOk Try.prog 14 ent14 := entry_of ok14 inv12
@[push_cast] theorem ent14_app (us : List SV) (look : Look) (x : Nat → Xf.Loc) (k : Nat) : ent14 us look x k = spOf fs14 inv12 us look x k := rfl
structure Pl2 where
  a : PlA
  b : PlA
structure Bk where
  y : PlA
  u : PlA
  v : PlA
def Bk.planes (b : Bk) : Prop := b.y.p.Ok ∧ b.u.p.Ok ∧ b.v.p.Ok
def Bk.sides (b : Bk) : Prop := b.u.p.w = b.y.p.w ∧ b.u.p.h = b.y.p.h ∧ b.v.p.w = b.y.p.w ∧ b.v.p.h = b.y.p.h
instance (b : Bk) : Decidable b.planes := by unfold Bk.planes; infer_instance
instance (b : Bk) : Decidable b.sides := by unfold Bk.sides; infer_instance
def Bk.Ok (b : Bk) : Prop := b.planes ∧ b.sides
instance (b : Bk) : Decidable b.Ok := by unfold Bk.Ok; infer_instance
theorem Bk.Ok.val {w h w1 h1 w2 h2 : Int} {xs ys ws : List Int} {L1 L2 L3 : Xf.Loc} (H : (⟨⟨⟨w, h, xs⟩, L1⟩, ⟨⟨w1, h1, ys⟩, L2⟩, ⟨⟨w2, h2, ws⟩, L3⟩⟩ : Bk).Ok) :
    SidesOk w h ∧ (xs.length : Int) = w * h ∧ ys.length = xs.length ∧ ws.length = xs.length ∧ w1 = w ∧ h1 = h ∧ w2 = w ∧ h2 = h ∧
      ∀ k : Nat, k < xs.length → (-16777216 ≤ rd xs k ∧ rd xs k ≤ 16777216) ∧ (-16777216 ≤ rd ys k ∧ rd ys k ≤ 16777216) ∧ (-16777216 ≤ rd ws k ∧ rd ws k ≤ 16777216) := by
  obtain ⟨⟨⟨a1, a2, a3⟩, ⟨b1, b2, b3⟩, ⟨c1, c2, c3⟩⟩, d1, d2, d3, d4⟩ := H
  simp only at a1 a2 a3 b1 b2 b3 c1 c2 c3 d1 d2 d3 d4
  subst d1 d2 d3 d4
  have e1 : ys.length = xs.length := by omega
  have e2 : ws.length = xs.length := by omega
  exact ⟨a1, a2, e1, e2, rfl, rfl, rfl, rfl, fun k hk => ⟨allIn_rd.1 a3 k hk, allIn_rd.1 b3 k (by omega), allIn_rd.1 c3 k (by omega)⟩⟩
def b13_1 : IR :=
  .seq (.seq (.reg false [⟨some 21, none, ⟨[], []⟩, .mov (.t 3)⟩,
    ⟨some 22, none, ⟨[], []⟩, .fld (.t 1) 2⟩,
    ⟨some 23, none, ⟨[], []⟩, .ld false none 0 0 (.t 22)⟩,
    ⟨some 24, none, ⟨[], []⟩, .len (.t 23)⟩,
    ⟨some 25, none, ⟨[], []⟩, .bin 0 .lss (.t 21) (.t 24)⟩] [21, 22, 23, 24] []) (.cond (.t 25) (.skip) (.exit 0))) (.seq (.block 1 (.seq (.reg false [⟨some 28, none, ⟨[], []⟩, .fld (.t 1) 2⟩,
    ⟨some 29, none, ⟨[], []⟩, .ld false none 0 0 (.t 28)⟩,
    ⟨some 30, none, ⟨[], []⟩, .mov (.t 3)⟩,
    ⟨some 31, none, ⟨[], []⟩, .idxS (.t 29) (.t 30) 1⟩,
    ⟨some 32, none, ⟨[], []⟩, .ld true none 0 0 (.t 31)⟩,
    ⟨some 33, none, ⟨[], []⟩, .bin 0 .lss (.t 32) (.k (.int .i64 (-16777216)))⟩,
    ⟨some 34, none, ⟨[], []⟩, .mov (.t 33)⟩,
    ⟨some 35, some (34, false), ⟨[], []⟩, .fld (.t 1) 2⟩,
    ⟨some 36, some (34, false), ⟨[], []⟩, .ld false none 0 0 (.t 35)⟩,
    ⟨some 37, some (34, false), ⟨[], []⟩, .mov (.t 3)⟩,
    ⟨some 38, some (34, false), ⟨[], []⟩, .idxS (.t 36) (.t 37) 1⟩,
    ⟨some 39, some (34, false), ⟨[], []⟩, .ld true none 0 0 (.t 38)⟩,
    ⟨some 40, some (34, false), ⟨[], []⟩, .bin 0 .gtr (.t 39) (.k (.int .i64 16777216))⟩,
    ⟨some 41, none, ⟨[], []⟩, .pick (.t 34) (.k (.bool true)) (.t 40)⟩] [25, 28, 29, 30, 31, 32, 33, 34, 35, 36, 37, 38, 39, 40] []) (.cond (.t 41) (.seq (.reg false [⟨some 2, none, ⟨[], []⟩, .mov (.k (.bool false))⟩] [1, 3, 41] []) (.ret)) (.skip)))) (.reg false [⟨some 26, none, ⟨[], []⟩, .mov (.t 3)⟩,
    ⟨some 27, none, ⟨[], []⟩, .bin 0 .add (.t 26) (.k (.int .i64 1))⟩,
    ⟨some 3, none, ⟨[], []⟩, .mov (.t 27)⟩] [2, 26, 27, 41] []))
def r13_2 : IR :=
  .seq (.reg false [⟨some 2, none, ⟨[], []⟩, .mov (.k (.bool true))⟩] [1, 3] []) (.ret)
def ir13 : IR :=
  .seq (.reg false [⟨some 1, none, ⟨[], []⟩, .box 10 (.t 0)⟩,
    ⟨some 2, none, ⟨[], []⟩, .mov (.k (.bool false))⟩] [0, 2] []) (.seq (.seq (.reg false [⟨some 4, none, ⟨[], []⟩, .fld (.t 1) 0⟩,
    ⟨some 5, none, ⟨[], []⟩, .ld false none 0 0 (.t 4)⟩,
    ⟨some 6, none, ⟨[], []⟩, .fld (.t 1) 1⟩,
    ⟨some 7, none, ⟨[], []⟩, .ld false none 0 0 (.t 6)⟩,
    ⟨some 8, none, ⟨[], []⟩, .callp 32 [.t 5, .t 7]⟩,
    ⟨some 9, none, ⟨[], []⟩, .not (.t 8)⟩,
    ⟨some 10, none, ⟨[], []⟩, .mov (.t 9)⟩,
    ⟨some 11, some (10, false), ⟨[], []⟩, .fld (.t 1) 2⟩,
    ⟨some 12, some (10, false), ⟨[], []⟩, .ld false none 0 0 (.t 11)⟩,
    ⟨some 13, some (10, false), ⟨[], []⟩, .len (.t 12)⟩,
    ⟨some 14, some (10, false), ⟨[], []⟩, .fld (.t 1) 0⟩,
    ⟨some 15, some (10, false), ⟨[], []⟩, .ld false none 0 0 (.t 14)⟩,
    ⟨some 16, some (10, false), ⟨[], []⟩, .fld (.t 1) 1⟩,
    ⟨some 17, some (10, false), ⟨[], []⟩, .ld false none 0 0 (.t 16)⟩,
    ⟨some 18, some (10, false), ⟨[], []⟩, .bin 0 .mul (.t 15) (.t 17)⟩,
    ⟨some 19, some (10, false), ⟨[], []⟩, .bin 0 .neq (.t 13) (.t 18)⟩,
    ⟨some 20, none, ⟨[], []⟩, .pick (.t 10) (.k (.bool true)) (.t 19)⟩] [4, 5, 6, 7, 8, 9, 10, 11, 12, 13, 14, 15, 16, 17, 18, 19] []) (.cond (.t 20) (.seq (.reg false [⟨some 2, none, ⟨[], []⟩, .mov (.k (.bool false))⟩] [1, 20] []) (.ret)) (.skip))) (.seq (.seq (.reg false [⟨some 3, none, ⟨[], []⟩, .mov (.k (.int .i64 0))⟩] [2, 20] []) (.block 0 (.loop b13_1))) (r13_2)))
def kp13_1 : List Nat := [1, 3]
def kl13_1 : List Nat := []
attribute [push_cast] kp13_1 kl13_1
set_option maxRecDepth 4000 in
theorem comp13 : (Try.f13.body.bind fun c => compC tab isP chkAll ir13 c) = some ir13 := by kernel_rfl
theorem ok13 : FSOk Try.prog 13 fs12 := by
  refine ⟨⟨_, Try.func13, by kernel_rfl, by kernel_rfl⟩, fun a => ⟨by simp [fs12, push_cast, noMine, argOwn, Chunk.frArg], by simp [fs12, push_cast, outOk, Chunk.ext], fun x => .inl (by simp [fs12, push_cast, frNew, frOut, Chunk.fr])⟩, fun a hp => ?_⟩
  obtain ⟨⟨w, h, xs⟩, L⟩ := a
  change xs.length ≤ 140737488355328 at hp
  change Tri Try.prog 13 [plV ⟨w, h, xs⟩ L 0] [some (.ro, L, .ints .i64 xs)] (postF fs12 ⟨⟨w, h, xs⟩, L⟩)
  refine tri_evS (hyp (l := []) (lp := [(32, sidesF)]) trivial ⟨p32, trivial⟩) Try.func13 comp13 (rs := [.tmp 2]) (by rfl) Try.ntmps13 11 ?_
  simp -implicitDefEqProofs only [push_cast, false_implies, reduceCtorEq, Classical.not_not, Nat.reduceAdd, Nat.reduceSub, Nat.reduceMul, Nat.reduceLeDiff, Nat.reduceLT, Nat.reduceEqDiff, Nat.reduceBEq, Nat.reduceBNe, Int.reduceNeg, Int.reduceToNat, Bool.or_false, Bool.false_or, Bool.or_true, Bool.true_or, BEq.rfl, Bool.not_eq_true, Bool.not_eq_false, decide_eq_true_eq, not_true_eq_false, not_false_eq_true, ite_true, ite_false, List.append_nil, and_assoc, Nat.mul_zero, Nat.zero_mul, ir13]
  refine fun X => ⟨fun H => ?_, fun hn => ?_, fun hy => ?_⟩
  · have := H.bd
    exact ⟨H, by omega, by omega⟩
  · have e : ¬ (⟨w, h, xs⟩ : Pl).Ok := fun H => by
      obtain ⟨a1, b, _⟩ := H
      simp only at a1 b
      simp [a1, b] at hn
    refine postF.mk' (fun _ => default) [some 0] ?_
    simp -implicitDefEqProofs only [push_cast, false_implies, reduceCtorEq, Classical.not_not, Nat.reduceAdd, Nat.reduceSub, Nat.reduceMul, Nat.reduceLeDiff, Nat.reduceLT, Nat.reduceEqDiff, Nat.reduceBEq, Nat.reduceBNe, Int.reduceNeg, Int.reduceToNat, Bool.or_false, Bool.false_or, Bool.or_true, Bool.true_or, BEq.rfl, Bool.not_eq_true, Bool.not_eq_false, decide_eq_true_eq, not_true_eq_false, not_false_eq_true, ite_true, ite_false, List.append_nil, and_assoc, Nat.mul_zero, Nat.zero_mul, fs12, e, decide_false]
  have hs : SidesOk w h := Classical.byContradiction fun H => hy (.inl H)
  have hl : (xs.length : Int) = w * h := Classical.byContradiction fun H => hy (.inr H)
  refine evS_loopU (A := Nat) kp13_1 kl13_1 (fun i => [(3, .int .i64 i)]) (fun _ => [])
    (fun i => i ≤ xs.length ∧ ∀ j, j < i → -16777216 ≤ rd xs (j : Nat) ∧ rd xs (j : Nat) ≤ 16777216) (fun i => xs.length - i) 0 ⟨by omega, by omega⟩ (Sub.pt ?_) ?_
  · simp -implicitDefEqProofs only [push_cast, false_implies, reduceCtorEq, Classical.not_not, Nat.reduceAdd, Nat.reduceSub, Nat.reduceMul, Nat.reduceLeDiff, Nat.reduceLT, Nat.reduceEqDiff, Nat.reduceBEq, Nat.reduceBNe, Int.reduceNeg, Int.reduceToNat, Bool.or_false, Bool.false_or, Bool.or_true, Bool.true_or, BEq.rfl, Bool.not_eq_true, Bool.not_eq_false, decide_eq_true_eq, not_true_eq_false, not_false_eq_true, ite_true, ite_false, List.append_nil, and_assoc, Nat.mul_zero, Nat.zero_mul]
  intro i ⟨h1, h2⟩ K hK
  simp -implicitDefEqProofs only [push_cast, false_implies, reduceCtorEq, Classical.not_not, Nat.reduceAdd, Nat.reduceSub, Nat.reduceMul, Nat.reduceLeDiff, Nat.reduceLT, Nat.reduceEqDiff, Nat.reduceBEq, Nat.reduceBNe, Int.reduceNeg, Int.reduceToNat, Bool.or_false, Bool.false_or, Bool.or_true, Bool.true_or, BEq.rfl, Bool.not_eq_true, Bool.not_eq_false, decide_eq_true_eq, not_true_eq_false, not_false_eq_true, ite_true, ite_false, List.append_nil, and_assoc, Nat.mul_zero, Nat.zero_mul, b13_1, r13_2]
  refine ⟨fun hl => ?_, fun hl => ?_⟩
  · repeat (refine And.intro (by first | omega | trivial | (intros; omega)) ?_)
    refine ⟨fun hb => ?_, fun hg => ⟨by omega, by omega, ?_⟩⟩
    · have e : ¬ (⟨w, h, xs⟩ : Pl).Ok := fun H => by
        have := allIn_rd.1 H.2.2 i (show i < xs.length by omega)
        simp only at this
        omega
      refine postF.mk' (fun _ => default) [some 0] ?_
      simp -implicitDefEqProofs only [push_cast, false_implies, reduceCtorEq, Classical.not_not, Nat.reduceAdd, Nat.reduceSub, Nat.reduceMul, Nat.reduceLeDiff, Nat.reduceLT, Nat.reduceEqDiff, Nat.reduceBEq, Nat.reduceBNe, Int.reduceNeg, Int.reduceToNat, Bool.or_false, Bool.false_or, Bool.or_true, Bool.true_or, BEq.rfl, Bool.not_eq_true, Bool.not_eq_false, decide_eq_true_eq, not_true_eq_false, not_false_eq_true, ite_true, ite_false, List.append_nil, and_assoc, Nat.mul_zero, Nat.zero_mul, fs12, e, decide_false]
    · refine hK (i + 1) ⟨by omega, fun j hj => ?_⟩ (show xs.length - (i + 1) < xs.length - i by omega) _ _ (Sub.pt ?_)
      · by_cases e : j = i
        · subst e; omega
        · exact h2 j (by omega)
      · simp -implicitDefEqProofs only [push_cast, false_implies, reduceCtorEq, Classical.not_not, Nat.reduceAdd, Nat.reduceSub, Nat.reduceMul, Nat.reduceLeDiff, Nat.reduceLT, Nat.reduceEqDiff, Nat.reduceBEq, Nat.reduceBNe, Int.reduceNeg, Int.reduceToNat, Bool.or_false, Bool.false_or, Bool.or_true, Bool.true_or, BEq.rfl, Bool.not_eq_true, Bool.not_eq_false, decide_eq_true_eq, not_true_eq_false, not_false_eq_true, ite_true, ite_false, List.append_nil, and_assoc, Nat.mul_zero, Nat.zero_mul]
  · have e : (⟨w, h, xs⟩ : Pl).Ok := ⟨hs, ‹_›, allIn_rd.2 fun j (hj : j < xs.length) => h2 j (by omega)⟩
    refine postF.mk' (fun _ => default) [some 0] ?_
    simp -implicitDefEqProofs only [push_cast, false_implies, reduceCtorEq, Classical.not_not, Nat.reduceAdd, Nat.reduceSub, Nat.reduceMul, Nat.reduceLeDiff, Nat.reduceLT, Nat.reduceEqDiff, Nat.reduceBEq, Nat.reduceBNe, Int.reduceNeg, Int.reduceToNat, Bool.or_false, Bool.false_or, Bool.or_true, Bool.true_or, BEq.rfl, Bool.not_eq_true, Bool.not_eq_false, decide_eq_true_eq, not_true_eq_false, not_false_eq_true, ite_true, ite_false, List.append_nil, and_assoc, Nat.mul_zero, Nat.zero_mul, fs12, e, decide_true]
def ent13 : Entry := spOf fs12 inv12
theorem e13 : EntryOk Try.prog 13 ent13 := entry_of ok13 inv12
@[push_cast] theorem ent13_app (us : List SV) (look : Look) (x : Nat → Xf.Loc) (k : Nat) : ent13 us look x k = spOf fs12 inv12 us look x k := rfl
def b15_1 : IR :=
  .seq (.seq (.reg false [⟨some 7, none, ⟨[], []⟩, .mov (.t 3)⟩,
    ⟨some 8, none, ⟨[], []⟩, .fld (.t 1) 2⟩,
    ⟨some 9, none, ⟨[], []⟩, .ld false none 0 0 (.t 8)⟩,
    ⟨some 10, none, ⟨[], []⟩, .len (.t 9)⟩,
    ⟨some 11, none, ⟨[], []⟩, .bin 0 .lss (.t 7) (.t 10)⟩] [7, 8, 9, 10] []) (.cond (.t 11) (.skip) (.exit 0))) (.seq (.block 1 (.seq (.reg false [⟨some 14, none, ⟨[], []⟩, .fld (.t 1) 2⟩,
    ⟨some 15, none, ⟨[], []⟩, .ld false none 0 0 (.t 14)⟩,
    ⟨some 16, none, ⟨[], []⟩, .mov (.t 3)⟩,
    ⟨some 17, none, ⟨[], []⟩, .idxS (.t 15) (.t 16) 1⟩,
    ⟨some 18, none, ⟨[], []⟩, .ld true none 0 0 (.t 17)⟩,
    ⟨some 19, none, ⟨[], []⟩, .bin 0 .lss (.t 18) (.k (.int .i64 0))⟩,
    ⟨some 20, none, ⟨[], []⟩, .mov (.t 19)⟩,
    ⟨some 21, some (20, false), ⟨[], []⟩, .fld (.t 1) 2⟩,
    ⟨some 22, some (20, false), ⟨[], []⟩, .ld false none 0 0 (.t 21)⟩,
    ⟨some 23, some (20, false), ⟨[], []⟩, .mov (.t 3)⟩,
    ⟨some 24, some (20, false), ⟨[], []⟩, .idxS (.t 22) (.t 23) 1⟩,
    ⟨some 25, some (20, false), ⟨[], []⟩, .ld true none 0 0 (.t 24)⟩,
    ⟨some 26, some (20, false), ⟨[], []⟩, .bin 0 .gtr (.t 25) (.k (.int .i64 255))⟩,
    ⟨some 27, none, ⟨[], []⟩, .pick (.t 20) (.k (.bool true)) (.t 26)⟩] [11, 14, 15, 16, 17, 18, 19, 20, 21, 22, 23, 24, 25, 26] []) (.cond (.t 27) (.seq (.reg false [⟨some 2, none, ⟨[], []⟩, .mov (.k (.bool false))⟩] [1, 3, 27] []) (.ret)) (.skip)))) (.reg false [⟨some 12, none, ⟨[], []⟩, .mov (.t 3)⟩,
    ⟨some 13, none, ⟨[], []⟩, .bin 0 .add (.t 12) (.k (.int .i64 1))⟩,
    ⟨some 3, none, ⟨[], []⟩, .mov (.t 13)⟩] [2, 12, 13, 27] []))
def r15_2 : IR :=
  .seq (.reg false [⟨some 2, none, ⟨[], []⟩, .mov (.k (.bool true))⟩] [1, 3] []) (.ret)
def ir15 : IR :=
  .seq (.reg false [⟨some 1, none, ⟨[], []⟩, .box 10 (.t 0)⟩,
    ⟨some 2, none, ⟨[], []⟩, .mov (.k (.bool false))⟩] [0, 2] []) (.seq (.seq (.reg false [⟨some 4, none, ⟨[], []⟩, .ld false (some 3) 0 0 (.t 1)⟩,
    ⟨some 5, none, ⟨[], []⟩, .call (some 4) 11 13 [.t 4]⟩,
    ⟨some 6, none, ⟨[], []⟩, .not (.t 5)⟩] [4, 5] []) (.cond (.t 6) (.seq (.reg false [⟨some 2, none, ⟨[], []⟩, .mov (.k (.bool false))⟩] [1, 6] []) (.ret)) (.skip))) (.seq (.seq (.reg false [⟨some 3, none, ⟨[], []⟩, .mov (.k (.int .i64 0))⟩] [2, 6] []) (.block 0 (.loop b15_1))) (r15_2)))
def kp15_1 : List Nat := [1, 3]
def kl15_1 : List Nat := []
attribute [push_cast] kp15_1 kl15_1
set_option maxRecDepth 4000 in
theorem comp15 : (Try.f15.body.bind fun c => compC tab isP chkAll ir15 c) = some ir15 := by kernel_rfl
theorem Dens.mem : ∀ {cs : List SV} {vs : List Value} {c : SV}, Dens cs vs → c ∈ cs → ∃ v, Den c v
  | [], _, _, _, h => by cases h
  | d :: cs, vs, c, hd, h => by
    simp only [Dens] at hd
    obtain ⟨v, vs', _, h1, h2⟩ := hd
    rcases List.mem_cons.1 h with rfl | h
    · exact ⟨v, h1⟩
    · exact Dens.mem h2 h
structure Row2 where
  L : Xf.Loc
  xs : List Int
  M : Xf.Loc
  ys : List Int
theorem Pl.gr_iff {p : Pl} : p.Gr ↔ p.Ok ∧ AllIn 0 255 p.xs := by
  constructor
  · intro H; exact ⟨⟨H.1, H.2.1, fun n hn => by have := H.2.2 n hn; omega⟩, H.2.2⟩
  · intro H; exact ⟨H.1.1, H.1.2.1, H.2⟩
theorem ok15 : FSOk Try.prog 15 fs14 := by
  refine ⟨⟨_, Try.func15, by kernel_rfl, by kernel_rfl⟩, fun a => ⟨by simp [fs14, fs12, push_cast, noMine, argOwn, Chunk.frArg], by simp [fs14, fs12, push_cast, outOk, Chunk.ext], fun x => .inl (by simp [fs14, fs12, push_cast, frNew, frOut, Chunk.fr])⟩, fun a hp => ?_⟩
  obtain ⟨⟨w, h, xs⟩, L⟩ := a
  change xs.length ≤ 140737488355328 at hp
  change Tri Try.prog 15 [plV ⟨w, h, xs⟩ L 0] [some (.ro, L, .ints .i64 xs)] (postF fs14 ⟨⟨w, h, xs⟩, L⟩)
  refine tri_evS (hyp (l := [(13, ent13)]) (lp := []) ⟨e13, trivial⟩ trivial) Try.func15 comp15 (rs := [.tmp 2]) (by rfl) Try.ntmps15 15 ?_
  simp -implicitDefEqProofs only [push_cast, false_implies, reduceCtorEq, Classical.not_not, Nat.reduceAdd, Nat.reduceSub, Nat.reduceMul, Nat.reduceLeDiff, Nat.reduceLT, Nat.reduceEqDiff, Nat.reduceBEq, Nat.reduceBNe, Int.reduceNeg, Int.reduceToNat, Bool.or_false, Bool.false_or, Bool.or_true, Bool.true_or, BEq.rfl, Bool.not_eq_true, Bool.not_eq_false, decide_eq_true_eq, not_true_eq_false, not_false_eq_true, ite_true, ite_false, List.append_nil, and_assoc, Nat.mul_zero, Nat.zero_mul, ir15, fs12, hp]
  refine fun X => ⟨fun hn => ?_, fun hy => ?_⟩
  · have e : ¬ (⟨w, h, xs⟩ : Pl).Gr := fun H => hn (Pl.gr_iff.1 H).1
    refine postF.mk' (fun _ => default) [some 0] ?_
    simp -implicitDefEqProofs only [push_cast, false_implies, reduceCtorEq, Classical.not_not, Nat.reduceAdd, Nat.reduceSub, Nat.reduceMul, Nat.reduceLeDiff, Nat.reduceLT, Nat.reduceEqDiff, Nat.reduceBEq, Nat.reduceBNe, Int.reduceNeg, Int.reduceToNat, Bool.or_false, Bool.false_or, Bool.or_true, Bool.true_or, BEq.rfl, Bool.not_eq_true, Bool.not_eq_false, decide_eq_true_eq, not_true_eq_false, not_false_eq_true, ite_true, ite_false, List.append_nil, and_assoc, Nat.mul_zero, Nat.zero_mul, fs14, fs12, e, decide_false]
  refine evS_loopU (A := Nat) kp15_1 kl15_1 (fun i => [(3, .int .i64 i)]) (fun _ => [])
    (fun i => i ≤ xs.length ∧ ∀ j, j < i → 0 ≤ rd xs (j : Nat) ∧ rd xs (j : Nat) ≤ 255) (fun i => xs.length - i) 0 ⟨by omega, by omega⟩ (Sub.pt ?_) ?_
  · simp -implicitDefEqProofs only [push_cast, false_implies, reduceCtorEq, Classical.not_not, Nat.reduceAdd, Nat.reduceSub, Nat.reduceMul, Nat.reduceLeDiff, Nat.reduceLT, Nat.reduceEqDiff, Nat.reduceBEq, Nat.reduceBNe, Int.reduceNeg, Int.reduceToNat, Bool.or_false, Bool.false_or, Bool.or_true, Bool.true_or, BEq.rfl, Bool.not_eq_true, Bool.not_eq_false, decide_eq_true_eq, not_true_eq_false, not_false_eq_true, ite_true, ite_false, List.append_nil, and_assoc, Nat.mul_zero, Nat.zero_mul]
  intro i ⟨h1, h2⟩ K hK
  simp -implicitDefEqProofs only [push_cast, false_implies, reduceCtorEq, Classical.not_not, Nat.reduceAdd, Nat.reduceSub, Nat.reduceMul, Nat.reduceLeDiff, Nat.reduceLT, Nat.reduceEqDiff, Nat.reduceBEq, Nat.reduceBNe, Int.reduceNeg, Int.reduceToNat, Bool.or_false, Bool.false_or, Bool.or_true, Bool.true_or, BEq.rfl, Bool.not_eq_true, Bool.not_eq_false, decide_eq_true_eq, not_true_eq_false, not_false_eq_true, ite_true, ite_false, List.append_nil, and_assoc, Nat.mul_zero, Nat.zero_mul, b15_1, r15_2]
  refine ⟨fun hl => ?_, fun hl => ?_⟩
  · repeat (refine And.intro (by first | omega | trivial | (intros; omega)) ?_)
    refine ⟨fun hb => ?_, fun hg => ⟨by omega, by omega, ?_⟩⟩
    · have e : ¬ (⟨w, h, xs⟩ : Pl).Gr := fun H => by
        have := allIn_rd.1 H.2.2 i (show i < xs.length by omega)
        simp only at this
        omega
      refine postF.mk' (fun _ => default) [some 0] ?_
      simp -implicitDefEqProofs only [push_cast, false_implies, reduceCtorEq, Classical.not_not, Nat.reduceAdd, Nat.reduceSub, Nat.reduceMul, Nat.reduceLeDiff, Nat.reduceLT, Nat.reduceEqDiff, Nat.reduceBEq, Nat.reduceBNe, Int.reduceNeg, Int.reduceToNat, Bool.or_false, Bool.false_or, Bool.or_true, Bool.true_or, BEq.rfl, Bool.not_eq_true, Bool.not_eq_false, decide_eq_true_eq, not_true_eq_false, not_false_eq_true, ite_true, ite_false, List.append_nil, and_assoc, Nat.mul_zero, Nat.zero_mul, fs14, fs12, e, decide_false]
    · refine hK (i + 1) ⟨by omega, fun j hj => ?_⟩ (show xs.length - (i + 1) < xs.length - i by omega) _ _ (Sub.pt ?_)
      · by_cases e : j = i
        · subst e; omega
        · exact h2 j (by omega)
      · simp -implicitDefEqProofs only [push_cast, false_implies, reduceCtorEq, Classical.not_not, Nat.reduceAdd, Nat.reduceSub, Nat.reduceMul, Nat.reduceLeDiff, Nat.reduceLT, Nat.reduceEqDiff, Nat.reduceBEq, Nat.reduceBNe, Int.reduceNeg, Int.reduceToNat, Bool.or_false, Bool.false_or, Bool.or_true, Bool.true_or, BEq.rfl, Bool.not_eq_true, Bool.not_eq_false, decide_eq_true_eq, not_true_eq_false, not_false_eq_true, ite_true, ite_false, List.append_nil, and_assoc, Nat.mul_zero, Nat.zero_mul]
  · have e : (⟨w, h, xs⟩ : Pl).Gr := Pl.gr_iff.2 ⟨hy, allIn_rd.2 fun j (hj : j < xs.length) => h2 j (by omega)⟩
    refine postF.mk' (fun _ => default) [some 0] ?_
    simp -implicitDefEqProofs only [push_cast, false_implies, reduceCtorEq, Classical.not_not, Nat.reduceAdd, Nat.reduceSub, Nat.reduceMul, Nat.reduceLeDiff, Nat.reduceLT, Nat.reduceEqDiff, Nat.reduceBEq, Nat.reduceBNe, Int.reduceNeg, Int.reduceToNat, Bool.or_false, Bool.false_or, Bool.or_true, Bool.true_or, BEq.rfl, Bool.not_eq_true, Bool.not_eq_false, decide_eq_true_eq, not_true_eq_false, not_false_eq_true, ite_true, ite_false, List.append_nil, and_assoc, Nat.mul_zero, Nat.zero_mul, fs14, fs12, e, decide_true]
def ent15 : Entry := spOf fs14 inv12
theorem e15 : EntryOk Try.prog 15 ent15 := entry_of ok15 inv12
@[push_cast] theorem ent15_app (us : List SV) (look : Look) (x : Nat → Xf.Loc) (k : Nat) : ent15 us look x k = spOf fs14 inv12 us look x k := rfl
theorem dm_at {w v u : Nat} (hu : u < w) : (v * w + u) / w = v ∧ (v * w + u) % w = u := by
  constructor
  · rw [Nat.mul_comm, Nat.mul_add_div (by omega), Nat.div_eq_of_lt hu, Nat.add_zero]
  · rw [Nat.mul_comm, Nat.mul_add_mod, Nat.mod_eq_of_lt hu]
structure PlD where
  a : PlA
  w : Int
  h : Int
def PlD.fit (d : PlD) : Prop := SidesOk d.w d.h ∧ d.a.p.w = (d.w + 1) / 2 ∧ d.a.p.h = (d.h + 1) / 2
instance (d : PlD) : Decidable d.fit := by unfold PlD.fit; infer_instance
def PlD.Ok (d : PlD) : Prop := d.a.p.Ok ∧ d.fit
instance (d : PlD) : Decidable d.Ok := by unfold PlD.Ok; infer_instance
def ir70 : IR :=
  .seq (.reg false [⟨some 4, none, ⟨[], []⟩, .mov (.k (.bool false))⟩] [4] []) (.seq (.reg false [⟨some 5, none, ⟨[], []⟩, .mov (.t 0)⟩,
    ⟨some 6, none, ⟨[], []⟩, .bin 0 .geq (.t 5) (.k (.int .i64 0))⟩,
    ⟨some 7, none, ⟨[], []⟩, .mov (.t 6)⟩,
    ⟨some 8, some (7, true), ⟨[], []⟩, .mov (.t 1)⟩,
    ⟨some 9, some (7, true), ⟨[], []⟩, .bin 0 .geq (.t 8) (.k (.int .i64 0))⟩,
    ⟨some 10, none, ⟨[], []⟩, .pick (.t 7) (.t 9) (.k (.bool false))⟩,
    ⟨some 11, none, ⟨[], []⟩, .mov (.t 10)⟩,
    ⟨some 12, some (11, true), ⟨[], []⟩, .mov (.t 0)⟩,
    ⟨some 13, some (11, true), ⟨[], []⟩, .bin 0 .leq (.t 12) (.k (.int .i64 200))⟩,
    ⟨some 14, none, ⟨[], []⟩, .pick (.t 11) (.t 13) (.k (.bool false))⟩,
    ⟨some 15, none, ⟨[], []⟩, .mov (.t 14)⟩,
    ⟨some 16, some (15, true), ⟨[], []⟩, .mov (.t 1)⟩,
    ⟨some 17, some (15, true), ⟨[], []⟩, .bin 0 .leq (.t 16) (.k (.int .i64 200))⟩,
    ⟨some 18, none, ⟨[], []⟩, .pick (.t 15) (.t 17) (.k (.bool false))⟩,
    ⟨some 19, none, ⟨[], []⟩, .mov (.t 18)⟩,
    ⟨some 20, some (19, true), ⟨[], []⟩, .mov (.t 0)⟩,
    ⟨some 21, some (19, true), ⟨[], []⟩, .mov (.t 1)⟩,
    ⟨some 22, some (19, true), ⟨[], []⟩, .bin 0 .mul (.t 20) (.t 21)⟩,
    ⟨some 23, some (19, true), ⟨[], []⟩, .bin 0 .leq (.t 22) (.k (.int .i64 8192))⟩,
    ⟨some 24, none, ⟨[], []⟩, .pick (.t 19) (.t 23) (.k (.bool false))⟩,
    ⟨some 4, none, ⟨[], []⟩, .mov (.t 24)⟩] [0, 1, 5, 6, 7, 8, 9, 10, 11, 12, 13, 14, 15, 16, 17, 18, 19, 20, 21, 22, 23, 24] []) (.ret))
set_option maxRecDepth 4000 in
theorem comp70 : (Try.f70.body.bind fun c => compC tab isP chkAll ir70 c) = some ir70 := by kernel_rfl
def ir65 : IR :=
  .seq (.reg false [⟨some 3, none, ⟨[], []⟩, .box 10 (.t 0)⟩,
    ⟨some 6, none, ⟨[], []⟩, .mov (.k (.bool false))⟩] [0, 6] []) (.seq (.reg false [⟨some 7, none, ⟨[], []⟩, .mov (.t 1)⟩,
    ⟨some 8, none, ⟨[], []⟩, .bin 0 .geq (.t 7) (.k (.int .i64 0))⟩,
    ⟨some 9, none, ⟨[], []⟩, .mov (.t 8)⟩,
    ⟨some 10, some (9, true), ⟨[], []⟩, .mov (.t 2)⟩,
    ⟨some 11, some (9, true), ⟨[], []⟩, .bin 0 .geq (.t 10) (.k (.int .i64 0))⟩,
    ⟨some 12, none, ⟨[], []⟩, .pick (.t 9) (.t 11) (.k (.bool false))⟩,
    ⟨some 13, none, ⟨[], []⟩, .mov (.t 12)⟩,
    ⟨some 14, some (13, true), ⟨[], []⟩, .mov (.t 1)⟩,
    ⟨some 15, some (13, true), ⟨[], []⟩, .fld (.t 3) 0⟩,
    ⟨some 16, some (13, true), ⟨[], []⟩, .ld false none 0 0 (.t 15)⟩,
    ⟨some 17, some (13, true), ⟨[], []⟩, .bin 0 .lss (.t 14) (.t 16)⟩,
    ⟨some 18, none, ⟨[], []⟩, .pick (.t 13) (.t 17) (.k (.bool false))⟩,
    ⟨some 19, none, ⟨[], []⟩, .mov (.t 18)⟩,
    ⟨some 20, some (19, true), ⟨[], []⟩, .mov (.t 2)⟩,
    ⟨some 21, some (19, true), ⟨[], []⟩, .fld (.t 3) 1⟩,
    ⟨some 22, some (19, true), ⟨[], []⟩, .ld false none 0 0 (.t 21)⟩,
    ⟨some 23, some (19, true), ⟨[], []⟩, .bin 0 .lss (.t 20) (.t 22)⟩,
    ⟨some 24, none, ⟨[], []⟩, .pick (.t 19) (.t 23) (.k (.bool false))⟩,
    ⟨some 6, none, ⟨[], []⟩, .mov (.t 24)⟩] [1, 2, 3, 7, 8, 9, 10, 11, 12, 13, 14, 15, 16, 17, 18, 19, 20, 21, 22, 23, 24] []) (.ret))
set_option maxRecDepth 4000 in
theorem comp65 : (Try.f65.body.bind fun c => compC tab isP chkAll ir65 c) = some ir65 := by kernel_rfl
def ir50 : IR :=
  .seq (.reg false [⟨some 3, none, ⟨[], []⟩, .box 10 (.t 0)⟩,
    ⟨some 6, none, ⟨[], []⟩, .mov (.k (.int .i64 0))⟩] [0, 6] []) (.seq (.seq (.reg false [⟨some 7, none, ⟨[], []⟩, .ld false (some 3) 0 0 (.t 3)⟩,
    ⟨some 8, none, ⟨[], []⟩, .mov (.t 1)⟩,
    ⟨some 9, none, ⟨[], []⟩, .mov (.t 2)⟩,
    ⟨some 10, none, ⟨[], []⟩, .call (some 4) 11 65 [.t 7, .t 8, .t 9]⟩,
    ⟨some 11, none, ⟨[], []⟩, .not (.t 10)⟩] [7, 8, 9, 10] []) (.cond (.t 11) (.seq (.reg false [⟨some 6, none, ⟨[], []⟩, .mov (.k (.int .i64 0))⟩] [1, 2, 3, 11] []) (.ret)) (.skip))) (.seq (.reg false [⟨some 12, none, ⟨[], []⟩, .fld (.t 3) 2⟩,
    ⟨some 13, none, ⟨[], []⟩, .ld false none 0 0 (.t 12)⟩,
    ⟨some 14, none, ⟨[], []⟩, .mov (.t 2)⟩,
    ⟨some 15, none, ⟨[], []⟩, .fld (.t 3) 0⟩,
    ⟨some 16, none, ⟨[], []⟩, .ld false none 0 0 (.t 15)⟩,
    ⟨some 17, none, ⟨[], []⟩, .bin 0 .mul (.t 14) (.t 16)⟩,
    ⟨some 18, none, ⟨[], []⟩, .mov (.t 1)⟩,
    ⟨some 19, none, ⟨[], []⟩, .bin 0 .add (.t 17) (.t 18)⟩,
    ⟨some 20, none, ⟨[], []⟩, .idxS (.t 13) (.t 19) 1⟩,
    ⟨some 21, none, ⟨[], []⟩, .ld true none 0 0 (.t 20)⟩,
    ⟨some 22, none, ⟨[], []⟩, .cvt 0 .i64 (.t 21)⟩,
    ⟨some 6, none, ⟨[], []⟩, .mov (.t 22)⟩] [1, 2, 3, 11, 12, 13, 14, 15, 16, 17, 18, 19, 20, 21, 22] []) (.ret)))
set_option maxRecDepth 4000 in
theorem comp50 : (Try.f50.body.bind fun c => compC tab isP chkAll ir50 c) = some ir50 := by kernel_rfl
structure Bm where
  w : Int
  h : Int
  xs : List Int
def bmV (b : Bm) (L : Xf.Loc) (c : Nat) : SV := .agg [.int .i64 b.w, .int .i64 b.h, .sl c L 1 0 b.xs.length]
attribute [push_cast] bmV
structure BmA where
  b : Bm
  L : Xf.Loc
def getB (look : Look) : SV → Option (BmA × List Nat)
  | .agg [.int .i64 w, .int .i64 h, .sl c _ 1 0 _] => match rowI (lkZ look (.ints .u8 []) c) with
    | some (L, .u8, xs) => some (⟨⟨w, h, xs⟩, L⟩, [c])
    | _ => none
  | _ => none
attribute [push_cast] getB
def Bits (xs : List Int) : Prop := ∀ n, n ∈ xs → n ≤ 1
instance (xs : List Int) : Decidable (Bits xs) := by unfold Bits; infer_instance
def Bm.Ok (b : Bm) : Prop := SidesOk b.w b.h ∧ b.xs.length = b.w * b.h ∧ Bits b.xs
instance (b : Bm) : Decidable b.Ok := by unfold Bm.Ok; infer_instance
theorem p70 : EntryPOk Try.prog 70 sidesF := by
  refine ⟨⟨_, Try.func70, by kernel_rfl, by kernel_rfl⟩, fun us p v h hp => ?_⟩
  unfold sidesF at h
  split at h <;> cases h
  refine tri_evS (hyp (l := []) (lp := []) trivial trivial) Try.func70 comp70 (rs := [.tmp 4]) (by rfl) Try.ntmps70 10 ?_
  simp -implicitDefEqProofs only [push_cast, false_implies, reduceCtorEq, Classical.not_not, Nat.reduceAdd, Nat.reduceSub, Nat.reduceMul, Nat.reduceLeDiff, Nat.reduceLT, Nat.reduceEqDiff, Nat.reduceBEq, Nat.reduceBNe, Int.reduceNeg, Int.reduceToNat, Bool.or_false, Bool.false_or, Bool.or_true, Bool.true_or, BEq.rfl, Bool.not_eq_true, Bool.not_eq_false, decide_eq_true_eq, not_true_eq_false, not_false_eq_true, ite_true, ite_false, List.append_nil, and_assoc, Nat.mul_zero, Nat.zero_mul, ir70, sidesF]
  refine ⟨fun h => ?_, by simp only [SidesOk, and_assoc]⟩
  have := mul_bd h.1 h.2.2.1 h.2.1 h.2.2.2
  omega
structure AtA where
  a : BmA
  x : Int
  y : Int
def AtA.inside (a : AtA) : Prop := 0 ≤ a.x ∧ 0 ≤ a.y ∧ a.x < a.a.b.w ∧ a.y < a.a.b.h
instance (a : AtA) : Decidable a.inside := by unfold AtA.inside; infer_instance
def atV (a : AtA) : Int := if a.inside then rd a.a.b.xs (a.y * a.a.b.w + a.x) else 0
def fs65 : FS where
  A := AtA
  args := fun a => [bmV a.a.b a.a.L 0, .int .i64 a.x, .int .i64 a.y]
  mem := fun a => [some (.ro, a.a.L, .ints .u8 a.a.b.xs)]
  pre := fun _ => True
  res := fun a _ => .bool (decide a.inside)
  out := fun _ _ => []
  new := fun _ _ => []
def inv65 : List SV → Look → Option (AtA × List Nat)
  | [v, .int .i64 x, .int .i64 y], look => match getB look v with
    | some (a, g) => some (⟨a, x, y⟩, g)
    | _ => none
  | _, _ => none
attribute [push_cast] inv65
theorem ok65 : FSOk Try.prog 65 fs65 := by
  refine ⟨⟨_, Try.func65, by kernel_rfl, by kernel_rfl⟩, fun a => ⟨by simp [fs65, push_cast, noMine, argOwn, Chunk.frArg], by simp [fs65, push_cast, outOk, Chunk.ext], fun x => .inl (by simp [fs65, push_cast, frNew, frOut, Chunk.fr])⟩, fun a hp => ?_⟩
  obtain ⟨⟨⟨w, h, xs⟩, L⟩, x, y⟩ := a
  change Tri Try.prog 65 [bmV ⟨w, h, xs⟩ L 0, .int .i64 x, .int .i64 y] [some (.ro, L, .ints .u8 xs)] (postF fs65 ⟨⟨⟨w, h, xs⟩, L⟩, x, y⟩)
  refine tri_evS (hyp (l := []) (lp := []) trivial trivial) Try.func65 comp65 (rs := [.tmp 6]) (by rfl) Try.ntmps65 11 ?_
  simp -implicitDefEqProofs only [push_cast, false_implies, reduceCtorEq, Classical.not_not, Nat.reduceAdd, Nat.reduceSub, Nat.reduceMul, Nat.reduceLeDiff, Nat.reduceLT, Nat.reduceEqDiff, Nat.reduceBEq, Nat.reduceBNe, Int.reduceNeg, Int.reduceToNat, Bool.or_false, Bool.false_or, Bool.or_true, Bool.true_or, BEq.rfl, Bool.not_eq_true, Bool.not_eq_false, decide_eq_true_eq, not_true_eq_false, not_false_eq_true, ite_true, ite_false, List.append_nil, and_assoc, Nat.mul_zero, Nat.zero_mul, ir65]
  refine fun X => ⟨fun H => ⟨H.1, H.2, H⟩, fun H => ⟨H.1, H.2.1, H.2.2, H⟩, postF.mk' (fun _ => default) [some 0] ?_⟩
  simp -implicitDefEqProofs only [push_cast, false_implies, reduceCtorEq, Classical.not_not, Nat.reduceAdd, Nat.reduceSub, Nat.reduceMul, Nat.reduceLeDiff, Nat.reduceLT, Nat.reduceEqDiff, Nat.reduceBEq, Nat.reduceBNe, Int.reduceNeg, Int.reduceToNat, Bool.or_false, Bool.false_or, Bool.or_true, Bool.true_or, BEq.rfl, Bool.not_eq_true, Bool.not_eq_false, decide_eq_true_eq, not_true_eq_false, not_false_eq_true, ite_true, ite_false, List.append_nil, and_assoc, Nat.mul_zero, Nat.zero_mul, fs65, AtA.inside]
def ent65 : Entry := spOf fs65 inv65
theorem e65 : EntryOk Try.prog 65 ent65 := entry_of ok65 inv65
@[push_cast] theorem ent65_app (us : List SV) (look : Look) (x : Nat → Xf.Loc) (k : Nat) : ent65 us look x k = spOf fs65 inv65 us look x k := rfl
def fs50 : FS := { fs65 with pre := fun a => a.a.b.Ok ∧ ∀ n, n ∈ a.a.b.xs → 0 ≤ n, res := fun a _ => .int .i64 (atV a) }
theorem ok50 : FSOk Try.prog 50 fs50 := by
  refine ⟨⟨_, Try.func50, by kernel_rfl, by kernel_rfl⟩, fun a => ⟨by simp [fs50, fs65, push_cast, noMine, argOwn, Chunk.frArg], by simp [fs50, fs65, push_cast, outOk, Chunk.ext], fun x => .inl (by simp [fs50, fs65, push_cast, frNew, frOut, Chunk.fr])⟩, fun a hp => ?_⟩
  obtain ⟨⟨⟨w, h, xs⟩, L⟩, x, y⟩ := a
  obtain ⟨⟨hs, hl, hb⟩, h0⟩ : (⟨w, h, xs⟩ : Bm).Ok ∧ ∀ n, n ∈ xs → 0 ≤ n := hp
  change Tri Try.prog 50 [bmV ⟨w, h, xs⟩ L 0, .int .i64 x, .int .i64 y] [some (.ro, L, .ints .u8 xs)] (postF fs50 ⟨⟨⟨w, h, xs⟩, L⟩, x, y⟩)
  refine tri_evS (hyp (l := [(65, ent65)]) (lp := []) ⟨e65, trivial⟩ trivial) Try.func50 comp50 (rs := [.tmp 6]) (by rfl) Try.ntmps50 15 ?_
  simp -implicitDefEqProofs only [push_cast, false_implies, reduceCtorEq, Classical.not_not, Nat.reduceAdd, Nat.reduceSub, Nat.reduceMul, Nat.reduceLeDiff, Nat.reduceLT, Nat.reduceEqDiff, Nat.reduceBEq, Nat.reduceBNe, Int.reduceNeg, Int.reduceToNat, Bool.or_false, Bool.false_or, Bool.or_true, Bool.true_or, BEq.rfl, Bool.not_eq_true, Bool.not_eq_false, decide_eq_true_eq, not_true_eq_false, not_false_eq_true, ite_true, ite_false, List.append_nil, and_assoc, Nat.mul_zero, Nat.zero_mul, ir50, fs65]
  refine fun X => ⟨fun hn => ?_, fun hy => ?_⟩
  · refine postF.mk' (fun _ => default) [some 0] ?_
    simp -implicitDefEqProofs only [push_cast, false_implies, reduceCtorEq, Classical.not_not, Nat.reduceAdd, Nat.reduceSub, Nat.reduceMul, Nat.reduceLeDiff, Nat.reduceLT, Nat.reduceEqDiff, Nat.reduceBEq, Nat.reduceBNe, Int.reduceNeg, Int.reduceToNat, Bool.or_false, Bool.false_or, Bool.or_true, Bool.true_or, BEq.rfl, Bool.not_eq_true, Bool.not_eq_false, decide_eq_true_eq, not_true_eq_false, not_false_eq_true, ite_true, ite_false, List.append_nil, and_assoc, Nat.mul_zero, Nat.zero_mul, fs50, fs65, atV, hn, if_false]
  · obtain ⟨b1, b2, b3, b4⟩ : 0 ≤ x ∧ 0 ≤ y ∧ x < w ∧ y < h := id hy
    obtain ⟨a1, a2, a3, a4, a5⟩ := id hs
    simp only at a1 a2 a3 a4 a5 hl hb
    have hi := idx_bd b2 b4 b1 b3
    have hm := mul_bd b2 (show y ≤ 200 by omega) a1 a3
    have hv : 0 ≤ rd xs (y * w + x) ∧ rd xs (y * w + x) ≤ 1 := by
      have hk : (y * w + x).toNat < xs.length := by omega
      have e : rd xs (y * w + x) = xs[(y * w + x).toNat] := by simp [rd, hk]
      rw [e]; exact ⟨h0 _ (List.getElem_mem hk), hb _ (List.getElem_mem hk)⟩
    repeat (refine And.intro (by first | omega | trivial | (intros; omega)) ?_)
    refine postF.mk' (fun _ => default) [some 0] ?_
    simp -implicitDefEqProofs only [push_cast, false_implies, reduceCtorEq, Classical.not_not, Nat.reduceAdd, Nat.reduceSub, Nat.reduceMul, Nat.reduceLeDiff, Nat.reduceLT, Nat.reduceEqDiff, Nat.reduceBEq, Nat.reduceBNe, Int.reduceNeg, Int.reduceToNat, Bool.or_false, Bool.false_or, Bool.or_true, Bool.true_or, BEq.rfl, Bool.not_eq_true, Bool.not_eq_false, decide_eq_true_eq, not_true_eq_false, not_false_eq_true, ite_true, ite_false, List.append_nil, and_assoc, Nat.mul_zero, Nat.zero_mul, fs50, fs65, atV, hy, if_true]
def ent50 : Entry := spOf fs50 inv65
theorem e50 : EntryOk Try.prog 50 ent50 := entry_of ok50 inv65
@[push_cast] theorem ent50_app (us : List SV) (look : Look) (x : Nat → Xf.Loc) (k : Nat) : ent50 us look x k = spOf fs50 inv65 us look x k := rfl
def nearP (n : Int) : Prop := -100000 ≤ n ∧ n ≤ 100000
instance (n : Int) : Decidable (nearP n) := by unfold nearP; infer_instance
structure PaintA where
  a : ImA
  b : BmA
  x : Int
  y : Int
  r : Int
  g : Int
  bl : Int
def PaintA.fit (P : PaintA) : Prop := P.b.b.Ok ∧ nearP P.x ∧ nearP P.y ∧ ValOk P.r ∧ ValOk P.g ∧ ValOk P.bl
instance (P : PaintA) : Decidable P.fit := by unfold PaintA.fit; infer_instance
def PaintA.Ok (P : PaintA) : Prop := P.a.i.Ok ∧ P.fit
instance (P : PaintA) : Decidable P.Ok := by unfold PaintA.Ok; infer_instance
def ir45 : IR :=
  .seq (.reg false [⟨some 2, none, ⟨[], []⟩, .box 10 (.t 0)⟩,
    ⟨some 3, none, ⟨[], []⟩, .box 11 (.t 1)⟩,
    ⟨some 4, none, ⟨[], []⟩, .mov (.k (.val .nilFunc))⟩] [0, 1, 4] []) (.seq (.reg false [⟨some 5, none, ⟨[], []⟩, .mkf 64 [.t 2, .t 3]⟩,
    ⟨some 4, none, ⟨[], []⟩, .mov (.t 5)⟩] [2, 3, 5] []) (.ret))
set_option maxRecDepth 4000 in
theorem comp45 : (Try.f45.body.bind fun c => compC tab isP chkAll ir45 c) = some ir45 := by kernel_rfl
def b64_1 : IRG :=
  .seq (.reg false [⟨some 12, none, ⟨[], []⟩, .bin 0 .lss (.t 11) (.t 10)⟩] []) (.seq (.cond (.t 12) (.skip) (.exit 0)) (.seq (.block 1 (.seq (.reg false [⟨some 13, none, ⟨[], []⟩, .mov (.t 11)⟩,
    ⟨some 4, none, ⟨[], []⟩, .mov (.t 13)⟩] [12, 13]) (.seq (.reg true [⟨some 14, none, ⟨[], []⟩, .fld (.t 1) 1⟩,
    ⟨some 15, none, ⟨[], []⟩, .ld false none 0 0 (.t 14)⟩,
    ⟨some 16, none, ⟨[], []⟩, .mov (.t 4)⟩,
    ⟨some 17, none, ⟨[], []⟩, .fld (.t 1) 2⟩,
    ⟨some 18, none, ⟨[], []⟩, .ld false none 0 0 (.t 17)⟩,
    ⟨some 19, none, ⟨[], []⟩, .bin 0 .quo (.t 16) (.t 18)⟩,
    ⟨some 20, none, ⟨[], []⟩, .bin 0 .add (.t 15) (.t 19)⟩,
    ⟨some 21, none, ⟨[], []⟩, .fld (.t 2) 0⟩,
    ⟨some 22, none, ⟨[], []⟩, .ld false none 0 0 (.t 21)⟩,
    ⟨some 23, none, ⟨[], []⟩, .bin 0 .mul (.t 20) (.t 22)⟩,
    ⟨some 24, none, ⟨[], []⟩, .fld (.t 1) 0⟩,
    ⟨some 25, none, ⟨[], []⟩, .ld false none 0 0 (.t 24)⟩,
    ⟨some 26, none, ⟨[], []⟩, .bin 0 .add (.t 23) (.t 25)⟩,
    ⟨some 27, none, ⟨[], []⟩, .mov (.t 4)⟩,
    ⟨some 28, none, ⟨[], []⟩, .fld (.t 1) 2⟩,
    ⟨some 29, none, ⟨[], []⟩, .ld false none 0 0 (.t 28)⟩,
    ⟨some 30, none, ⟨[], []⟩, .bin 0 .rem (.t 27) (.t 29)⟩,
    ⟨some 31, none, ⟨[], []⟩, .bin 0 .add (.t 26) (.t 30)⟩,
    ⟨some 5, none, ⟨[], []⟩, .mov (.t 31)⟩] [4, 14, 15, 16, 17, 18, 19, 20, 21, 22, 23, 24, 25, 26, 27, 28, 29, 30, 31]) (.seq (.yl [⟨some 32, none, ⟨[], []⟩, .mov (.t 0)⟩,
    ⟨some 33, none, ⟨[], []⟩, .mov (.t 5)⟩,
    ⟨some 34, none, ⟨[], []⟩, .fld (.t 2) 2⟩,
    ⟨some 35, none, ⟨[], []⟩, .ld false none 0 0 (.t 34)⟩,
    ⟨some 36, none, ⟨[], []⟩, .mov (.t 5)⟩,
    ⟨some 37, none, ⟨[], []⟩, .idxS (.t 35) (.t 36) 1⟩,
    ⟨some 38, none, ⟨[], []⟩, .ld true none 0 0 (.t 37)⟩] (some 39) (.t 32) [.t 33, .t 38] [⟨some 40, none, ⟨[], []⟩, .not (.t 39)⟩] [5, 32, 33, 34, 35, 36, 37, 38, 39]) (.cond (.t 40) (.ret) (.skip)))))) (.reg false [⟨some 41, none, ⟨[], []⟩, .bin 0 .add (.t 11) (.k (.int .i64 1))⟩,
    ⟨some 11, none, ⟨[], []⟩, .mov (.t 41)⟩] [40, 41])))
def ir64 : IRG :=
  .seq (.reg false [⟨some 6, none, ⟨[], []⟩, .fld (.t 1) 2⟩,
    ⟨some 7, none, ⟨[], []⟩, .ld false none 0 0 (.t 6)⟩,
    ⟨some 8, none, ⟨[], []⟩, .fld (.t 1) 3⟩,
    ⟨some 9, none, ⟨[], []⟩, .ld false none 0 0 (.t 8)⟩,
    ⟨some 10, none, ⟨[], []⟩, .bin 0 .mul (.t 7) (.t 9)⟩,
    ⟨some 11, none, ⟨[], []⟩, .mov (.k (.int .i64 0))⟩] [6, 7, 8, 9]) (.block 0 (.loop b64_1))
def kp64_1 : List Nat := [0, 1, 2, 10, 11]
attribute [push_cast] kp64_1
set_option maxRecDepth 4000 in
theorem comp64 : (Try.f64.body.bind fun c => compGd tab isP chkAll ir64 c) = some ir64 := by kernel_rfl
/-- A rectangle of a plane. -/
structure Rp where
  x : Nat
  y : Nat
  w : Nat
  h : Nat
  W : Nat
  H : Nat
  xs : List Int
def Rp.Ok (r : Rp) : Prop := r.x + r.w ≤ r.W ∧ r.y + r.h ≤ r.H ∧ r.W ≤ 200 ∧ r.H ≤ 200 ∧ r.xs.length = r.H * r.W
/-- Where its k-th value stands. -/
def atN (x y w W k : Nat) : Nat := (y + k / w) * W + x + k % w
def Rp.val (r : Rp) (k : Nat) : Int := rd r.xs (atN r.x r.y r.w r.W k : Nat)
theorem atN_lt {r : Rp} (h : r.Ok) {k : Nat} (hk : k < r.w * r.h) : atN r.x r.y r.w r.W k < r.xs.length ∧ 0 < r.w ∧ r.y + k / r.w < r.H ∧ k % r.w < r.w ∧ k / r.w < r.h := by
  obtain ⟨h1, h2, h3, h4, h5⟩ := h
  have hw : 0 < r.w := by
    rcases Nat.eq_zero_or_pos r.w with e | e
    · rw [e, Nat.zero_mul] at hk; omega
    · exact e
  have hd : k / r.w < r.h := by rw [Nat.div_lt_iff_lt_mul hw, Nat.mul_comm]; exact hk
  have hm := Nat.mod_lt k hw
  have h6 : (r.y + k / r.w + 1) * r.W ≤ r.H * r.W := Nat.mul_le_mul_right _ (by omega)
  rw [Nat.add_mul] at h6
  exact ⟨by unfold atN; omega, hw, by omega, hm, hd⟩
theorem rp_len {r : Rp} (h : r.Ok) : r.xs.length ≤ 40000 := by
  obtain ⟨h1, h2, h3, h4, h5⟩ := h
  rw [h5]; exact Nat.mul_le_mul h4 h3
def rcV (x y w h : Nat) : SV := .agg [.int .i64 x, .int .i64 y, .int .i64 w, .int .i64 h]
structure RpA where
  r : Rp
  L : Xf.Loc
def fs45 : FS where
  A := RpA
  args := fun a => [rcV a.r.x a.r.y a.r.w a.r.h, plV ⟨a.r.W, a.r.H, a.r.xs⟩ a.L 0]
  mem := fun a => [some (.ro, a.L, .ints .i64 a.r.xs)]
  pre := fun _ => True
  res := fun a x => .fn 64 [.ptr 1 (x 0) 0 0 0, .ptr 2 (x 1) 0 0 0]
  out := fun _ _ => []
  new := fun a x => [(x 0, .cells [.int .i64 a.r.x, .int .i64 a.r.y, .int .i64 a.r.w, .int .i64 a.r.h]), (x 1, .cells [.int .i64 a.r.W, .int .i64 a.r.H, .sl 0 a.L 1 0 a.r.xs.length])]
def getR (look : Look) : SV → SV → Option (RpA × List Nat)
  | .agg [.int .i64 x, .int .i64 y, .int .i64 w, .int .i64 h], .agg [.int .i64 W, .int .i64 H, .sl c _ 1 0 _] => match rowI (look c) with
    | some (L, .i64, xs) => some (⟨⟨x.toNat, y.toNat, w.toNat, h.toNat, W.toNat, H.toNat, xs⟩, L⟩, [c])
    | _ => none
  | _, _ => none
def inv45 : List SV → Look → Option (RpA × List Nat)
  | [r, p], look => getR look r p
  | _, _ => none
attribute [push_cast] getR inv45
theorem ok45 : FSOk Try.prog 45 fs45 := by
  refine ⟨⟨_, Try.func45, by kernel_rfl, by kernel_rfl⟩, fun a => ⟨by simp [fs45, push_cast, noMine, argOwn, Chunk.frArg], by simp [fs45, push_cast, outOk, Chunk.ext], fun x => .inl (by simp [fs45, push_cast, frNew, frOut, Chunk.fr])⟩, fun a hp => ?_⟩
  obtain ⟨⟨x, y, w, h, W, H, xs⟩, L⟩ := a
  change Tri Try.prog 45 [rcV x y w h, plV ⟨W, H, xs⟩ L 0] [some (.ro, L, .ints .i64 xs)] (postF fs45 ⟨⟨x, y, w, h, W, H, xs⟩, L⟩)
  refine tri_evS (hyp (l := []) (lp := []) trivial trivial) Try.func45 comp45 (rs := [.tmp 4]) (by rfl) Try.ntmps45 12 ?_
  simp -implicitDefEqProofs only [push_cast, false_implies, reduceCtorEq, Classical.not_not, Nat.reduceAdd, Nat.reduceSub, Nat.reduceMul, Nat.reduceLeDiff, Nat.reduceLT, Nat.reduceEqDiff, Nat.reduceBEq, Nat.reduceBNe, Int.reduceNeg, Int.reduceToNat, Bool.or_false, Bool.false_or, Bool.or_true, Bool.true_or, BEq.rfl, Bool.not_eq_true, Bool.not_eq_false, decide_eq_true_eq, not_true_eq_false, not_false_eq_true, ite_true, ite_false, List.append_nil, and_assoc, Nat.mul_zero, Nat.zero_mul, ir45, rcV, plV]
  intro X
  refine postF.mk' (locs [X 0 10, X 1 11]) [some 0, some 10, some 11] ?_
  simp -implicitDefEqProofs only [push_cast, false_implies, reduceCtorEq, Classical.not_not, Nat.reduceAdd, Nat.reduceSub, Nat.reduceMul, Nat.reduceLeDiff, Nat.reduceLT, Nat.reduceEqDiff, Nat.reduceBEq, Nat.reduceBNe, Int.reduceNeg, Int.reduceToNat, Bool.or_false, Bool.false_or, Bool.or_true, Bool.true_or, BEq.rfl, Bool.not_eq_true, Bool.not_eq_false, decide_eq_true_eq, not_true_eq_false, not_false_eq_true, ite_true, ite_false, List.append_nil, and_assoc, Nat.mul_zero, Nat.zero_mul, fs45]
def ent45 : Entry := spOf fs45 inv45
theorem e45 : EntryOk Try.prog 45 ent45 := entry_of ok45 inv45
@[push_cast] theorem ent45_app (us : List SV) (look : Look) (x : Nat → Xf.Loc) (k : Nat) : ent45 us look x k = spOf fs45 inv45 us look x k := rfl
structure VaI where
  F1 : Xf.Loc
  F2 : Xf.Loc
  L : Xf.Loc
  r : Rp
def vaX (r : Rp) (k : Nat) : List SV := [.int .i64 (atN r.x r.y r.w r.W k : Nat), .int .i64 (r.val k)]
def its64 : ITS where
  A := VaI
  cs := fun a => [.ptr 0 a.F1 0 0 0, .ptr 1 a.F2 0 0 0]
  mem := fun a => [some (.ro, a.F1, .cells [.int .i64 a.r.x, .int .i64 a.r.y, .int .i64 a.r.w, .int .i64 a.r.h]), some (.ro, a.F2, .cells [.int .i64 a.r.W, .int .i64 a.r.H, .sl 2 a.L 1 0 a.r.xs.length]), some (.ro, a.L, .ints .i64 a.r.xs)]
  n := fun a => a.r.w * a.r.h
  xs := fun a => vaX a.r
  pre := fun a => a.r.Ok
set_option maxRecDepth 4000 in
theorem it64 : ItOk Try.prog 64 its64 := by
  refine ⟨⟨_, Try.func64, by kernel_rfl, by kernel_rfl⟩, fun a hp => ?_⟩
  obtain ⟨F1, F2, L, r⟩ := a
  change r.Ok at hp
  have hat := fun {k : Nat} => atN_lt (r := r) hp (k := k)
  have hlen := rp_len hp
  obtain ⟨x, y, w, h, W, H, xs⟩ := r
  change IterOk Try.prog 64 [.ptr 0 F1 0 0 0, .ptr 1 F2 0 0 0] [some (.ro, F1, .cells [.int .i64 x, .int .i64 y, .int .i64 w, .int .i64 h]), some (.ro, F2, .cells [.int .i64 W, .int .i64 H, .sl 2 L 1 0 xs.length]), some (.ro, L, .ints .i64 xs)] (w * h) (vaX ⟨x, y, w, h, W, H, xs⟩)
  obtain ⟨h1, h2, h3, h4, h5⟩ : x + w ≤ W ∧ y + h ≤ H ∧ W ≤ 200 ∧ H ≤ 200 ∧ xs.length = H * W := hp
  simp only at hat hlen
  have b0 : w * h ≤ 200 * 200 := Nat.mul_le_mul (by omega) (by omega)
  obtain ⟨N, hN⟩ : ∃ N, w * h = N := ⟨_, rfl⟩
  have hwh : (w : Int) * h = (N : Int) := by rw [← hN]; simp
  rw [hN] at hat b0 ⊢
  refine iter_of (hyp (l := []) (lp := []) trivial trivial) Try.func64 comp64 (by rfl) Try.ntmps64 fun l => ?_
  simp -implicitDefEqProofs only [push_cast, false_implies, reduceCtorEq, Classical.not_not, Nat.reduceAdd, Nat.reduceSub, Nat.reduceMul, Nat.reduceLeDiff, Nat.reduceLT, Nat.reduceEqDiff, Nat.reduceBEq, Nat.reduceBNe, Int.reduceNeg, Int.reduceToNat, Bool.or_false, Bool.false_or, Bool.or_true, Bool.true_or, BEq.rfl, Bool.not_eq_true, Bool.not_eq_false, decide_eq_true_eq, not_true_eq_false, not_false_eq_true, ite_true, ite_false, List.append_nil, and_assoc, Nat.mul_zero, Nat.zero_mul, ir64, hwh]
  repeat (refine And.intro (by first | omega | trivial | (intros; omega)) ?_)
  refine evY_loopU (A := Nat) _ _ _ _ _ _ _ kp64_1 (fun k => k) (fun k => [(11, .int .i64 k)]) (fun k => k ≤ N) (fun k => N - k) 0 (Nat.zero_le _) rfl ?_ ?_
  · simp -implicitDefEqProofs only [push_cast, false_implies, reduceCtorEq, Classical.not_not, Nat.reduceAdd, Nat.reduceSub, Nat.reduceMul, Nat.reduceLeDiff, Nat.reduceLT, Nat.reduceEqDiff, Nat.reduceBEq, Nat.reduceBNe, Int.reduceNeg, Int.reduceToNat, Bool.or_false, Bool.false_or, Bool.or_true, Bool.true_or, BEq.rfl, Bool.not_eq_true, Bool.not_eq_false, decide_eq_true_eq, not_true_eq_false, not_false_eq_true, ite_true, ite_false, List.append_nil, and_assoc, Nat.mul_zero, Nat.zero_mul]
  intro k (hk : k ≤ N) K hK
  by_cases hk' : k < N
  · obtain ⟨q1, q2, q3, q4, q5⟩ := hat hk'
    obtain ⟨d, hd⟩ : ∃ d, k / w = d := ⟨_, rfl⟩
    obtain ⟨e, he⟩ : ∃ e, k % w = e := ⟨_, rfl⟩
    obtain ⟨p, hp⟩ : ∃ p, atN x y w W k = p := ⟨_, rfl⟩
    have e1 : (k : Int) / w = (d : Int) := by rw [← hd]; rfl
    have e2 : (k : Int) % w = (e : Int) := by rw [← he]; rfl
    have e3 : ((y : Int) + d) * W + x + e = (p : Int) := by rw [← hp, ← hd, ← he]; simp [atN]
    have b1 := mul_bd (a := (y : Int) + d) (b := (W : Int)) (A := 200) (B := 200) (by omega) (by omega) (by omega) (by omega)
    rw [hp] at q1
    simp -implicitDefEqProofs only [push_cast, false_implies, reduceCtorEq, Classical.not_not, Nat.reduceAdd, Nat.reduceSub, Nat.reduceMul, Nat.reduceLeDiff, Nat.reduceLT, Nat.reduceEqDiff, Nat.reduceBEq, Nat.reduceBNe, Int.reduceNeg, Int.reduceToNat, Bool.or_false, Bool.false_or, Bool.or_true, Bool.true_or, BEq.rfl, Bool.not_eq_true, Bool.not_eq_false, decide_eq_true_eq, not_true_eq_false, not_false_eq_true, ite_true, ite_false, List.append_nil, and_assoc, Nat.mul_zero, Nat.zero_mul, b64_1, vaX, Rp.val, e1, e2, e3, hp, Option.some.injEq, exists_eq_left', hk']
    refine ⟨fun _ => ?_, fun h => by omega⟩
    repeat (refine And.intro (by first | omega | trivial | (intros; omega)) ?_)
    refine hK (k + 1) (by omega) (by omega) _ _ rfl ?_
    simp -implicitDefEqProofs only [push_cast, false_implies, reduceCtorEq, Classical.not_not, Nat.reduceAdd, Nat.reduceSub, Nat.reduceMul, Nat.reduceLeDiff, Nat.reduceLT, Nat.reduceEqDiff, Nat.reduceBEq, Nat.reduceBNe, Int.reduceNeg, Int.reduceToNat, Bool.or_false, Bool.false_or, Bool.or_true, Bool.true_or, BEq.rfl, Bool.not_eq_true, Bool.not_eq_false, decide_eq_true_eq, not_true_eq_false, not_false_eq_true, ite_true, ite_false, List.append_nil, and_assoc, Nat.mul_zero, Nat.zero_mul]
  · obtain rfl : k = N := by omega
    simp -implicitDefEqProofs only [push_cast, false_implies, reduceCtorEq, Classical.not_not, Nat.reduceAdd, Nat.reduceSub, Nat.reduceMul, Nat.reduceLeDiff, Nat.reduceLT, Nat.reduceEqDiff, Nat.reduceBEq, Nat.reduceBNe, Int.reduceNeg, Int.reduceToNat, Bool.or_false, Bool.false_or, Bool.or_true, Bool.true_or, BEq.rfl, Bool.not_eq_true, Bool.not_eq_false, decide_eq_true_eq, not_true_eq_false, not_false_eq_true, ite_true, ite_false, List.append_nil, and_assoc, Nat.mul_zero, Nat.zero_mul, b64_1]
    intro h; omega
def b44_1 : IR :=
  .block 1 (.reg true [⟨some 13, none, ⟨[], []⟩, .ld false none 0 0 (.t 4)⟩,
    ⟨some 14, none, ⟨[], []⟩, .mov (.t 7)⟩,
    ⟨some 15, none, ⟨[], []⟩, .mn (.t 13) (.t 14)⟩,
    ⟨some 16, none, ⟨[12], []⟩, .ld false none 0 0 (.t 5)⟩,
    ⟨some 17, none, ⟨[], []⟩, .mov (.t 7)⟩,
    ⟨some 18, none, ⟨[], []⟩, .mx (.t 16) (.t 17)⟩,
    ⟨none, none, ⟨[], [12]⟩, .sto false 1 .i64 (.t 4) (.t 15)⟩,
    ⟨none, none, ⟨[], []⟩, .sto false 1 .i64 (.t 5) (.t 18)⟩] [4, 5, 7, 13, 14, 15, 16, 17, 18] [])
def r44_2 : IR :=
  .seq (.reg true [⟨some 19, none, ⟨[], []⟩, .ld false none 0 0 (.t 4)⟩,
    ⟨some 20, none, ⟨[12], []⟩, .ld false none 0 0 (.t 5)⟩,
    ⟨none, none, ⟨[], [12]⟩, .sto false 1 .i64 (.t 4) (.t 19)⟩,
    ⟨none, none, ⟨[], []⟩, .sto false 1 .i64 (.t 5) (.t 20)⟩] [19, 20] []) (.ret)
def ir44 : IR :=
  .seq (.reg false [⟨some 2, none, ⟨[], []⟩, .box 10 (.t 0)⟩,
    ⟨some 3, none, ⟨[], []⟩, .box 11 (.t 1)⟩,
    ⟨some 4, none, ⟨[], []⟩, .alloc 12 [.int .i64 0]⟩,
    ⟨some 5, none, ⟨[], []⟩, .alloc 13 [.int .i64 0]⟩] [0, 1] []) (.seq (.reg false [⟨none, none, ⟨[], []⟩, .sto false 1 .i64 (.t 4) (.k (.int .i64 16777216))⟩,
    ⟨none, none, ⟨[], []⟩, .sto false 1 .i64 (.t 5) (.k (.int .i64 (-16777216)))⟩] [] []) (.seq (.seq (.reg false [⟨some 8, none, ⟨[], []⟩, .ld false (some 4) 0 0 (.t 2)⟩,
    ⟨some 9, none, ⟨[], []⟩, .ld false (some 3) 0 0 (.t 3)⟩,
    ⟨some 10, none, ⟨[], []⟩, .call (some 4) 14 45 [.t 8, .t 9]⟩] [2, 3, 8, 9] []) (.block 0 (.rf (.t 10) [11, 12] (.reg false [⟨some 7, none, ⟨[], []⟩, .mov (.t 12)⟩] [10, 11, 12] []) (b44_1) [10] []))) (r44_2)))
set_option maxRecDepth 4000 in
theorem comp44 : (Try.f44.body.bind fun c => compC tab isP chkAll ir44 c) = some ir44 := by kernel_rfl
def b34_1 : IR :=
  .block 1 (.seq (.reg false [⟨some 36, none, ⟨[], []⟩, .idxP (.t 7) (.k (.int .i64 0)) 3 1⟩,
    ⟨some 37, none, ⟨[], []⟩, .ld true none 0 0 (.t 36)⟩,
    ⟨some 38, none, ⟨[], []⟩, .ld false none 0 0 (.t 9)⟩,
    ⟨some 39, none, ⟨[], []⟩, .mov (.t 11)⟩,
    ⟨some 40, none, ⟨[], []⟩, .bin 0 .sub (.t 38) (.t 39)⟩,
    ⟨some 41, none, ⟨[], []⟩, .bin 0 .add (.t 37) (.t 40)⟩,
    ⟨some 42, none, ⟨[], []⟩, .idxP (.t 7) (.k (.int .i64 0)) 3 1⟩,
    ⟨none, none, ⟨[], []⟩, .sto true 1 .i64 (.t 42) (.t 41)⟩] [36, 37, 38, 39, 40, 41, 42] []) (.reg false [⟨some 43, none, ⟨[], []⟩, .idxP (.t 7) (.k (.int .i64 1)) 3 1⟩,
    ⟨some 44, none, ⟨[], []⟩, .ld true none 0 0 (.t 43)⟩,
    ⟨some 45, none, ⟨[], []⟩, .mov (.t 11)⟩,
    ⟨some 46, none, ⟨[], []⟩, .ld false none 0 0 (.t 8)⟩,
    ⟨some 47, none, ⟨[], []⟩, .bin 0 .sub (.t 45) (.t 46)⟩,
    ⟨some 48, none, ⟨[], []⟩, .ld false none 0 0 (.t 9)⟩,
    ⟨some 49, none, ⟨[], []⟩, .mov (.t 11)⟩,
    ⟨some 50, none, ⟨[], []⟩, .bin 0 .sub (.t 48) (.t 49)⟩,
    ⟨some 51, none, ⟨[], []⟩, .mn (.t 47) (.t 50)⟩,
    ⟨some 52, none, ⟨[], []⟩, .bin 0 .add (.t 44) (.t 51)⟩,
    ⟨some 53, none, ⟨[], []⟩, .idxP (.t 7) (.k (.int .i64 1)) 3 1⟩,
    ⟨none, none, ⟨[], []⟩, .sto true 1 .i64 (.t 53) (.t 52)⟩] [7, 8, 9, 11, 43, 44, 45, 46, 47, 48, 49, 50, 51, 52, 53] []))
def r34_2 : IR :=
  .seq (.reg false [⟨some 54, none, ⟨[], []⟩, .ld true (some 3) 0 0 (.t 7)⟩,
    ⟨none, none, ⟨[], []⟩, .sto true 3 .i64 (.t 6) (.t 54)⟩] [7, 54] []) (.ret)
def ir34 : IR :=
  .seq (.reg false [⟨some 3, none, ⟨[], []⟩, .box 10 (.t 0)⟩,
    ⟨some 4, none, ⟨[], []⟩, .box 11 (.t 1)⟩,
    ⟨some 5, none, ⟨[], []⟩, .box 12 (.t 2)⟩,
    ⟨some 6, none, ⟨[], []⟩, .allocI 13 .i64 3⟩] [0, 1, 2] []) (.seq (.reg false [⟨some 12, none, ⟨[], []⟩, .fld (.t 5) 1⟩,
    ⟨some 13, none, ⟨[], []⟩, .ld false none 0 0 (.t 12)⟩,
    ⟨some 14, none, ⟨[], []⟩, .fld (.t 5) 2⟩,
    ⟨some 15, none, ⟨[], []⟩, .ld false none 0 0 (.t 14)⟩,
    ⟨some 16, none, ⟨[], []⟩, .fld (.t 5) 3⟩,
    ⟨some 17, none, ⟨[], []⟩, .ld false none 0 0 (.t 16)⟩,
    ⟨some 18, none, ⟨[], []⟩, .fld (.t 3) 2⟩,
    ⟨some 19, none, ⟨[], []⟩, .ld false none 0 0 (.t 18)⟩,
    ⟨some 20, none, ⟨[], []⟩, .bin 0 .mul (.t 17) (.t 19)⟩,
    ⟨some 21, none, ⟨[], []⟩, .fld (.t 3) 3⟩,
    ⟨some 22, none, ⟨[], []⟩, .ld false none 0 0 (.t 21)⟩,
    ⟨some 23, none, ⟨[], []⟩, .bin 0 .mul (.t 20) (.t 22)⟩,
    ⟨some 24, none, ⟨[], []⟩, .build [.int .i64 0, .int .i64 0, .int .i64 0] [(0, 1, .t 13), (1, 1, .t 15), (2, 1, .t 23)]⟩,
    ⟨some 7, none, ⟨[], []⟩, .allocI 14 .i64 3⟩,
    ⟨none, none, ⟨[], []⟩, .sto true 3 .i64 (.t 7) (.t 24)⟩] [5, 12, 13, 14, 15, 16, 17, 18, 19, 20, 21, 22, 23, 24] []) (.seq (.reg false [⟨some 26, none, ⟨[], []⟩, .ld false (some 4) 0 0 (.t 3)⟩,
    ⟨some 27, none, ⟨[], []⟩, .ld false (some 3) 0 0 (.t 4)⟩,
    ⟨some 28, none, ⟨[], []⟩, .call (some 4) 15 44 [.t 26, .t 27]⟩,
    ⟨some 25, none, ⟨[], []⟩, .mov (.t 28)⟩,
    ⟨some 29, none, ⟨[], []⟩, .ext (.t 25) 0⟩,
    ⟨some 30, none, ⟨[], []⟩, .ext (.t 25) 1⟩,
    ⟨some 8, none, ⟨[], []⟩, .alloc 19 [.int .i64 0]⟩,
    ⟨some 9, none, ⟨[], []⟩, .alloc 20 [.int .i64 0]⟩,
    ⟨none, none, ⟨[], []⟩, .sto false 1 .i64 (.t 8) (.t 29)⟩,
    ⟨none, none, ⟨[], []⟩, .sto false 1 .i64 (.t 9) (.t 30)⟩] [25, 26, 27, 28, 29, 30] []) (.seq (.seq (.reg false [⟨some 31, none, ⟨[], []⟩, .ld false (some 4) 0 0 (.t 3)⟩,
    ⟨some 32, none, ⟨[], []⟩, .ld false (some 3) 0 0 (.t 4)⟩,
    ⟨some 33, none, ⟨[], []⟩, .call (some 4) 21 45 [.t 31, .t 32]⟩] [3, 4, 31, 32] []) (.block 0 (.rf (.t 33) [34, 35] (.reg false [⟨some 11, none, ⟨[], []⟩, .mov (.t 35)⟩] [6, 33, 34, 35] []) (b34_1) [8, 9, 33] []))) (r34_2))))
set_option maxRecDepth 4000 in
theorem comp34 : (Try.f34.body.bind fun c => compC tab isP chkAll ir34 c) = some ir34 := by kernel_rfl
def minN (a : Int) (v : Nat → Int) : Nat → Int
  | 0 => a
  | k + 1 => min (minN a v k) (v k)
def maxN (a : Int) (v : Nat → Int) : Nat → Int
  | 0 => a
  | k + 1 => max (maxN a v k) (v k)
def sumN (f : Nat → Int) : Nat → Int
  | 0 => 0
  | k + 1 => sumN f k + f k
theorem sumN_bd {f : Nat → Int} {B : Int} {n : Nat} (h : ∀ k, k < n → 0 ≤ f k ∧ f k ≤ B) (hB : 0 ≤ B) : ∀ k, k ≤ n → 0 ≤ sumN f k ∧ sumN f k ≤ k * B
  | 0, _ => ⟨Int.le_refl _, by simp [sumN]⟩
  | k + 1, hk => by
    have ih := sumN_bd h hB k (by omega)
    have := h k (by omega)
    simp only [sumN, Int.natCast_add, Int.add_mul]
    omega
theorem minN_le {v : Nat → Int} {a : Int} {n : Nat} {k : Nat} (h : k < n) : minN a v n ≤ v k := by
  induction n with
  | zero => omega
  | succ n ih =>
    simp only [minN]
    by_cases e : k = n
    · subst e; omega
    · have := ih (by omega); omega
theorem le_maxN {v : Nat → Int} {a : Int} {n : Nat} {k : Nat} (h : k < n) : v k ≤ maxN a v n := by
  induction n with
  | zero => omega
  | succ n ih =>
    simp only [maxN]
    by_cases e : k = n
    · subst e; omega
    · have := ih (by omega); omega
theorem minN_any {v : Nat → Int} {a b c : Int} (ha : c ≤ a) (hb : c ≤ b) {n : Nat} (h0 : 0 < n) (hv : ∀ k, k < n → v k ≤ c) : minN a v n = minN b v n := by
  induction n with
  | zero => omega
  | succ n ih =>
    have h1 := hv n (by omega)
    simp only [minN]
    by_cases e : n = 0
    · subst e; simp only [minN]; omega
    · rw [ih (by omega) fun k hk => hv k (by omega)]
theorem maxN_any {v : Nat → Int} {a b c : Int} (ha : a ≤ c) (hb : b ≤ c) {n : Nat} (h0 : 0 < n) (hv : ∀ k, k < n → c ≤ v k) : maxN a v n = maxN b v n := by
  induction n with
  | zero => omega
  | succ n ih =>
    have h1 := hv n (by omega)
    simp only [maxN]
    by_cases e : n = 0
    · subst e; simp only [maxN]; omega
    · rw [ih (by omega) fun k hk => hv k (by omega)]
theorem minN_ge {v : Nat → Int} {a c : Int} (ha : c ≤ a) {n : Nat} (hv : ∀ k, k < n → c ≤ v k) : c ≤ minN a v n := by
  induction n with
  | zero => exact ha
  | succ n ih => have h1 := hv n (by omega); have := ih fun k hk => hv k (by omega); simp only [minN]; omega
theorem maxN_le {v : Nat → Int} {a c : Int} (ha : a ≤ c) {n : Nat} (hv : ∀ k, k < n → v k ≤ c) : maxN a v n ≤ c := by
  induction n with
  | zero => exact ha
  | succ n ih => have h1 := hv n (by omega); have := ih fun k hk => hv k (by omega); simp only [maxN]; omega
def Rp.n (r : Rp) : Nat := r.w * r.h
def Rp.lo (r : Rp) : Int := minN 16777216 r.val r.n
def Rp.hi (r : Rp) : Int := maxN (-16777216) r.val r.n
def fs44 : FS where
  A := RpA
  args := fun a => [rcV a.r.x a.r.y a.r.w a.r.h, plV ⟨a.r.W, a.r.H, a.r.xs⟩ a.L 0]
  mem := fun a => [some (.ro, a.L, .ints .i64 a.r.xs)]
  pre := fun a => a.r.Ok
  res := fun a x => .tup [.int .i64 a.r.lo, .int .i64 a.r.hi]
  out := fun _ _ => []
  new := fun _ _ => []
theorem ok44 : FSOk Try.prog 44 fs44 := by
  refine ⟨⟨_, Try.func44, by kernel_rfl, by kernel_rfl⟩, fun a => ⟨by simp [fs44, push_cast, noMine, argOwn, Chunk.frArg], by simp [fs44, push_cast, outOk, Chunk.ext], fun x => .inl (by simp [fs44, push_cast, frNew, frOut, Chunk.fr])⟩, fun a hp => ?_⟩
  obtain ⟨r, L⟩ := a
  change r.Ok at hp
  obtain ⟨v, hv⟩ : ∃ v, r.val = v := ⟨_, rfl⟩
  obtain ⟨N, hN⟩ : ∃ N, r.n = N := ⟨_, rfl⟩
  have e1 : r.lo = minN 16777216 v N := by unfold Rp.lo; rw [hv, hN]
  have e2 : r.hi = maxN (-16777216) v N := by unfold Rp.hi; rw [hv, hN]
  obtain ⟨x, y, w, h, W, H, xs⟩ := r
  change Tri Try.prog 44 [rcV x y w h, plV ⟨W, H, xs⟩ L 0] [some (.ro, L, .ints .i64 xs)] (postF fs44 ⟨⟨x, y, w, h, W, H, xs⟩, L⟩)
  refine tri_evS (hypI (l := [(45, ent45)]) (li := [(64, its64)]) (lp := []) ⟨e45, trivial⟩ ⟨it64, trivial⟩ trivial) Try.func44 comp44 (rs := [.cell 4 none, .cell 5 none]) (by rfl) Try.ntmps44 18 ?_
  simp -implicitDefEqProofs only [push_cast, false_implies, reduceCtorEq, Classical.not_not, Nat.reduceAdd, Nat.reduceSub, Nat.reduceMul, Nat.reduceLeDiff, Nat.reduceLT, Nat.reduceEqDiff, Nat.reduceBEq, Nat.reduceBNe, Int.reduceNeg, Int.reduceToNat, Bool.or_false, Bool.false_or, Bool.or_true, Bool.true_or, BEq.rfl, Bool.not_eq_true, Bool.not_eq_false, decide_eq_true_eq, not_true_eq_false, not_false_eq_true, ite_true, ite_false, List.append_nil, and_assoc, Nat.mul_zero, Nat.zero_mul, ir44, fs45, rcV, plV, Int.toNat_natCast]
  intro X X1
  refine evS_rf its64 ⟨X1 2 14, X1 2 15, L, ⟨x, y, w, h, W, H, xs⟩⟩ rfl hp ⟨by kernel_rfl, by kernel_rfl⟩ rfl ?_ (by intro _ _; rfl) (A := Unit)
    (fun k _ => [(12, .mine, X 2 12, .cells [.int .i64 (minN 16777216 v k)]), (13, .mine, X 3 13, .cells [.int .i64 (maxN (-16777216) v k)])]) (fun k _ => True) () trivial ?_ [some 14, some 15, some 0] ?_ ?_ ?_ ?_
  · simp -implicitDefEqProofs only [push_cast, false_implies, reduceCtorEq, Classical.not_not, Nat.reduceAdd, Nat.reduceSub, Nat.reduceMul, Nat.reduceLeDiff, Nat.reduceLT, Nat.reduceEqDiff, Nat.reduceBEq, Nat.reduceBNe, Int.reduceNeg, Int.reduceToNat, Bool.or_false, Bool.false_or, Bool.or_true, Bool.true_or, BEq.rfl, Bool.not_eq_true, Bool.not_eq_false, decide_eq_true_eq, not_true_eq_false, not_false_eq_true, ite_true, ite_false, List.append_nil, and_assoc, Nat.mul_zero, Nat.zero_mul, its64]
  · simp -implicitDefEqProofs only [push_cast, false_implies, reduceCtorEq, Classical.not_not, Nat.reduceAdd, Nat.reduceSub, Nat.reduceMul, Nat.reduceLeDiff, Nat.reduceLT, Nat.reduceEqDiff, Nat.reduceBEq, Nat.reduceBNe, Int.reduceNeg, Int.reduceToNat, Bool.or_false, Bool.false_or, Bool.or_true, Bool.true_or, BEq.rfl, Bool.not_eq_true, Bool.not_eq_false, decide_eq_true_eq, not_true_eq_false, not_false_eq_true, ite_true, ite_false, List.append_nil, and_assoc, Nat.mul_zero, Nat.zero_mul, minN, maxN]
  · simp -implicitDefEqProofs only [push_cast, false_implies, reduceCtorEq, Classical.not_not, Nat.reduceAdd, Nat.reduceSub, Nat.reduceMul, Nat.reduceLeDiff, Nat.reduceLT, Nat.reduceEqDiff, Nat.reduceBEq, Nat.reduceBNe, Int.reduceNeg, Int.reduceToNat, Bool.or_false, Bool.false_or, Bool.or_true, Bool.true_or, BEq.rfl, Bool.not_eq_true, Bool.not_eq_false, decide_eq_true_eq, not_true_eq_false, not_false_eq_true, ite_true, ite_false, List.append_nil, and_assoc, Nat.mul_zero, Nat.zero_mul, its64]
  · intro k _ _
    simp -implicitDefEqProofs only [push_cast, false_implies, reduceCtorEq, Classical.not_not, Nat.reduceAdd, Nat.reduceSub, Nat.reduceMul, Nat.reduceLeDiff, Nat.reduceLT, Nat.reduceEqDiff, Nat.reduceBEq, Nat.reduceBNe, Int.reduceNeg, Int.reduceToNat, Bool.or_false, Bool.false_or, Bool.or_true, Bool.true_or, BEq.rfl, Bool.not_eq_true, Bool.not_eq_false, decide_eq_true_eq, not_true_eq_false, not_false_eq_true, ite_true, ite_false, List.append_nil, and_assoc, Nat.mul_zero, Nat.zero_mul, its64]
  · intro k _ hk _ K hK
    have hvk : Rp.val ⟨x, y, w, h, W, H, xs⟩ k = v k := by rw [hv]
    change evS _ _ _ _ (putsE _ [11, 12] (vaX ⟨x, y, w, h, W, H, xs⟩ k)) _
    simp -implicitDefEqProofs only [push_cast, false_implies, reduceCtorEq, Classical.not_not, Nat.reduceAdd, Nat.reduceSub, Nat.reduceMul, Nat.reduceLeDiff, Nat.reduceLT, Nat.reduceEqDiff, Nat.reduceBEq, Nat.reduceBNe, Int.reduceNeg, Int.reduceToNat, Bool.or_false, Bool.false_or, Bool.or_true, Bool.true_or, BEq.rfl, Bool.not_eq_true, Bool.not_eq_false, decide_eq_true_eq, not_true_eq_false, not_false_eq_true, ite_true, ite_false, List.append_nil, and_assoc, Nat.mul_zero, Nat.zero_mul, vaX, hvk]
    simp -implicitDefEqProofs only [push_cast, false_implies, reduceCtorEq, Classical.not_not, Nat.reduceAdd, Nat.reduceSub, Nat.reduceMul, Nat.reduceLeDiff, Nat.reduceLT, Nat.reduceEqDiff, Nat.reduceBEq, Nat.reduceBNe, Int.reduceNeg, Int.reduceToNat, Bool.or_false, Bool.false_or, Bool.or_true, Bool.true_or, BEq.rfl, Bool.not_eq_true, Bool.not_eq_false, decide_eq_true_eq, not_true_eq_false, not_false_eq_true, ite_true, ite_false, List.append_nil, and_assoc, Nat.mul_zero, Nat.zero_mul, b44_1]
    refine hK () trivial _ _ ?_
    simp -implicitDefEqProofs only [push_cast, false_implies, reduceCtorEq, Classical.not_not, Nat.reduceAdd, Nat.reduceSub, Nat.reduceMul, Nat.reduceLeDiff, Nat.reduceLT, Nat.reduceEqDiff, Nat.reduceBEq, Nat.reduceBNe, Int.reduceNeg, Int.reduceToNat, Bool.or_false, Bool.false_or, Bool.or_true, Bool.true_or, BEq.rfl, Bool.not_eq_true, Bool.not_eq_false, decide_eq_true_eq, not_true_eq_false, not_false_eq_true, ite_true, ite_false, List.append_nil, and_assoc, Nat.mul_zero, Nat.zero_mul, minN, maxN]
  · intro _ _
    have eN : its64.n ⟨X1 2 14, X1 2 15, L, ⟨x, y, w, h, W, H, xs⟩⟩ = N := hN
    simp -implicitDefEqProofs only [push_cast, false_implies, reduceCtorEq, Classical.not_not, Nat.reduceAdd, Nat.reduceSub, Nat.reduceMul, Nat.reduceLeDiff, Nat.reduceLT, Nat.reduceEqDiff, Nat.reduceBEq, Nat.reduceBNe, Int.reduceNeg, Int.reduceToNat, Bool.or_false, Bool.false_or, Bool.or_true, Bool.true_or, BEq.rfl, Bool.not_eq_true, Bool.not_eq_false, decide_eq_true_eq, not_true_eq_false, not_false_eq_true, ite_true, ite_false, List.append_nil, and_assoc, Nat.mul_zero, Nat.zero_mul, eN, r44_2]
    refine postF.mk' (fun _ => default) [some 0] ?_
    simp -implicitDefEqProofs only [push_cast, false_implies, reduceCtorEq, Classical.not_not, Nat.reduceAdd, Nat.reduceSub, Nat.reduceMul, Nat.reduceLeDiff, Nat.reduceLT, Nat.reduceEqDiff, Nat.reduceBEq, Nat.reduceBNe, Int.reduceNeg, Int.reduceToNat, Bool.or_false, Bool.false_or, Bool.or_true, Bool.true_or, BEq.rfl, Bool.not_eq_true, Bool.not_eq_false, decide_eq_true_eq, not_true_eq_false, not_false_eq_true, ite_true, ite_false, List.append_nil, and_assoc, Nat.mul_zero, Nat.zero_mul, fs44, e1, e2]
def ent44 : Entry := spOf fs44 inv45
theorem e44 : EntryOk Try.prog 44 ent44 := entry_of ok44 inv45
@[push_cast] theorem ent44_app (us : List SV) (look : Look) (x : Nat → Xf.Loc) (k : Nat) : ent44 us look x k = spOf fs44 inv45 us look x k := rfl
/-- Energies. -/
structure En where
  cut : Int
  paper : Int
  text : Int
  pic : Int
def En.Ok (e : En) : Prop := (0 ≤ e.cut ∧ e.cut ≤ 100000) ∧ (0 ≤ e.paper ∧ e.paper ≤ 100000) ∧ (0 ≤ e.text ∧ e.text ≤ 100000) ∧ (0 ≤ e.pic ∧ e.pic ≤ 100000)
instance (e : En) : Decidable e.Ok := by unfold En.Ok; infer_instance
def enV (e : En) : SV := .agg [.int .i64 e.cut, .int .i64 e.paper, .int .i64 e.text, .int .i64 e.pic]
def Rp.pa (r : Rp) (k : Nat) : Int := sumN (fun k => r.hi - r.val k) k
def Rp.te (r : Rp) (k : Nat) : Int := sumN (fun k => min (r.val k - r.lo) (r.hi - r.val k)) k
def Rp.en (r : Rp) (e : En) : Nat → Int
  | 0 => e.paper + r.pa r.n
  | 1 => e.text + r.te r.n
  | _ => e.pic * r.w * r.h
def Rp.grey (r : Rp) : Prop := ∀ k, k < r.n → 0 ≤ r.val k ∧ r.val k ≤ 255
structure EnA where
  a : RpA
  e : En
theorem Rp.lohi {r : Rp} (h : r.grey) {k : Nat} (hk : k < r.n) : 0 ≤ r.lo ∧ r.lo ≤ r.val k ∧ r.val k ≤ r.hi ∧ r.hi ≤ 255 :=
  ⟨minN_ge (by omega) fun k hk => (h k hk).1, minN_le hk, le_maxN hk, maxN_le (by omega) fun k hk => (h k hk).2⟩
theorem Rp.pa_bd {r : Rp} (h : r.grey) {k : Nat} (hk : k ≤ r.n) : 0 ≤ r.pa k ∧ r.pa k ≤ k * 255 :=
  sumN_bd (f := fun k => r.hi - r.val k) (fun k hk => by have := Rp.lohi h hk; have := (h k hk).1; omega) (by omega) k hk
theorem Rp.te_bd {r : Rp} (h : r.grey) {k : Nat} (hk : k ≤ r.n) : 0 ≤ r.te k ∧ r.te k ≤ k * 255 :=
  sumN_bd (f := fun k => min (r.val k - r.lo) (r.hi - r.val k)) (fun k hk => by have := Rp.lohi h hk; have := (h k hk).1; omega) (by omega) k hk
def fs34 : FS where
  A := EnA
  args := fun a => [rcV a.a.r.x a.a.r.y a.a.r.w a.a.r.h, plV ⟨a.a.r.W, a.a.r.H, a.a.r.xs⟩ a.a.L 0, enV a.e]
  mem := fun a => [some (.ro, a.a.L, .ints .i64 a.a.r.xs)]
  pre := fun a => a.a.r.Ok ∧ a.e.Ok ∧ a.a.r.grey
  res := fun a x => .agg [.int .i64 (a.a.r.en a.e 0), .int .i64 (a.a.r.en a.e 1), .int .i64 (a.a.r.en a.e 2)]
  out := fun _ _ => []
  new := fun _ _ => []
def inv34 : List SV → Look → Option (EnA × List Nat)
  | [r, p, .agg [.int .i64 c, .int .i64 q, .int .i64 t, .int .i64 i]], look => match getR look r p with
    | some (a, g) => some (⟨a, ⟨c, q, t, i⟩⟩, g)
    | _ => none
  | _, _ => none
attribute [push_cast] inv34
set_option maxRecDepth 4000 in
theorem ok34 : FSOk Try.prog 34 fs34 := by
  refine ⟨⟨_, Try.func34, by kernel_rfl, by kernel_rfl⟩, fun a => ⟨by simp [fs34, push_cast, noMine, argOwn, Chunk.frArg], by simp [fs34, push_cast, outOk, Chunk.ext], fun x => .inl (by simp [fs34, push_cast, frNew, frOut, Chunk.fr])⟩, fun a hp => ?_⟩
  obtain ⟨⟨r, L⟩, e⟩ := a
  obtain ⟨hp, hE, hG⟩ : r.Ok ∧ e.Ok ∧ r.grey := hp
  have hlohi := fun {k : Nat} => Rp.lohi hG (k := k)
  have hpa := fun {k : Nat} => Rp.pa_bd hG (k := k)
  have hte := fun {k : Nat} => Rp.te_bd hG (k := k)
  have hgr := fun {k : Nat} => hG k
  obtain ⟨v, hv⟩ : ∃ v, r.val = v := ⟨_, rfl⟩
  obtain ⟨N, hN⟩ : ∃ N, r.n = N := ⟨_, rfl⟩
  obtain ⟨lo, hlo⟩ : ∃ N, r.lo = N := ⟨_, rfl⟩
  obtain ⟨hi, hhi⟩ : ∃ N, r.hi = N := ⟨_, rfl⟩
  obtain ⟨pa, hpa'⟩ : ∃ N, r.pa = N := ⟨_, rfl⟩
  obtain ⟨te, hte'⟩ : ∃ N, r.te = N := ⟨_, rfl⟩
  have s1 : ∀ k, pa (k + 1) = pa k + (hi - v k) := fun k => by rw [← hpa', ← hhi, ← hv]; rfl
  have s2 : ∀ k, te (k + 1) = te k + min (v k - lo) (hi - v k) := fun k => by rw [← hte', ← hhi, ← hlo, ← hv]; rfl
  have s3 : pa 0 = 0 := by rw [← hpa']; rfl
  have s4 : te 0 = 0 := by rw [← hte']; rfl
  have e0 : r.en e 0 = e.paper + pa N := by show e.paper + r.pa r.n = _; rw [hpa', hN]
  have e1 : r.en e 1 = e.text + te N := by show e.text + r.te r.n = _; rw [hte', hN]
  have e2 : r.en e 2 = e.pic * r.w * r.h := rfl
  rw [hN, hlo, hhi, hv] at hlohi
  rw [hN, hpa'] at hpa
  rw [hN, hte'] at hte
  rw [hN, hv] at hgr
  obtain ⟨x, y, w, h, W, H, xs⟩ := r
  obtain ⟨c, p, t, i⟩ := e
  obtain ⟨⟨c1, c2⟩, ⟨p1, p2⟩, ⟨t1, t2⟩, ⟨i1, i2⟩⟩ := id hE
  simp only at c1 c2 p1 p2 t1 t2 i1 i2
  obtain ⟨h1, h2, h3, h4, h5⟩ := id hp
  simp only at h1 h2 h3 h4 h5
  change Tri Try.prog 34 [rcV x y w h, plV ⟨W, H, xs⟩ L 0, enV ⟨c, p, t, i⟩] [some (.ro, L, .ints .i64 xs)] (postF fs34 ⟨⟨⟨x, y, w, h, W, H, xs⟩, L⟩, ⟨c, p, t, i⟩⟩)
  refine tri_evS (hypI (l := [(45, ent45), (44, ent44)]) (li := [(64, its64)]) (lp := []) ⟨e45, e44, trivial⟩ ⟨it64, trivial⟩ trivial) Try.func34 comp34 (rs := [.cell 6 (some 3)]) (by rfl) Try.ntmps34 25 ?_
  have m1 := mul_bd (a := i) (b := (w : Int)) (A := 100000) (B := 200) (by omega) (by omega) (by omega) (by omega)
  have m2 := mul_bd (a := i * w) (b := (h : Int)) (A := 20000000) (B := 200) (by omega) (by omega) (by omega) (by omega)
  have hNb : N ≤ 40000 := by rw [← hN]; exact Nat.le_trans (Nat.mul_le_mul (show w ≤ 200 by omega) (show h ≤ 200 by omega)) (by decide)
  simp -implicitDefEqProofs only [push_cast, false_implies, reduceCtorEq, Classical.not_not, Nat.reduceAdd, Nat.reduceSub, Nat.reduceMul, Nat.reduceLeDiff, Nat.reduceLT, Nat.reduceEqDiff, Nat.reduceBEq, Nat.reduceBNe, Int.reduceNeg, Int.reduceToNat, Bool.or_false, Bool.false_or, Bool.or_true, Bool.true_or, BEq.rfl, Bool.not_eq_true, Bool.not_eq_false, decide_eq_true_eq, not_true_eq_false, not_false_eq_true, ite_true, ite_false, List.append_nil, and_assoc, Nat.mul_zero, Nat.zero_mul, ir34, fs45, fs44, rcV, plV, enV, Int.toNat_natCast, hlo, hhi, hp]
  intro X X1
  repeat (refine And.intro (by first | omega | trivial | (intros; omega)) ?_)
  intro X2 X3
  obtain ⟨LO, hLO⟩ : ∃ LO, (⟨(X1 13 14).b, (X1 13 14).o, false, 3⟩ : Xf.Loc) = LO := ⟨_, rfl⟩
  rw [hLO]
  have g0 : ∀ a b c : Int, rd [a, b, c] 0 = a := fun _ _ _ => rfl
  have g1 : ∀ a b c : Int, rd [a, b, c] 1 = b := fun _ _ _ => rfl
  have d0 : ∀ a b c v : Int, [a, b, c].set 0 v = [v, b, c] := fun _ _ _ _ => rfl
  have d1 : ∀ a b c v : Int, [a, b, c].set 1 v = [a, v, c] := fun _ _ _ _ => rfl
  have f0 : ∀ a b c : Int, [a, b, c].getD 0 0 = a := fun _ _ _ => rfl
  have f1 : ∀ a b c : Int, [a, b, c].getD 1 0 = b := fun _ _ _ => rfl
  have f2 : ∀ a b c : Int, [a, b, c].getD 2 0 = c := fun _ _ _ => rfl
  refine evS_rf its64 ⟨X3 2 21, X3 2 22, L, ⟨x, y, w, h, W, H, xs⟩⟩ rfl hp ⟨by kernel_rfl, by kernel_rfl⟩ rfl ?_ (by intro _ _; rfl) (A := Unit)
    (fun k _ => [(14, .mine, LO, .ints .i64 [p + pa k, t + te k, i * w * h])]) (fun k _ => True) () trivial ?_ [some 21, some 22, some 0] ?_ ?_ ?_ ?_
  · simp -implicitDefEqProofs only [push_cast, false_implies, reduceCtorEq, Classical.not_not, Nat.reduceAdd, Nat.reduceSub, Nat.reduceMul, Nat.reduceLeDiff, Nat.reduceLT, Nat.reduceEqDiff, Nat.reduceBEq, Nat.reduceBNe, Int.reduceNeg, Int.reduceToNat, Bool.or_false, Bool.false_or, Bool.or_true, Bool.true_or, BEq.rfl, Bool.not_eq_true, Bool.not_eq_false, decide_eq_true_eq, not_true_eq_false, not_false_eq_true, ite_true, ite_false, List.append_nil, and_assoc, Nat.mul_zero, Nat.zero_mul, its64]
  · simp -implicitDefEqProofs only [push_cast, false_implies, reduceCtorEq, Classical.not_not, Nat.reduceAdd, Nat.reduceSub, Nat.reduceMul, Nat.reduceLeDiff, Nat.reduceLT, Nat.reduceEqDiff, Nat.reduceBEq, Nat.reduceBNe, Int.reduceNeg, Int.reduceToNat, Bool.or_false, Bool.false_or, Bool.or_true, Bool.true_or, BEq.rfl, Bool.not_eq_true, Bool.not_eq_false, decide_eq_true_eq, not_true_eq_false, not_false_eq_true, ite_true, ite_false, List.append_nil, and_assoc, Nat.mul_zero, Nat.zero_mul, s3, s4]
  · simp -implicitDefEqProofs only [push_cast, false_implies, reduceCtorEq, Classical.not_not, Nat.reduceAdd, Nat.reduceSub, Nat.reduceMul, Nat.reduceLeDiff, Nat.reduceLT, Nat.reduceEqDiff, Nat.reduceBEq, Nat.reduceBNe, Int.reduceNeg, Int.reduceToNat, Bool.or_false, Bool.false_or, Bool.or_true, Bool.true_or, BEq.rfl, Bool.not_eq_true, Bool.not_eq_false, decide_eq_true_eq, not_true_eq_false, not_false_eq_true, ite_true, ite_false, List.append_nil, and_assoc, Nat.mul_zero, Nat.zero_mul, its64]
  · intro k _ _
    simp -implicitDefEqProofs only [push_cast, false_implies, reduceCtorEq, Classical.not_not, Nat.reduceAdd, Nat.reduceSub, Nat.reduceMul, Nat.reduceLeDiff, Nat.reduceLT, Nat.reduceEqDiff, Nat.reduceBEq, Nat.reduceBNe, Int.reduceNeg, Int.reduceToNat, Bool.or_false, Bool.false_or, Bool.or_true, Bool.true_or, BEq.rfl, Bool.not_eq_true, Bool.not_eq_false, decide_eq_true_eq, not_true_eq_false, not_false_eq_true, ite_true, ite_false, List.append_nil, and_assoc, Nat.mul_zero, Nat.zero_mul, its64]
  · intro k _ hk _ K hK
    have hvk : Rp.val ⟨x, y, w, h, W, H, xs⟩ k = v k := by rw [hv]
    have hk : k < N := by rw [← hN]; exact hk
    have q1 := hlohi hk
    have q2 := hpa (k := k) (by omega)
    have q3 := hte (k := k) (by omega)
    have q4 := hgr hk
    change evS _ _ _ _ (putsE _ [34, 35] (vaX ⟨x, y, w, h, W, H, xs⟩ k)) _
    simp -implicitDefEqProofs only [push_cast, false_implies, reduceCtorEq, Classical.not_not, Nat.reduceAdd, Nat.reduceSub, Nat.reduceMul, Nat.reduceLeDiff, Nat.reduceLT, Nat.reduceEqDiff, Nat.reduceBEq, Nat.reduceBNe, Int.reduceNeg, Int.reduceToNat, Bool.or_false, Bool.false_or, Bool.or_true, Bool.true_or, BEq.rfl, Bool.not_eq_true, Bool.not_eq_false, decide_eq_true_eq, not_true_eq_false, not_false_eq_true, ite_true, ite_false, List.append_nil, and_assoc, Nat.mul_zero, Nat.zero_mul, vaX, hvk]
    simp -implicitDefEqProofs only [push_cast, false_implies, reduceCtorEq, Classical.not_not, Nat.reduceAdd, Nat.reduceSub, Nat.reduceMul, Nat.reduceLeDiff, Nat.reduceLT, Nat.reduceEqDiff, Nat.reduceBEq, Nat.reduceBNe, Int.reduceNeg, Int.reduceToNat, Bool.or_false, Bool.false_or, Bool.or_true, Bool.true_or, BEq.rfl, Bool.not_eq_true, Bool.not_eq_false, decide_eq_true_eq, not_true_eq_false, not_false_eq_true, ite_true, ite_false, List.append_nil, and_assoc, Nat.mul_zero, Nat.zero_mul, b34_1, g0, g1, d0, d1]
    repeat (refine And.intro (by first | omega | trivial | (intros; omega)) ?_)
    refine hK () trivial _ _ ?_
    simp -implicitDefEqProofs only [push_cast, false_implies, reduceCtorEq, Classical.not_not, Nat.reduceAdd, Nat.reduceSub, Nat.reduceMul, Nat.reduceLeDiff, Nat.reduceLT, Nat.reduceEqDiff, Nat.reduceBEq, Nat.reduceBNe, Int.reduceNeg, Int.reduceToNat, Bool.or_false, Bool.false_or, Bool.or_true, Bool.true_or, BEq.rfl, Bool.not_eq_true, Bool.not_eq_false, decide_eq_true_eq, not_true_eq_false, not_false_eq_true, ite_true, ite_false, List.append_nil, and_assoc, Nat.mul_zero, Nat.zero_mul, s1, s2, Int.add_assoc]
  · intro _ _
    have eN : its64.n ⟨X3 2 21, X3 2 22, L, ⟨x, y, w, h, W, H, xs⟩⟩ = N := hN
    simp -implicitDefEqProofs only [push_cast, false_implies, reduceCtorEq, Classical.not_not, Nat.reduceAdd, Nat.reduceSub, Nat.reduceMul, Nat.reduceLeDiff, Nat.reduceLT, Nat.reduceEqDiff, Nat.reduceBEq, Nat.reduceBNe, Int.reduceNeg, Int.reduceToNat, Bool.or_false, Bool.false_or, Bool.or_true, Bool.true_or, BEq.rfl, Bool.not_eq_true, Bool.not_eq_false, decide_eq_true_eq, not_true_eq_false, not_false_eq_true, ite_true, ite_false, List.append_nil, and_assoc, Nat.mul_zero, Nat.zero_mul, eN, r34_2]
    refine postF.mk' (fun _ => default) [some 0] ?_
    simp -implicitDefEqProofs only [push_cast, false_implies, reduceCtorEq, Classical.not_not, Nat.reduceAdd, Nat.reduceSub, Nat.reduceMul, Nat.reduceLeDiff, Nat.reduceLT, Nat.reduceEqDiff, Nat.reduceBEq, Nat.reduceBNe, Int.reduceNeg, Int.reduceToNat, Bool.or_false, Bool.false_or, Bool.or_true, Bool.true_or, BEq.rfl, Bool.not_eq_true, Bool.not_eq_false, decide_eq_true_eq, not_true_eq_false, not_false_eq_true, ite_true, ite_false, List.append_nil, and_assoc, Nat.mul_zero, Nat.zero_mul, fs34, e0, e1, e2, f0, f1, f2]
def ent34 : Entry := spOf fs34 inv34
theorem e34 : EntryOk Try.prog 34 ent34 := entry_of ok34 inv34
@[push_cast] theorem ent34_app (us : List SV) (look : Look) (x : Nat → Xf.Loc) (k : Nat) : ent34 us look x k = spOf fs34 inv34 us look x k := rfl
def ir67 : IR :=
  .seq (.reg false [⟨some 1, none, ⟨[], []⟩, .box 10 (.t 0)⟩,
    ⟨some 2, none, ⟨[], []⟩, .mov (.k (.bool false))⟩] [0, 2] []) (.seq (.reg false [⟨some 3, none, ⟨[], []⟩, .fld (.t 1) 2⟩,
    ⟨some 4, none, ⟨[], []⟩, .ld false none 0 0 (.t 3)⟩,
    ⟨some 5, none, ⟨[], []⟩, .fld (.t 1) 3⟩,
    ⟨some 6, none, ⟨[], []⟩, .ld false none 0 0 (.t 5)⟩,
    ⟨some 7, none, ⟨[], []⟩, .bin 0 .mul (.t 4) (.t 6)⟩,
    ⟨some 8, none, ⟨[], []⟩, .bin 0 .eql (.t 7) (.k (.int .i64 0))⟩,
    ⟨some 2, none, ⟨[], []⟩, .mov (.t 8)⟩] [1, 3, 4, 5, 6, 7, 8] []) (.ret))
set_option maxRecDepth 4000 in
theorem comp67 : (Try.f67.body.bind fun c => compC tab isP chkAll ir67 c) = some ir67 := by kernel_rfl
def b71_1 : IR :=
  .seq (.reg false [⟨some 9, none, ⟨[], []⟩, .bin 0 .lss (.t 8) (.t 7)⟩] [] []) (.seq (.cond (.t 9) (.skip) (.exit 0)) (.seq (.block 1 (.seq (.reg false [⟨some 10, none, ⟨[], []⟩, .mov (.t 8)⟩,
    ⟨some 5, none, ⟨[], []⟩, .mov (.t 10)⟩] [9, 10] []) (.seq (.reg false [⟨some 11, none, ⟨[], []⟩, .mov (.t 1)⟩,
    ⟨some 12, none, ⟨[], []⟩, .mov (.t 0)⟩,
    ⟨some 13, none, ⟨[], []⟩, .mov (.t 5)⟩,
    ⟨some 14, none, ⟨[], []⟩, .idxS (.t 12) (.t 13) 4⟩,
    ⟨some 15, none, ⟨[], []⟩, .ld true (some 4) 0 0 (.t 14)⟩,
    ⟨some 16, none, ⟨[], []⟩, .callv (some 4) 10 (.t 11) [.t 15]⟩] [11, 12, 13, 14, 15] []) (.cond (.t 16) (.seq (.reg false [⟨some 17, none, ⟨[], []⟩, .mov (.t 5)⟩,
    ⟨some 4, none, ⟨[], []⟩, .mov (.t 17)⟩] [0, 1, 5, 7, 8, 16, 17] []) (.ret)) (.skip))))) (.reg false [⟨some 18, none, ⟨[], []⟩, .bin 0 .add (.t 8) (.k (.int .i64 1))⟩,
    ⟨some 8, none, ⟨[], []⟩, .mov (.t 18)⟩] [4, 5, 16, 18] [])))
def r71_2 : IR :=
  .seq (.reg false [⟨some 4, none, ⟨[], []⟩, .mov (.k (.int .i64 (-1)))⟩] [0, 1, 7, 8] []) (.ret)
def ir71 : IR :=
  .seq (.reg false [⟨some 4, none, ⟨[], []⟩, .mov (.k (.int .i64 0))⟩] [4] []) (.seq (.seq (.reg false [⟨some 6, none, ⟨[], []⟩, .mov (.t 0)⟩,
    ⟨some 7, none, ⟨[], []⟩, .len (.t 6)⟩,
    ⟨some 8, none, ⟨[], []⟩, .mov (.k (.int .i64 0))⟩] [6] []) (.block 0 (.loop b71_1))) (r71_2))
def kp71_1 : List Nat := [0, 1, 7, 8]
def kl71_1 : List Nat := [10, 11, 12, 13]
attribute [push_cast] kp71_1 kl71_1
set_option maxRecDepth 4000 in
theorem comp71 : (Try.f71.body.bind fun c => compC tab isP chkAll ir71 c) = some ir71 := by kernel_rfl
def b66_1 : IR :=
  .seq (.seq (.reg false [⟨some 16, none, ⟨[], []⟩, .mov (.t 6)⟩,
    ⟨some 17, none, ⟨[], []⟩, .mov (.t 0)⟩,
    ⟨some 18, none, ⟨[], []⟩, .len (.t 17)⟩,
    ⟨some 19, none, ⟨[], []⟩, .bin 0 .lss (.t 16) (.t 18)⟩] [16, 17, 18] []) (.cond (.t 19) (.skip) (.exit 0))) (.seq (.block 1 (.seq (.reg false [⟨some 22, none, ⟨[], []⟩, .mov (.t 0)⟩,
    ⟨some 23, none, ⟨[], []⟩, .mov (.t 6)⟩,
    ⟨some 24, none, ⟨[], []⟩, .idxS (.t 22) (.t 23) 4⟩,
    ⟨some 25, none, ⟨[], []⟩, .ld true (some 4) 0 0 (.t 24)⟩,
    ⟨some 7, none, ⟨[], []⟩, .alloc 14 [.int .i64 0, .int .i64 0, .int .i64 0, .int .i64 0]⟩,
    ⟨none, none, ⟨[], []⟩, .sto false 4 .i64 (.t 7) (.t 25)⟩] [19, 22, 23, 24, 25] []) (.seq (.reg false [⟨some 26, none, ⟨[], []⟩, .mov (.t 1)⟩,
    ⟨some 27, none, ⟨[], []⟩, .ld false (some 4) 0 0 (.t 7)⟩,
    ⟨some 28, none, ⟨[], []⟩, .callv (some 4) 15 (.t 26) [.t 27]⟩,
    ⟨some 29, none, ⟨[], []⟩, .not (.t 28)⟩] [26, 27, 28] []) (.cond (.t 29) (.seq (.reg false [⟨some 30, none, ⟨[], []⟩, .mov (.t 0)⟩,
    ⟨some 31, none, ⟨[], []⟩, .mov (.t 5)⟩,
    ⟨some 32, none, ⟨[], []⟩, .ld false (some 4) 0 0 (.t 7)⟩,
    ⟨some 33, none, ⟨[], []⟩, .idxS (.t 30) (.t 31) 4⟩,
    ⟨none, none, ⟨[], []⟩, .sto true 4 .i64 (.t 33) (.t 32)⟩] [7, 29, 30, 31, 32, 33] []) (.reg false [⟨some 34, none, ⟨[], []⟩, .mov (.t 5)⟩,
    ⟨some 35, none, ⟨[], []⟩, .bin 0 .add (.t 34) (.k (.int .i64 1))⟩,
    ⟨some 5, none, ⟨[], []⟩, .mov (.t 35)⟩] [34, 35] [])) (.skip))))) (.reg false [⟨some 20, none, ⟨[], []⟩, .mov (.t 6)⟩,
    ⟨some 21, none, ⟨[], []⟩, .bin 0 .add (.t 20) (.k (.int .i64 1))⟩,
    ⟨some 6, none, ⟨[], []⟩, .mov (.t 21)⟩] [7, 20, 21, 29] []))
def r66_2 : IR :=
  .seq (.reg false [⟨some 36, none, ⟨[], []⟩, .mov (.t 0)⟩,
    ⟨some 37, none, ⟨[], []⟩, .mov (.t 5)⟩,
    ⟨some 38, none, ⟨[], []⟩, .slc (.t 36) 4 (some (.t 37)) none⟩,
    ⟨none, none, ⟨[], []⟩, .clear [.int .i64 0, .int .i64 0, .int .i64 0, .int .i64 0] (.t 38)⟩] [1, 6, 36, 37, 38] []) (.seq (.reg false [⟨some 39, none, ⟨[], []⟩, .mov (.t 0)⟩,
    ⟨some 40, none, ⟨[], []⟩, .mov (.t 5)⟩,
    ⟨some 41, none, ⟨[], []⟩, .slc (.t 39) 4 none (some (.t 40))⟩,
    ⟨some 4, none, ⟨[], []⟩, .mov (.t 41)⟩] [0, 5, 39, 40, 41] []) (.ret))
def ir66 : IR :=
  .seq (.reg false [⟨some 4, none, ⟨[], []⟩, .mov (.k nilSV)⟩] [4] []) (.seq (.reg false [⟨some 8, none, ⟨[], []⟩, .mov (.t 0)⟩,
    ⟨some 9, none, ⟨[], []⟩, .mov (.t 1)⟩,
    ⟨some 10, none, ⟨[], []⟩, .call (some 4) 10 71 [.t 8, .t 9]⟩,
    ⟨some 5, none, ⟨[], []⟩, .mov (.t 10)⟩] [8, 9, 10] []) (.seq (.seq (.reg false [⟨some 11, none, ⟨[], []⟩, .mov (.t 5)⟩,
    ⟨some 12, none, ⟨[], []⟩, .bin 0 .eql (.t 11) (.k (.int .i64 (-1)))⟩] [11] []) (.cond (.t 12) (.seq (.reg false [⟨some 13, none, ⟨[], []⟩, .mov (.t 0)⟩,
    ⟨some 4, none, ⟨[], []⟩, .mov (.t 13)⟩] [0, 1, 5, 12, 13] []) (.ret)) (.skip))) (.seq (.seq (.reg false [⟨some 14, none, ⟨[], []⟩, .mov (.t 5)⟩,
    ⟨some 15, none, ⟨[], []⟩, .bin 0 .add (.t 14) (.k (.int .i64 1))⟩,
    ⟨some 6, none, ⟨[], []⟩, .mov (.t 15)⟩] [4, 12, 14, 15] []) (.block 0 (.loop b66_1))) (r66_2))))
def kp66_1 : List Nat := [0, 1, 5, 6]
def kl66_1 : List Nat := [14, 15, 16, 17, 18]
attribute [push_cast] kp66_1 kl66_1
set_option maxRecDepth 4000 in
theorem comp66 : (Try.f66.body.bind fun c => compC tab isP chkAll ir66 c) = some ir66 := by kernel_rfl
structure Rt where
  x : Int
  y : Int
  w : Int
  h : Int
  deriving Inhabited, DecidableEq
def Rt.rc (x : Rt) : List RC := [.int .i64 x.x, .int .i64 x.y, .int .i64 x.w, .int .i64 x.h]
def Rt.sv (x : Rt) : SV := .agg [.int .i64 x.x, .int .i64 x.y, .int .i64 x.w, .int .i64 x.h]
attribute [push_cast] Rt.sv
def rdRt (l : List Rt) (i : Int) : Rt := l.getD i.toNat default
theorem recAt_Rt {l : List Rt} {i : Int} (h0 : 0 ≤ i) (h1 : i < l.length) (z : List RC) (e : List (List RC)) : recAt i z (l.map Rt.rc ++ e) = (rdRt l i).rc := by
  have h : i.toNat < l.length := by omega
  unfold recAt rdRt
  simp [List.getD_eq_getElem?_getD, List.getElem?_append_left, h]
theorem recAt_Rt' {l : List Rt} {i : Int} (h0 : 0 ≤ i) (h1 : i < l.length) (z : List RC) : recAt i z (l.map Rt.rc) = (rdRt l i).rc := by
  have := recAt_Rt h0 h1 z []
  rwa [List.append_nil] at this
theorem rdRt_nat {l : List Rt} {i : Nat} (h : i < l.length) : rdRt l (i : Int) = l[i] := by simp [rdRt, h]
theorem rdRt_mem {l : List Rt} {i : Nat} (h : i < l.length) : rdRt l (i : Int) ∈ l := by rw [rdRt_nat h]; exact List.getElem_mem h
theorem Rt.noRow (l : List Rt) (k n : Nat) (fr : Bool) (y : Addr) : ¬ rows (.recs n fr [] (l.map Rt.rc ++ List.replicate k [.int .i64 0, .int .i64 0, .int .i64 0, .int .i64 0])) y := by
  rintro ⟨L, kk, xs, ⟨r, hr, hin⟩, _⟩
  rcases List.mem_append.1 hr with h | h
  · obtain ⟨x, _, rfl⟩ := List.mem_map.1 h
    simp [Rt.rc] at hin
  · obtain ⟨_, rfl⟩ := List.mem_replicate.1 h
    simp at hin
def Rt.ok (x : Rt) : Prop := 0 ≤ x.w ∧ x.w ≤ 200 ∧ 0 ≤ x.h ∧ x.h ≤ 200
def Rt.gone (x : Rt) : Bool := decide (x.w * x.h = 0)
structure Rt1 where
  x : Rt
def fs67 : FS where
  A := Rt1
  args := fun a => [a.x.sv]
  mem := fun _ => []
  pre := fun a => a.x.ok
  res := fun a _ => .bool a.x.gone
  out := fun _ _ => []
  new := fun _ _ => []
def inv67 : List SV → Look → Option (Rt1 × List Nat)
  | [.agg [.int .i64 x, .int .i64 y, .int .i64 w, .int .i64 h]], look => some (⟨⟨x, y, w, h⟩⟩, [])
  | _, _ => none
attribute [push_cast] inv67
theorem ok67 : FSOk Try.prog 67 fs67 := by
  refine ⟨⟨_, Try.func67, by kernel_rfl, by kernel_rfl⟩, fun a => ⟨by simp [fs67, push_cast, noMine, argOwn, Chunk.frArg], by simp [fs67, push_cast, outOk, Chunk.ext], fun x => .inl (by simp [fs67, push_cast, frNew, frOut, Chunk.fr])⟩, fun a hp => ?_⟩
  obtain ⟨⟨x, y, w, h⟩⟩ := a
  obtain ⟨h1, h2, h3, h4⟩ : 0 ≤ w ∧ w ≤ 200 ∧ 0 ≤ h ∧ h ≤ 200 := hp
  change Tri Try.prog 67 [(⟨x, y, w, h⟩ : Rt).sv] [] (postF fs67 ⟨⟨x, y, w, h⟩⟩)
  have hm := mul_bd h1 h2 h3 h4
  refine tri_evS (hyp (l := []) (lp := []) trivial trivial) Try.func67 comp67 (rs := [.tmp 2]) (by rfl) Try.ntmps67 11 ?_
  simp -implicitDefEqProofs only [push_cast, false_implies, reduceCtorEq, Classical.not_not, Nat.reduceAdd, Nat.reduceSub, Nat.reduceMul, Nat.reduceLeDiff, Nat.reduceLT, Nat.reduceEqDiff, Nat.reduceBEq, Nat.reduceBNe, Int.reduceNeg, Int.reduceToNat, Bool.or_false, Bool.false_or, Bool.or_true, Bool.true_or, BEq.rfl, Bool.not_eq_true, Bool.not_eq_false, decide_eq_true_eq, not_true_eq_false, not_false_eq_true, ite_true, ite_false, List.append_nil, and_assoc, Nat.mul_zero, Nat.zero_mul, ir67]
  intro X
  repeat (refine And.intro (by first | omega | trivial | (intros; omega)) ?_)
  refine postF.mk' (fun _ => default) [] ?_
  simp -implicitDefEqProofs only [push_cast, false_implies, reduceCtorEq, Classical.not_not, Nat.reduceAdd, Nat.reduceSub, Nat.reduceMul, Nat.reduceLeDiff, Nat.reduceLT, Nat.reduceEqDiff, Nat.reduceBEq, Nat.reduceBNe, Int.reduceNeg, Int.reduceToNat, Bool.or_false, Bool.false_or, Bool.or_true, Bool.true_or, BEq.rfl, Bool.not_eq_true, Bool.not_eq_false, decide_eq_true_eq, not_true_eq_false, not_false_eq_true, ite_true, ite_false, List.append_nil, and_assoc, Nat.mul_zero, Nat.zero_mul, fs67, Rt.gone]
def ent67 : Entry := spOf fs67 inv67
theorem e67 : EntryOk Try.prog 67 ent67 := entry_of ok67 inv67
@[push_cast] theorem ent67_app (us : List SV) (look : Look) (x : Nat → Xf.Loc) (k : Nat) : ent67 us look x k = spOf fs67 inv67 us look x k := rfl
structure Rts where
  L : Xf.Loc
  l : List Rt
def fs71 : FS where
  A := Rts
  args := fun a => [.sl 0 a.L 4 0 a.l.length, .fn 67 []]
  mem := fun a => [some (.ro, a.L, .recs 4 false [] (a.l.map Rt.rc))]
  pre := fun a => a.l.length ≤ 1000000 ∧ ∀ x ∈ a.l, x.ok
  res := fun a _ => .int .i64 (if a.l.findIdx Rt.gone < a.l.length then (a.l.findIdx Rt.gone : Nat) else -1)
  out := fun _ _ => []
  new := fun _ _ => []
def getRt : List (List RC) → Option (List Rt)
  | [] => some []
  | [.int .i64 x, .int .i64 y, .int .i64 w, .int .i64 h] :: l => match getRt l with | some r => some (⟨x, y, w, h⟩ :: r) | none => none
  | _ => none
theorem getRt_map : ∀ l : List Rt, getRt (l.map Rt.rc) = some l
  | [] => rfl
  | x :: l => by simp only [List.map_cons, Rt.rc, getRt, getRt_map l]
def inv71 : List SV → Look → Option (Rts × List Nat)
  | [.sl c _ 4 0 _, .fn 67 []], look => match rowR (look c) with
    | some (L, 4, _, r) => match getRt r with | some l => some (⟨L, l⟩, [c]) | none => none
    | _ => none
  | _, _ => none
attribute [push_cast] inv71 getRt_map
theorem ok71 : FSOk Try.prog 71 fs71 := by
  refine ⟨⟨_, Try.func71, by kernel_rfl, by kernel_rfl⟩, fun a => ⟨by simp [fs71, push_cast, noMine, argOwn, Chunk.frArg], by simp [fs71, push_cast, outOk, Chunk.ext], fun x => .inl (by simp [fs71, push_cast, frNew, frOut, Chunk.fr])⟩, fun a hp => ?_⟩
  obtain ⟨L, l⟩ := a
  obtain ⟨hl, hok⟩ : l.length ≤ 1000000 ∧ ∀ x ∈ l, x.ok := hp
  change Tri Try.prog 71 [.sl 0 L 4 0 l.length, .fn 67 []] [some (.ro, L, .recs 4 false [] (l.map Rt.rc))] (postF fs71 ⟨L, l⟩)
  refine tri_evS (hyp (l := [(67, ent67)]) (lp := []) ⟨e67, trivial⟩ trivial) Try.func71 comp71 (rs := [.tmp 4]) (by rfl) Try.ntmps71 14 ?_
  simp -implicitDefEqProofs only [push_cast, false_implies, reduceCtorEq, Classical.not_not, Nat.reduceAdd, Nat.reduceSub, Nat.reduceMul, Nat.reduceLeDiff, Nat.reduceLT, Nat.reduceEqDiff, Nat.reduceBEq, Nat.reduceBNe, Int.reduceNeg, Int.reduceToNat, Bool.or_false, Bool.false_or, Bool.or_true, Bool.true_or, BEq.rfl, Bool.not_eq_true, Bool.not_eq_false, decide_eq_true_eq, not_true_eq_false, not_false_eq_true, ite_true, ite_false, List.append_nil, and_assoc, Nat.mul_zero, Nat.zero_mul, ir71]
  refine evS_loopU (A := Nat) kp71_1 kl71_1 (fun i => [(8, .int .i64 i)]) (fun _ => []) (fun i => i ≤ l.length ∧ ∀ j : Nat, j < i → (rdRt l j).gone = false) (fun i => l.length - i) 0 ⟨Nat.zero_le _, fun j hj => absurd hj (Nat.not_lt_zero j)⟩ (Sub.pt ?_) ?_
  · simp -implicitDefEqProofs only [push_cast, false_implies, reduceCtorEq, Classical.not_not, Nat.reduceAdd, Nat.reduceSub, Nat.reduceMul, Nat.reduceLeDiff, Nat.reduceLT, Nat.reduceEqDiff, Nat.reduceBEq, Nat.reduceBNe, Int.reduceNeg, Int.reduceToNat, Bool.or_false, Bool.false_or, Bool.or_true, Bool.true_or, BEq.rfl, Bool.not_eq_true, Bool.not_eq_false, decide_eq_true_eq, not_true_eq_false, not_false_eq_true, ite_true, ite_false, List.append_nil, and_assoc, Nat.mul_zero, Nat.zero_mul]
  intro i ⟨hi, hj⟩ K hK
  by_cases hi' : i < l.length
  · have r1 := recAt_Rt' (l := l) (i := (i : Int)) (by omega) (by omega) []
    have o1 := hok _ (rdRt_mem hi')
    have hlm : (l.map Rt.rc).length = l.length := by rw [List.length_map]
    obtain ⟨x, hx⟩ : ∃ x, rdRt l (i : Int) = x := ⟨_, rfl⟩
    have hx' : l[i] = x := by rw [← rdRt_nat hi', hx]
    rw [hx] at r1 o1
    obtain ⟨x, y, w, h⟩ := x
    obtain ⟨g, hg⟩ : ∃ g, (⟨x, y, w, h⟩ : Rt).gone = g := ⟨_, rfl⟩
    simp -implicitDefEqProofs only [push_cast, false_implies, reduceCtorEq, Classical.not_not, Nat.reduceAdd, Nat.reduceSub, Nat.reduceMul, Nat.reduceLeDiff, Nat.reduceLT, Nat.reduceEqDiff, Nat.reduceBEq, Nat.reduceBNe, Int.reduceNeg, Int.reduceToNat, Bool.or_false, Bool.false_or, Bool.or_true, Bool.true_or, BEq.rfl, Bool.not_eq_true, Bool.not_eq_false, decide_eq_true_eq, not_true_eq_false, not_false_eq_true, ite_true, ite_false, List.append_nil, and_assoc, Nat.mul_zero, Nat.zero_mul, b71_1, r71_2, r1, Rt.rc, hlm, fs67, hg]
    refine ⟨fun _ => ?_, fun hl => by omega⟩
    repeat (refine And.intro (by first | omega | trivial | (intros; omega)) ?_)
    refine ⟨fun hb => ?_, fun hb => ⟨by omega, by omega, hK (i + 1) ⟨by omega, fun j h => ?_⟩ (by omega) _ _ (Sub.pt ?_)⟩⟩
    · have e : l.findIdx Rt.gone = i := by
        rw [List.findIdx_eq hi']
        refine ⟨by rw [hx', hg]; exact hb, fun j h => ?_⟩
        have := hj j h
        rwa [rdRt_nat (by omega)] at this
      refine postF.mk' (fun _ => default) [some 0] ?_
      simp -implicitDefEqProofs only [push_cast, false_implies, reduceCtorEq, Classical.not_not, Nat.reduceAdd, Nat.reduceSub, Nat.reduceMul, Nat.reduceLeDiff, Nat.reduceLT, Nat.reduceEqDiff, Nat.reduceBEq, Nat.reduceBNe, Int.reduceNeg, Int.reduceToNat, Bool.or_false, Bool.false_or, Bool.or_true, Bool.true_or, BEq.rfl, Bool.not_eq_true, Bool.not_eq_false, decide_eq_true_eq, not_true_eq_false, not_false_eq_true, ite_true, ite_false, List.append_nil, and_assoc, Nat.mul_zero, Nat.zero_mul, fs71, e, hi', if_true]
    · by_cases e : j = i
      · subst e; rw [hx, hg]; exact hb
      · exact hj j (by omega)
    · simp -implicitDefEqProofs only [push_cast, false_implies, reduceCtorEq, Classical.not_not, Nat.reduceAdd, Nat.reduceSub, Nat.reduceMul, Nat.reduceLeDiff, Nat.reduceLT, Nat.reduceEqDiff, Nat.reduceBEq, Nat.reduceBNe, Int.reduceNeg, Int.reduceToNat, Bool.or_false, Bool.false_or, Bool.or_true, Bool.true_or, BEq.rfl, Bool.not_eq_true, Bool.not_eq_false, decide_eq_true_eq, not_true_eq_false, not_false_eq_true, ite_true, ite_false, List.append_nil, and_assoc, Nat.mul_zero, Nat.zero_mul]
  · obtain rfl : i = l.length := by omega
    clear hK
    have e : ¬ l.findIdx Rt.gone < l.length := fun h => by
      have h1 := List.findIdx_getElem (w := h)
      have h2 := hj _ h
      rw [rdRt_nat h, h1] at h2
      cases h2
    simp -implicitDefEqProofs only [push_cast, false_implies, reduceCtorEq, Classical.not_not, Nat.reduceAdd, Nat.reduceSub, Nat.reduceMul, Nat.reduceLeDiff, Nat.reduceLT, Nat.reduceEqDiff, Nat.reduceBEq, Nat.reduceBNe, Int.reduceNeg, Int.reduceToNat, Bool.or_false, Bool.false_or, Bool.or_true, Bool.true_or, BEq.rfl, Bool.not_eq_true, Bool.not_eq_false, decide_eq_true_eq, not_true_eq_false, not_false_eq_true, ite_true, ite_false, List.append_nil, and_assoc, Nat.mul_zero, Nat.zero_mul, b71_1, r71_2, Int.lt_irrefl, true_implies, true_and]
    refine postF.mk' (fun _ => default) [some 0] ?_
    simp -implicitDefEqProofs only [push_cast, false_implies, reduceCtorEq, Classical.not_not, Nat.reduceAdd, Nat.reduceSub, Nat.reduceMul, Nat.reduceLeDiff, Nat.reduceLT, Nat.reduceEqDiff, Nat.reduceBEq, Nat.reduceBNe, Int.reduceNeg, Int.reduceToNat, Bool.or_false, Bool.false_or, Bool.or_true, Bool.true_or, BEq.rfl, Bool.not_eq_true, Bool.not_eq_false, decide_eq_true_eq, not_true_eq_false, not_false_eq_true, ite_true, ite_false, List.append_nil, and_assoc, Nat.mul_zero, Nat.zero_mul, fs71, e, if_false]
def ent71 : Entry := spOf fs71 inv71
theorem e71 : EntryOk Try.prog 71 ent71 := entry_of ok71 inv71
@[push_cast] theorem ent71_app (us : List SV) (look : Look) (x : Nat → Xf.Loc) (k : Nat) : ent71 us look x k = spOf fs71 inv71 us look x k := rfl
def keptRt (l : List Rt) : List Rt := l.filter fun x => !x.gone
theorem keptRt_le (l : List Rt) : (keptRt l).length ≤ l.length := List.length_filter_le _ _
def fs66 : FS where
  A := Rts
  args := fun a => [.sl 0 a.L 4 0 a.l.length, .fn 67 []]
  mem := fun a => [some (.lent, a.L, .recs 4 false [] (a.l.map Rt.rc))]
  pre := fun a => a.l.length ≤ 1000000 ∧ ∀ x ∈ a.l, x.ok
  res := fun a _ => .sl 0 a.L 4 0 (keptRt a.l).length
  out := fun a _ => [some (some (.recs 4 false [] ((keptRt a.l).map Rt.rc ++ List.replicate (a.l.length - (keptRt a.l).length) [.int .i64 0, .int .i64 0, .int .i64 0, .int .i64 0])))]
  new := fun _ _ => []
theorem del_step {l m : List Rt} {i j : Nat} (hij : i < j) (hj : j < l.length) (hm : m.length = l.length) (h1 : m.take i = keptRt (l.take j)) (h2 : m.drop j = l.drop j) :
    rdRt m j = rdRt l j ∧ ((rdRt l j).gone = true → m.take i = keptRt (l.take (j + 1))) ∧ ((rdRt l j).gone = false → (m.set i (rdRt l j)).take (i + 1) = keptRt (l.take (j + 1)) ∧ (m.set i (rdRt l j)).drop (j + 1) = l.drop (j + 1)) ∧ m.drop (j + 1) = l.drop (j + 1) := by
  have e0 : m[j]'(by omega) = l[j] := by
    have := congrArg (fun q => q[0]?) h2
    simp only [List.getElem?_drop, Nat.add_zero] at this
    rw [List.getElem?_eq_getElem (by omega), List.getElem?_eq_getElem hj] at this
    exact Option.some.inj this
  have e1 : l.take (j + 1) = l.take j ++ [l[j]] := List.take_succ_eq_append_getElem hj
  have e2 : m.drop (j + 1) = l.drop (j + 1) := by
    have := congrArg (List.drop 1) h2
    simpa [List.drop_drop, Nat.add_comm] using this
  refine ⟨by rw [rdRt_nat hj, rdRt_nat (by omega), e0], fun h => ?_, fun h => ?_, e2⟩
  · rw [rdRt_nat hj] at h
    rw [h1, e1]; unfold keptRt; rw [List.filter_append]; simp [h]
  · rw [rdRt_nat hj] at h ⊢
    refine ⟨?_, by rw [List.drop_set_of_lt (by omega), e2]⟩
    rw [List.take_succ_eq_append_getElem (by simp; omega), List.take_set_of_le (Nat.le_refl i), List.getElem_set_self, h1, e1]
    unfold keptRt; rw [List.filter_append]; simp [h]
theorem kept_find {l : List Rt} (h : l.findIdx Rt.gone < l.length) : l.take (l.findIdx Rt.gone) = keptRt (l.take (l.findIdx Rt.gone + 1)) := by
  rw [List.take_succ_eq_append_getElem h]
  unfold keptRt
  rw [List.filter_append, List.filter_eq_self.2 fun x hx => ?_]
  · have := List.findIdx_getElem (w := h); simp [this]
  · obtain ⟨j, hj, rfl⟩ := List.getElem_of_mem hx
    simp only [List.length_take] at hj
    have := List.not_of_lt_findIdx (xs := l) (p := Rt.gone) (i := j) (by omega)
    simpa using this
theorem kept_no {l : List Rt} (h : ¬ l.findIdx Rt.gone < l.length) : keptRt l = l := by
  refine List.filter_eq_self.2 fun x hx => ?_
  have h1 : ¬ ∃ x ∈ l, x.gone = true := fun q => h (List.findIdx_lt_length.2 q)
  simp only [Bool.not_eq_true', ← Bool.not_eq_true]
  exact fun q => h1 ⟨x, hx, q⟩
theorem ok66 : FSOk Try.prog 66 fs66 := by
  refine ⟨⟨_, Try.func66, by kernel_rfl, by kernel_rfl⟩, fun a => ⟨by simp [fs66, push_cast, noMine, argOwn, Chunk.frArg], by simp [fs66, push_cast, outOk, Chunk.ext], fun x => .inr ⟨fun j L ch h => ?_, fun c ch h => .inr fun y hy => ?_⟩⟩, fun a hp => ?_⟩
  · simp [fs66] at h
  · exfalso
    match c, h with
    | 0, h => simp only [fs66, lk, Option.some.injEq] at h; subst h; exact Rt.noRow _ _ _ _ _ hy
    | c + 1, h => simp [fs66, lk] at h
  obtain ⟨L, l⟩ := a
  obtain ⟨hl, hok⟩ : l.length ≤ 1000000 ∧ ∀ x ∈ l, x.ok := hp
  change Tri Try.prog 66 [.sl 0 L 4 0 l.length, .fn 67 []] [some (.lent, L, .recs 4 false [] (l.map Rt.rc))] (postF fs66 ⟨L, l⟩)
  refine tri_evS (hyp (l := [(71, ent71), (67, ent67)]) (lp := []) ⟨e71, e67, trivial⟩ trivial) Try.func66 comp66 (rs := [.tmp 4]) (by rfl) Try.ntmps66 19 ?_
  simp -implicitDefEqProofs only [push_cast, false_implies, reduceCtorEq, Classical.not_not, Nat.reduceAdd, Nat.reduceSub, Nat.reduceMul, Nat.reduceLeDiff, Nat.reduceLT, Nat.reduceEqDiff, Nat.reduceBEq, Nat.reduceBNe, Int.reduceNeg, Int.reduceToNat, Bool.or_false, Bool.false_or, Bool.or_true, Bool.true_or, BEq.rfl, Bool.not_eq_true, Bool.not_eq_false, decide_eq_true_eq, not_true_eq_false, not_false_eq_true, ite_true, ite_false, List.append_nil, and_assoc, Nat.mul_zero, Nat.zero_mul, ir66, fs71]
  refine ⟨hl, hok, ?_⟩
  by_cases hf : l.findIdx Rt.gone < l.length
  case neg =>
    rw [if_neg hf]
    have e := kept_no hf
    simp -implicitDefEqProofs only [push_cast, false_implies, reduceCtorEq, Classical.not_not, Nat.reduceAdd, Nat.reduceSub, Nat.reduceMul, Nat.reduceLeDiff, Nat.reduceLT, Nat.reduceEqDiff, Nat.reduceBEq, Nat.reduceBNe, Int.reduceNeg, Int.reduceToNat, Bool.or_false, Bool.false_or, Bool.or_true, Bool.true_or, BEq.rfl, Bool.not_eq_true, Bool.not_eq_false, decide_eq_true_eq, not_true_eq_false, not_false_eq_true, ite_true, ite_false, List.append_nil, and_assoc, Nat.mul_zero, Nat.zero_mul, true_implies, true_and]
    refine postF.mk' (fun _ => default) [some 0] ?_
    simp -implicitDefEqProofs only [push_cast, false_implies, reduceCtorEq, Classical.not_not, Nat.reduceAdd, Nat.reduceSub, Nat.reduceMul, Nat.reduceLeDiff, Nat.reduceLT, Nat.reduceEqDiff, Nat.reduceBEq, Nat.reduceBNe, Int.reduceNeg, Int.reduceToNat, Bool.or_false, Bool.false_or, Bool.or_true, Bool.true_or, BEq.rfl, Bool.not_eq_true, Bool.not_eq_false, decide_eq_true_eq, not_true_eq_false, not_false_eq_true, ite_true, ite_false, List.append_nil, and_assoc, Nat.mul_zero, Nat.zero_mul, fs66, e, Nat.sub_self, List.replicate_zero]
  rw [if_pos hf]
  have hk := kept_find hf
  obtain ⟨f, hfe⟩ : ∃ f, l.findIdx Rt.gone = f := ⟨_, rfl⟩
  rw [hfe] at hf hk ⊢
  refine ⟨fun h => by omega, fun _ => ⟨by omega, by omega, ?_⟩⟩
  refine evS_loopU (A := Nat × Nat × List Rt) kp66_1 kl66_1 (fun y => [(5, .int .i64 y.1), (6, .int .i64 y.2.1)]) (fun y => [(0, .lent, L, .recs 4 false [] (y.2.2.map Rt.rc))])
    (fun y => y.1 < y.2.1 ∧ y.2.1 ≤ l.length ∧ y.2.2.length = l.length ∧ y.2.2.take y.1 = keptRt (l.take y.2.1) ∧ y.2.2.drop y.2.1 = l.drop y.2.1) (fun y => l.length - y.2.1) (f, f + 1, l) ⟨by simp only; omega, by simp only; omega, rfl, hk, rfl⟩ (Sub.pt ?_) ?_
  · simp -implicitDefEqProofs only [push_cast, false_implies, reduceCtorEq, Classical.not_not, Nat.reduceAdd, Nat.reduceSub, Nat.reduceMul, Nat.reduceLeDiff, Nat.reduceLT, Nat.reduceEqDiff, Nat.reduceBEq, Nat.reduceBNe, Int.reduceNeg, Int.reduceToNat, Bool.or_false, Bool.false_or, Bool.or_true, Bool.true_or, BEq.rfl, Bool.not_eq_true, Bool.not_eq_false, decide_eq_true_eq, not_true_eq_false, not_false_eq_true, ite_true, ite_false, List.append_nil, and_assoc, Nat.mul_zero, Nat.zero_mul]
  rintro ⟨i, j, m⟩ ⟨h1, h2, h3, h4, h5⟩ K hK
  simp only at h1 h2 h3 h4 h5
  have hlm : (m.map Rt.rc).length = l.length := by rw [List.length_map, h3]
  by_cases hj : j < l.length
  · obtain ⟨s1, s2, s3, s4⟩ := del_step h1 hj h3 h4 h5
    have r1 := recAt_Rt' (l := m) (i := (j : Int)) (by omega) (by omega) []
    have o1 := hok _ (rdRt_mem hj)
    rw [s1] at r1
    obtain ⟨x, hx⟩ : ∃ x, rdRt l (j : Int) = x := ⟨_, rfl⟩
    rw [hx] at r1 o1 s2 s3
    obtain ⟨x, y, w, h⟩ := x
    obtain ⟨g, hg⟩ : ∃ g, (⟨x, y, w, h⟩ : Rt).gone = g := ⟨_, rfl⟩
    rw [hg] at s2 s3
    simp -implicitDefEqProofs only [push_cast, false_implies, reduceCtorEq, Classical.not_not, Nat.reduceAdd, Nat.reduceSub, Nat.reduceMul, Nat.reduceLeDiff, Nat.reduceLT, Nat.reduceEqDiff, Nat.reduceBEq, Nat.reduceBNe, Int.reduceNeg, Int.reduceToNat, Bool.or_false, Bool.false_or, Bool.or_true, Bool.true_or, BEq.rfl, Bool.not_eq_true, Bool.not_eq_false, decide_eq_true_eq, not_true_eq_false, not_false_eq_true, ite_true, ite_false, List.append_nil, and_assoc, Nat.mul_zero, Nat.zero_mul, b66_1, r66_2, r1, Rt.rc, hlm, fs67, hg]
    refine ⟨fun _ => ?_, fun hl => by omega⟩
    intro X
    repeat (refine And.intro (by first | omega | trivial | (intros; omega)) ?_)
    refine ⟨fun hb => ?_, fun hb => ?_⟩
    · repeat (refine And.intro (by first | omega | trivial | (intros; omega)) ?_)
      refine hK (i + 1, j + 1, m.set i ⟨x, y, w, h⟩) ⟨by simp only; omega, by simp only; omega, by simp only [List.length_set]; exact h3, (s3 (by simpa using hb)).1, (s3 (by simpa using hb)).2⟩ (by simp only; omega) _ _ (Sub.pt ?_)
      have q : (m.map Rt.rc).set i [.int .i64 x, .int .i64 y, .int .i64 w, .int .i64 h] = (m.set i ⟨x, y, w, h⟩).map Rt.rc := by rw [List.map_set]; rfl
      simp -implicitDefEqProofs only [push_cast, false_implies, reduceCtorEq, Classical.not_not, Nat.reduceAdd, Nat.reduceSub, Nat.reduceMul, Nat.reduceLeDiff, Nat.reduceLT, Nat.reduceEqDiff, Nat.reduceBEq, Nat.reduceBNe, Int.reduceNeg, Int.reduceToNat, Bool.or_false, Bool.false_or, Bool.or_true, Bool.true_or, BEq.rfl, Bool.not_eq_true, Bool.not_eq_false, decide_eq_true_eq, not_true_eq_false, not_false_eq_true, ite_true, ite_false, List.append_nil, and_assoc, Nat.mul_zero, Nat.zero_mul, q, Int.toNat_natCast]
    · repeat (refine And.intro (by first | omega | trivial | (intros; omega)) ?_)
      refine hK (i, j + 1, m) ⟨by simp only; omega, by simp only; omega, h3, s2 (by simpa using hb), s4⟩ (by simp only; omega) _ _ (Sub.pt ?_)
      simp -implicitDefEqProofs only [push_cast, false_implies, reduceCtorEq, Classical.not_not, Nat.reduceAdd, Nat.reduceSub, Nat.reduceMul, Nat.reduceLeDiff, Nat.reduceLT, Nat.reduceEqDiff, Nat.reduceBEq, Nat.reduceBNe, Int.reduceNeg, Int.reduceToNat, Bool.or_false, Bool.false_or, Bool.or_true, Bool.true_or, BEq.rfl, Bool.not_eq_true, Bool.not_eq_false, decide_eq_true_eq, not_true_eq_false, not_false_eq_true, ite_true, ite_false, List.append_nil, and_assoc, Nat.mul_zero, Nat.zero_mul]
  · obtain rfl : j = l.length := by omega
    clear hK
    rw [List.take_length] at h4
    have hi : i = (keptRt l).length := by
      have := congrArg List.length h4
      rw [List.length_take] at this; omega
    simp -implicitDefEqProofs only [push_cast, false_implies, reduceCtorEq, Classical.not_not, Nat.reduceAdd, Nat.reduceSub, Nat.reduceMul, Nat.reduceLeDiff, Nat.reduceLT, Nat.reduceEqDiff, Nat.reduceBEq, Nat.reduceBNe, Int.reduceNeg, Int.reduceToNat, Bool.or_false, Bool.false_or, Bool.or_true, Bool.true_or, BEq.rfl, Bool.not_eq_true, Bool.not_eq_false, decide_eq_true_eq, not_true_eq_false, not_false_eq_true, ite_true, ite_false, List.append_nil, and_assoc, Nat.mul_zero, Nat.zero_mul, b66_1, r66_2, hlm, Int.lt_irrefl, true_implies, true_and]
    repeat (refine And.intro (by first | omega | trivial | (intros; omega)) ?_)
    refine postF.mk' (fun _ => default) [some 0] ?_
    have q : (m.map Rt.rc).take i = (keptRt l).map Rt.rc := by rw [← List.map_take, h4]
    have q2 : ((l.length : Int) - (i : Int)).toNat = l.length - (keptRt l).length := by omega
    simp -implicitDefEqProofs only [push_cast, false_implies, reduceCtorEq, Classical.not_not, Nat.reduceAdd, Nat.reduceSub, Nat.reduceMul, Nat.reduceLeDiff, Nat.reduceLT, Nat.reduceEqDiff, Nat.reduceBEq, Nat.reduceBNe, Int.reduceNeg, Int.reduceToNat, Bool.or_false, Bool.false_or, Bool.or_true, Bool.true_or, BEq.rfl, Bool.not_eq_true, Bool.not_eq_false, decide_eq_true_eq, not_true_eq_false, not_false_eq_true, ite_true, ite_false, List.append_nil, and_assoc, Nat.mul_zero, Nat.zero_mul, fs66, q, q2, ← hi, Int.toNat_natCast, Int.zero_add, Int.sub_zero]
def ent66 : Entry := spOf fs66 inv71
theorem e66 : EntryOk Try.prog 66 ent66 := entry_of ok66 inv71
@[push_cast] theorem ent66_app (us : List SV) (look : Look) (x : Nat → Xf.Loc) (k : Nat) : ent66 us look x k = spOf fs66 inv71 us look x k := rfl
def b51_1 : IR :=
  .seq (.seq (.reg false [⟨some 12, none, ⟨[], []⟩, .mov (.t 4)⟩,
    ⟨some 13, none, ⟨[], []⟩, .mov (.t 0)⟩,
    ⟨some 14, none, ⟨[], []⟩, .len (.t 13)⟩,
    ⟨some 15, none, ⟨[], []⟩, .bin 0 .lss (.t 12) (.t 14)⟩] [12, 13, 14] []) (.cond (.t 15) (.skip) (.exit 0))) (.seq (.block 1 (.reg false [⟨some 18, none, ⟨[], []⟩, .mov (.t 3)⟩,
    ⟨some 19, none, ⟨[], []⟩, .mov (.t 0)⟩,
    ⟨some 20, none, ⟨[], []⟩, .mov (.t 4)⟩,
    ⟨some 21, none, ⟨[], []⟩, .idxS (.t 19) (.t 20) 1⟩,
    ⟨some 22, none, ⟨[], []⟩, .ld true none 0 0 (.t 21)⟩,
    ⟨some 23, none, ⟨[], []⟩, .mn (.t 18) (.t 22)⟩,
    ⟨some 3, none, ⟨[], []⟩, .mov (.t 23)⟩] [15, 18, 19, 20, 21, 22, 23] [])) (.reg false [⟨some 16, none, ⟨[], []⟩, .mov (.t 4)⟩,
    ⟨some 17, none, ⟨[], []⟩, .bin 0 .add (.t 16) (.k (.int .i64 1))⟩,
    ⟨some 4, none, ⟨[], []⟩, .mov (.t 17)⟩] [16, 17] []))
def r51_2 : IR :=
  .seq (.reg false [⟨some 24, none, ⟨[], []⟩, .mov (.t 3)⟩,
    ⟨some 2, none, ⟨[], []⟩, .mov (.t 24)⟩] [0, 3, 4, 24] []) (.ret)
def ir51 : IR :=
  .seq (.reg false [⟨some 2, none, ⟨[], []⟩, .mov (.k (.int .i64 0))⟩] [2] []) (.seq (.seq (.reg false [⟨some 5, none, ⟨[], []⟩, .mov (.t 0)⟩,
    ⟨some 6, none, ⟨[], []⟩, .len (.t 5)⟩,
    ⟨some 7, none, ⟨[], []⟩, .bin 0 .lss (.t 6) (.k (.int .i64 1))⟩] [5, 6] []) (.cond (.t 7) (.dead) (.skip))) (.seq (.reg false [⟨some 9, none, ⟨[], []⟩, .mov (.t 0)⟩,
    ⟨some 10, none, ⟨[], []⟩, .idxS (.t 9) (.k (.int .i64 0)) 1⟩,
    ⟨some 11, none, ⟨[], []⟩, .ld true none 0 0 (.t 10)⟩,
    ⟨some 3, none, ⟨[], []⟩, .mov (.t 11)⟩] [7, 9, 10, 11] []) (.seq (.seq (.reg false [⟨some 4, none, ⟨[], []⟩, .mov (.k (.int .i64 1))⟩] [] []) (.block 0 (.loop b51_1))) (r51_2))))
def kp51_1 : List Nat := [0, 3, 4]
def kl51_1 : List Nat := []
attribute [push_cast] kp51_1 kl51_1
set_option maxRecDepth 4000 in
theorem comp51 : (Try.f51.body.bind fun c => compC tab isP chkAll ir51 c) = some ir51 := by kernel_rfl
def b52_1 : IR :=
  .seq (.seq (.reg false [⟨some 12, none, ⟨[], []⟩, .mov (.t 4)⟩,
    ⟨some 13, none, ⟨[], []⟩, .mov (.t 0)⟩,
    ⟨some 14, none, ⟨[], []⟩, .len (.t 13)⟩,
    ⟨some 15, none, ⟨[], []⟩, .bin 0 .lss (.t 12) (.t 14)⟩] [12, 13, 14] []) (.cond (.t 15) (.skip) (.exit 0))) (.seq (.block 1 (.reg false [⟨some 18, none, ⟨[], []⟩, .mov (.t 3)⟩,
    ⟨some 19, none, ⟨[], []⟩, .mov (.t 0)⟩,
    ⟨some 20, none, ⟨[], []⟩, .mov (.t 4)⟩,
    ⟨some 21, none, ⟨[], []⟩, .idxS (.t 19) (.t 20) 1⟩,
    ⟨some 22, none, ⟨[], []⟩, .ld true none 0 0 (.t 21)⟩,
    ⟨some 23, none, ⟨[], []⟩, .mx (.t 18) (.t 22)⟩,
    ⟨some 3, none, ⟨[], []⟩, .mov (.t 23)⟩] [15, 18, 19, 20, 21, 22, 23] [])) (.reg false [⟨some 16, none, ⟨[], []⟩, .mov (.t 4)⟩,
    ⟨some 17, none, ⟨[], []⟩, .bin 0 .add (.t 16) (.k (.int .i64 1))⟩,
    ⟨some 4, none, ⟨[], []⟩, .mov (.t 17)⟩] [16, 17] []))
def r52_2 : IR :=
  .seq (.reg false [⟨some 24, none, ⟨[], []⟩, .mov (.t 3)⟩,
    ⟨some 2, none, ⟨[], []⟩, .mov (.t 24)⟩] [0, 3, 4, 24] []) (.ret)
def ir52 : IR :=
  .seq (.reg false [⟨some 2, none, ⟨[], []⟩, .mov (.k (.int .i64 0))⟩] [2] []) (.seq (.seq (.reg false [⟨some 5, none, ⟨[], []⟩, .mov (.t 0)⟩,
    ⟨some 6, none, ⟨[], []⟩, .len (.t 5)⟩,
    ⟨some 7, none, ⟨[], []⟩, .bin 0 .lss (.t 6) (.k (.int .i64 1))⟩] [5, 6] []) (.cond (.t 7) (.dead) (.skip))) (.seq (.reg false [⟨some 9, none, ⟨[], []⟩, .mov (.t 0)⟩,
    ⟨some 10, none, ⟨[], []⟩, .idxS (.t 9) (.k (.int .i64 0)) 1⟩,
    ⟨some 11, none, ⟨[], []⟩, .ld true none 0 0 (.t 10)⟩,
    ⟨some 3, none, ⟨[], []⟩, .mov (.t 11)⟩] [7, 9, 10, 11] []) (.seq (.seq (.reg false [⟨some 4, none, ⟨[], []⟩, .mov (.k (.int .i64 1))⟩] [] []) (.block 0 (.loop b52_1))) (r52_2))))
def kp52_1 : List Nat := [0, 3, 4]
def kl52_1 : List Nat := []
attribute [push_cast] kp52_1 kl52_1
set_option maxRecDepth 4000 in
theorem comp52 : (Try.f52.body.bind fun c => compC tab isP chkAll ir52 c) = some ir52 := by kernel_rfl
def b53_1 : IR :=
  .seq (.reg false [⟨some 9, none, ⟨[], []⟩, .bin 0 .lss (.t 8) (.t 7)⟩] [] []) (.seq (.cond (.t 9) (.skip) (.exit 0)) (.seq (.block 1 (.seq (.reg false [⟨some 10, none, ⟨[], []⟩, .mov (.t 8)⟩,
    ⟨some 5, none, ⟨[], []⟩, .mov (.t 10)⟩] [9, 10] []) (.seq (.reg false [⟨some 11, none, ⟨[], []⟩, .mov (.t 1)⟩,
    ⟨some 12, none, ⟨[], []⟩, .mov (.t 0)⟩,
    ⟨some 13, none, ⟨[], []⟩, .mov (.t 5)⟩,
    ⟨some 14, none, ⟨[], []⟩, .idxS (.t 12) (.t 13) 1⟩,
    ⟨some 15, none, ⟨[], []⟩, .ld true none 0 0 (.t 14)⟩,
    ⟨some 16, none, ⟨[], []⟩, .bin 0 .eql (.t 11) (.t 15)⟩] [11, 12, 13, 14, 15] []) (.cond (.t 16) (.seq (.reg false [⟨some 17, none, ⟨[], []⟩, .mov (.t 5)⟩,
    ⟨some 4, none, ⟨[], []⟩, .mov (.t 17)⟩] [0, 1, 5, 7, 8, 16, 17] []) (.ret)) (.skip))))) (.reg false [⟨some 18, none, ⟨[], []⟩, .bin 0 .add (.t 8) (.k (.int .i64 1))⟩,
    ⟨some 8, none, ⟨[], []⟩, .mov (.t 18)⟩] [4, 5, 16, 18] [])))
def r53_2 : IR :=
  .seq (.reg false [⟨some 4, none, ⟨[], []⟩, .mov (.k (.int .i64 (-1)))⟩] [0, 1, 7, 8] []) (.ret)
def ir53 : IR :=
  .seq (.reg false [⟨some 4, none, ⟨[], []⟩, .mov (.k (.int .i64 0))⟩] [4] []) (.seq (.seq (.reg false [⟨some 6, none, ⟨[], []⟩, .mov (.t 0)⟩,
    ⟨some 7, none, ⟨[], []⟩, .len (.t 6)⟩,
    ⟨some 8, none, ⟨[], []⟩, .mov (.k (.int .i64 0))⟩] [6] []) (.block 0 (.loop b53_1))) (r53_2))
def kp53_1 : List Nat := [0, 1, 7, 8]
def kl53_1 : List Nat := []
attribute [push_cast] kp53_1 kl53_1
set_option maxRecDepth 4000 in
theorem comp53 : (Try.f53.body.bind fun c => compC tab isP chkAll ir53 c) = some ir53 := by kernel_rfl
def ir54 : IR :=
  .seq (.reg false [⟨some 2, none, ⟨[], []⟩, .box 10 (.t 0)⟩,
    ⟨some 4, none, ⟨[], []⟩, .alloc 11 [.int .i64 0, .int .i64 0, .int .i64 0, .int .i64 0, .int .i64 0]⟩] [0] []) (.seq (.reg false [⟨some 5, none, ⟨[], []⟩, .mov (.t 1)⟩,
    ⟨some 6, none, ⟨[], []⟩, .fld (.t 2) 0⟩,
    ⟨some 7, none, ⟨[], []⟩, .ld false none 0 0 (.t 6)⟩,
    ⟨some 8, none, ⟨[], []⟩, .fld (.t 2) 1⟩,
    ⟨some 9, none, ⟨[], []⟩, .ld false none 0 0 (.t 8)⟩,
    ⟨some 10, none, ⟨[], []⟩, .fld (.t 2) 2⟩,
    ⟨some 11, none, ⟨[], []⟩, .ld false none 0 0 (.t 10)⟩,
    ⟨some 12, none, ⟨[], []⟩, .fld (.t 2) 3⟩,
    ⟨some 13, none, ⟨[], []⟩, .ld false none 0 0 (.t 12)⟩,
    ⟨some 14, none, ⟨[], []⟩, .build [.int .i64 0, .int .i64 0, .int .i64 0, .int .i64 0, .int .i64 0] [(0, 1, .t 5), (1, 1, .t 7), (2, 1, .t 9), (3, 1, .t 11), (4, 1, .t 13)]⟩,
    ⟨none, none, ⟨[], []⟩, .sto false 5 .i64 (.t 4) (.t 14)⟩] [1, 2, 5, 6, 7, 8, 9, 10, 11, 12, 13, 14] []) (.ret))
set_option maxRecDepth 4000 in
theorem comp54 : (Try.f54.body.bind fun c => compC tab isP chkAll ir54 c) = some ir54 := by kernel_rfl
def ir55 : IR :=
  .seq (.reg false [⟨some 1, none, ⟨[], []⟩, .box 10 (.t 0)⟩,
    ⟨some 2, none, ⟨[], []⟩, .mov (.k nilSV)⟩] [0, 2] []) (.seq (.reg true [⟨some 6, none, ⟨[], []⟩, .fld (.t 1) 2⟩,
    ⟨some 7, none, ⟨[], []⟩, .ld false none 0 0 (.t 6)⟩,
    ⟨some 8, none, ⟨[], []⟩, .bin 0 .add (.t 7) (.k (.int .i64 1))⟩,
    ⟨some 9, none, ⟨[], []⟩, .bin 0 .quo (.t 8) (.k (.int .i64 2))⟩,
    ⟨some 10, none, ⟨[], []⟩, .fld (.t 1) 3⟩,
    ⟨some 11, none, ⟨[], []⟩, .ld false none 0 0 (.t 10)⟩,
    ⟨some 12, none, ⟨[], []⟩, .bin 0 .add (.t 11) (.k (.int .i64 1))⟩,
    ⟨some 13, none, ⟨[], []⟩, .bin 0 .quo (.t 12) (.k (.int .i64 2))⟩,
    ⟨some 3, none, ⟨[], []⟩, .mov (.t 9)⟩,
    ⟨some 4, none, ⟨[], []⟩, .mov (.t 13)⟩] [6, 7, 8, 9, 10, 11, 12, 13] []) (.seq (.reg false [⟨some 14, none, ⟨[], []⟩, .fld (.t 1) 0⟩,
    ⟨some 15, none, ⟨[], []⟩, .ld false none 0 0 (.t 14)⟩,
    ⟨some 16, none, ⟨[], []⟩, .fld (.t 1) 1⟩,
    ⟨some 17, none, ⟨[], []⟩, .ld false none 0 0 (.t 16)⟩,
    ⟨some 18, none, ⟨[], []⟩, .mov (.t 3)⟩,
    ⟨some 19, none, ⟨[], []⟩, .mov (.t 4)⟩,
    ⟨some 20, none, ⟨[], []⟩, .build [.int .i64 0, .int .i64 0, .int .i64 0, .int .i64 0] [(0, 1, .t 15), (1, 1, .t 17), (2, 1, .t 18), (3, 1, .t 19)]⟩,
    ⟨some 21, none, ⟨[], []⟩, .fld (.t 1) 0⟩,
    ⟨some 22, none, ⟨[], []⟩, .ld false none 0 0 (.t 21)⟩,
    ⟨some 23, none, ⟨[], []⟩, .mov (.t 3)⟩,
    ⟨some 24, none, ⟨[], []⟩, .bin 0 .add (.t 22) (.t 23)⟩,
    ⟨some 25, none, ⟨[], []⟩, .fld (.t 1) 1⟩,
    ⟨some 26, none, ⟨[], []⟩, .ld false none 0 0 (.t 25)⟩,
    ⟨some 27, none, ⟨[], []⟩, .fld (.t 1) 2⟩,
    ⟨some 28, none, ⟨[], []⟩, .ld false none 0 0 (.t 27)⟩,
    ⟨some 29, none, ⟨[], []⟩, .mov (.t 3)⟩,
    ⟨some 30, none, ⟨[], []⟩, .bin 0 .sub (.t 28) (.t 29)⟩,
    ⟨some 31, none, ⟨[], []⟩, .mov (.t 4)⟩,
    ⟨some 32, none, ⟨[], []⟩, .build [.int .i64 0, .int .i64 0, .int .i64 0, .int .i64 0] [(0, 1, .t 24), (1, 1, .t 26), (2, 1, .t 30), (3, 1, .t 31)]⟩,
    ⟨some 33, none, ⟨[], []⟩, .fld (.t 1) 0⟩,
    ⟨some 34, none, ⟨[], []⟩, .ld false none 0 0 (.t 33)⟩,
    ⟨some 35, none, ⟨[], []⟩, .fld (.t 1) 1⟩,
    ⟨some 36, none, ⟨[], []⟩, .ld false none 0 0 (.t 35)⟩,
    ⟨some 37, none, ⟨[], []⟩, .mov (.t 4)⟩,
    ⟨some 38, none, ⟨[], []⟩, .bin 0 .add (.t 36) (.t 37)⟩,
    ⟨some 39, none, ⟨[], []⟩, .mov (.t 3)⟩,
    ⟨some 40, none, ⟨[], []⟩, .fld (.t 1) 3⟩,
    ⟨some 41, none, ⟨[], []⟩, .ld false none 0 0 (.t 40)⟩,
    ⟨some 42, none, ⟨[], []⟩, .mov (.t 4)⟩,
    ⟨some 43, none, ⟨[], []⟩, .bin 0 .sub (.t 41) (.t 42)⟩,
    ⟨some 44, none, ⟨[], []⟩, .build [.int .i64 0, .int .i64 0, .int .i64 0, .int .i64 0] [(0, 1, .t 34), (1, 1, .t 38), (2, 1, .t 39), (3, 1, .t 43)]⟩,
    ⟨some 45, none, ⟨[], []⟩, .fld (.t 1) 0⟩,
    ⟨some 46, none, ⟨[], []⟩, .ld false none 0 0 (.t 45)⟩,
    ⟨some 47, none, ⟨[], []⟩, .mov (.t 3)⟩,
    ⟨some 48, none, ⟨[], []⟩, .bin 0 .add (.t 46) (.t 47)⟩,
    ⟨some 49, none, ⟨[], []⟩, .fld (.t 1) 1⟩,
    ⟨some 50, none, ⟨[], []⟩, .ld false none 0 0 (.t 49)⟩,
    ⟨some 51, none, ⟨[], []⟩, .mov (.t 4)⟩,
    ⟨some 52, none, ⟨[], []⟩, .bin 0 .add (.t 50) (.t 51)⟩,
    ⟨some 53, none, ⟨[], []⟩, .fld (.t 1) 2⟩,
    ⟨some 54, none, ⟨[], []⟩, .ld false none 0 0 (.t 53)⟩,
    ⟨some 55, none, ⟨[], []⟩, .mov (.t 3)⟩,
    ⟨some 56, none, ⟨[], []⟩, .bin 0 .sub (.t 54) (.t 55)⟩,
    ⟨some 57, none, ⟨[], []⟩, .fld (.t 1) 3⟩,
    ⟨some 58, none, ⟨[], []⟩, .ld false none 0 0 (.t 57)⟩,
    ⟨some 59, none, ⟨[], []⟩, .mov (.t 4)⟩,
    ⟨some 60, none, ⟨[], []⟩, .bin 0 .sub (.t 58) (.t 59)⟩,
    ⟨some 61, none, ⟨[], []⟩, .build [.int .i64 0, .int .i64 0, .int .i64 0, .int .i64 0] [(0, 1, .t 48), (1, 1, .t 52), (2, 1, .t 56), (3, 1, .t 60)]⟩,
    ⟨some 62, none, ⟨[], []⟩, .brecs 11 4 .i64 [.t 20, .t 32, .t 44, .t 61]⟩,
    ⟨some 5, none, ⟨[], []⟩, .mov (.t 62)⟩] [1, 3, 4, 14, 15, 16, 17, 18, 19, 20, 21, 22, 23, 24, 25, 26, 27, 28, 29, 30, 31, 32, 33, 34, 35, 36, 37, 38, 39, 40, 41, 42, 43, 44, 45, 46, 47, 48, 49, 50, 51, 52, 53, 54, 55, 56, 57, 58, 59, 60, 61, 62] []) (.seq (.reg false [⟨some 63, none, ⟨[], []⟩, .mov (.t 5)⟩,
    ⟨some 64, none, ⟨[], []⟩, .call none 12 66 [.t 63, .k (.fn 67 [])]⟩,
    ⟨some 2, none, ⟨[], []⟩, .mov (.t 64)⟩] [5, 63, 64] []) (.ret))))
set_option maxRecDepth 4000 in
theorem comp55 : (Try.f55.body.bind fun c => compC tab isP chkAll ir55 c) = some ir55 := by kernel_rfl
structure RwI where
  L : Xf.Loc
  xs : List Int
def inv51 : List SV → Look → Option (RwI × List Nat)
  | [.sl c _ 1 0 _], look => match rowI (look c) with
    | some (L, .i64, xs) => some (⟨L, xs⟩, [c])
    | _ => none
  | _, _ => none
attribute [push_cast] inv51
def minL (xs : List Int) : Int := minN (rd xs 0) (fun k => rd xs ((k + 1 : Nat) : Int)) (xs.length - 1)
def fs51 : FS where
  A := RwI
  args := fun a => [.sl 0 a.L 1 0 a.xs.length]
  mem := fun a => [some (.ro, a.L, .ints .i64 a.xs)]
  pre := fun a => 0 < a.xs.length ∧ a.xs.length ≤ 140737488355328
  res := fun a x => .int .i64 (minL a.xs)
  out := fun _ _ => []
  new := fun _ _ => []
theorem ok51 : FSOk Try.prog 51 fs51 := by
  refine ⟨⟨_, Try.func51, by kernel_rfl, by kernel_rfl⟩, fun a => ⟨by simp [fs51, push_cast, noMine, argOwn, Chunk.frArg], by simp [fs51, push_cast, outOk, Chunk.ext], fun x => .inl (by simp [fs51, push_cast, frNew, frOut, Chunk.fr])⟩, fun a hp => ?_⟩
  obtain ⟨L, xs⟩ := a
  obtain ⟨h1, h2⟩ : 0 < xs.length ∧ xs.length ≤ 140737488355328 := hp
  change Tri Try.prog 51 [.sl 0 L 1 0 xs.length] [some (.ro, L, .ints .i64 xs)] (postF fs51 ⟨L, xs⟩)
  refine tri_evS (hyp (l := []) (lp := []) trivial trivial) Try.func51 comp51 (rs := [.tmp 2]) (by rfl) Try.ntmps51 10 ?_
  simp -implicitDefEqProofs only [push_cast, false_implies, reduceCtorEq, Classical.not_not, Nat.reduceAdd, Nat.reduceSub, Nat.reduceMul, Nat.reduceLeDiff, Nat.reduceLT, Nat.reduceEqDiff, Nat.reduceBEq, Nat.reduceBNe, Int.reduceNeg, Int.reduceToNat, Bool.or_false, Bool.false_or, Bool.or_true, Bool.true_or, BEq.rfl, Bool.not_eq_true, Bool.not_eq_false, decide_eq_true_eq, not_true_eq_false, not_false_eq_true, ite_true, ite_false, List.append_nil, and_assoc, Nat.mul_zero, Nat.zero_mul, ir51]
  refine ⟨by omega, fun _ => ?_⟩
  repeat (refine And.intro (by first | omega | trivial | (intros; omega)) ?_)
  refine evS_loopU (A := Nat) kp51_1 kl51_1 (fun k => [(3, .int .i64 (minN (rd xs 0) (fun k => rd xs ((k + 1 : Nat) : Int)) k)), (4, .int .i64 ((k : Int) + 1))]) (fun _ => []) (fun k => k < xs.length) (fun k => xs.length - k) 0 h1 (Sub.pt ?_) ?_
  · have e : ((0 : Nat) : Int) + 1 = 1 := by omega
    simp only [e]
    simp -implicitDefEqProofs only [push_cast, false_implies, reduceCtorEq, Classical.not_not, Nat.reduceAdd, Nat.reduceSub, Nat.reduceMul, Nat.reduceLeDiff, Nat.reduceLT, Nat.reduceEqDiff, Nat.reduceBEq, Nat.reduceBNe, Int.reduceNeg, Int.reduceToNat, Bool.or_false, Bool.false_or, Bool.or_true, Bool.true_or, BEq.rfl, Bool.not_eq_true, Bool.not_eq_false, decide_eq_true_eq, not_true_eq_false, not_false_eq_true, ite_true, ite_false, List.append_nil, and_assoc, Nat.mul_zero, Nat.zero_mul, minN]
  intro k (hk : k < xs.length) K hK
  simp -implicitDefEqProofs only [push_cast, false_implies, reduceCtorEq, Classical.not_not, Nat.reduceAdd, Nat.reduceSub, Nat.reduceMul, Nat.reduceLeDiff, Nat.reduceLT, Nat.reduceEqDiff, Nat.reduceBEq, Nat.reduceBNe, Int.reduceNeg, Int.reduceToNat, Bool.or_false, Bool.false_or, Bool.or_true, Bool.true_or, BEq.rfl, Bool.not_eq_true, Bool.not_eq_false, decide_eq_true_eq, not_true_eq_false, not_false_eq_true, ite_true, ite_false, List.append_nil, and_assoc, Nat.mul_zero, Nat.zero_mul, b51_1, r51_2]
  refine ⟨fun hl => ?_, fun hl => ?_⟩
  · repeat (refine And.intro (by first | omega | trivial | (intros; omega)) ?_)
    refine hK (k + 1) (by omega) (by omega) _ _ (Sub.pt ?_)
    simp -implicitDefEqProofs only [push_cast, false_implies, reduceCtorEq, Classical.not_not, Nat.reduceAdd, Nat.reduceSub, Nat.reduceMul, Nat.reduceLeDiff, Nat.reduceLT, Nat.reduceEqDiff, Nat.reduceBEq, Nat.reduceBNe, Int.reduceNeg, Int.reduceToNat, Bool.or_false, Bool.false_or, Bool.or_true, Bool.true_or, BEq.rfl, Bool.not_eq_true, Bool.not_eq_false, decide_eq_true_eq, not_true_eq_false, not_false_eq_true, ite_true, ite_false, List.append_nil, and_assoc, Nat.mul_zero, Nat.zero_mul, minN]
  · have e : xs.length - 1 = k := by omega
    refine postF.mk' (fun _ => default) [some 0] ?_
    simp -implicitDefEqProofs only [push_cast, false_implies, reduceCtorEq, Classical.not_not, Nat.reduceAdd, Nat.reduceSub, Nat.reduceMul, Nat.reduceLeDiff, Nat.reduceLT, Nat.reduceEqDiff, Nat.reduceBEq, Nat.reduceBNe, Int.reduceNeg, Int.reduceToNat, Bool.or_false, Bool.false_or, Bool.or_true, Bool.true_or, BEq.rfl, Bool.not_eq_true, Bool.not_eq_false, decide_eq_true_eq, not_true_eq_false, not_false_eq_true, ite_true, ite_false, List.append_nil, and_assoc, Nat.mul_zero, Nat.zero_mul, fs51, minL, e]
def ent51 : Entry := spOf fs51 inv51
theorem e51 : EntryOk Try.prog 51 ent51 := entry_of ok51 inv51
@[push_cast] theorem ent51_app (us : List SV) (look : Look) (x : Nat → Xf.Loc) (k : Nat) : ent51 us look x k = spOf fs51 inv51 us look x k := rfl
def maxL (xs : List Int) : Int := maxN (rd xs 0) (fun k => rd xs ((k + 1 : Nat) : Int)) (xs.length - 1)
def fs52 : FS where
  A := RwI
  args := fun a => [.sl 0 a.L 1 0 a.xs.length]
  mem := fun a => [some (.ro, a.L, .ints .i64 a.xs)]
  pre := fun a => 0 < a.xs.length ∧ a.xs.length ≤ 140737488355328
  res := fun a x => .int .i64 (maxL a.xs)
  out := fun _ _ => []
  new := fun _ _ => []
theorem ok52 : FSOk Try.prog 52 fs52 := by
  refine ⟨⟨_, Try.func52, by kernel_rfl, by kernel_rfl⟩, fun a => ⟨by simp [fs52, push_cast, noMine, argOwn, Chunk.frArg], by simp [fs52, push_cast, outOk, Chunk.ext], fun x => .inl (by simp [fs52, push_cast, frNew, frOut, Chunk.fr])⟩, fun a hp => ?_⟩
  obtain ⟨L, xs⟩ := a
  obtain ⟨h1, h2⟩ : 0 < xs.length ∧ xs.length ≤ 140737488355328 := hp
  change Tri Try.prog 52 [.sl 0 L 1 0 xs.length] [some (.ro, L, .ints .i64 xs)] (postF fs52 ⟨L, xs⟩)
  refine tri_evS (hyp (l := []) (lp := []) trivial trivial) Try.func52 comp52 (rs := [.tmp 2]) (by rfl) Try.ntmps52 10 ?_
  simp -implicitDefEqProofs only [push_cast, false_implies, reduceCtorEq, Classical.not_not, Nat.reduceAdd, Nat.reduceSub, Nat.reduceMul, Nat.reduceLeDiff, Nat.reduceLT, Nat.reduceEqDiff, Nat.reduceBEq, Nat.reduceBNe, Int.reduceNeg, Int.reduceToNat, Bool.or_false, Bool.false_or, Bool.or_true, Bool.true_or, BEq.rfl, Bool.not_eq_true, Bool.not_eq_false, decide_eq_true_eq, not_true_eq_false, not_false_eq_true, ite_true, ite_false, List.append_nil, and_assoc, Nat.mul_zero, Nat.zero_mul, ir52]
  refine ⟨by omega, fun _ => ?_⟩
  repeat (refine And.intro (by first | omega | trivial | (intros; omega)) ?_)
  refine evS_loopU (A := Nat) kp52_1 kl52_1 (fun k => [(3, .int .i64 (maxN (rd xs 0) (fun k => rd xs ((k + 1 : Nat) : Int)) k)), (4, .int .i64 ((k : Int) + 1))]) (fun _ => []) (fun k => k < xs.length) (fun k => xs.length - k) 0 h1 (Sub.pt ?_) ?_
  · have e : ((0 : Nat) : Int) + 1 = 1 := by omega
    simp only [e]
    simp -implicitDefEqProofs only [push_cast, false_implies, reduceCtorEq, Classical.not_not, Nat.reduceAdd, Nat.reduceSub, Nat.reduceMul, Nat.reduceLeDiff, Nat.reduceLT, Nat.reduceEqDiff, Nat.reduceBEq, Nat.reduceBNe, Int.reduceNeg, Int.reduceToNat, Bool.or_false, Bool.false_or, Bool.or_true, Bool.true_or, BEq.rfl, Bool.not_eq_true, Bool.not_eq_false, decide_eq_true_eq, not_true_eq_false, not_false_eq_true, ite_true, ite_false, List.append_nil, and_assoc, Nat.mul_zero, Nat.zero_mul, maxN]
  intro k (hk : k < xs.length) K hK
  simp -implicitDefEqProofs only [push_cast, false_implies, reduceCtorEq, Classical.not_not, Nat.reduceAdd, Nat.reduceSub, Nat.reduceMul, Nat.reduceLeDiff, Nat.reduceLT, Nat.reduceEqDiff, Nat.reduceBEq, Nat.reduceBNe, Int.reduceNeg, Int.reduceToNat, Bool.or_false, Bool.false_or, Bool.or_true, Bool.true_or, BEq.rfl, Bool.not_eq_true, Bool.not_eq_false, decide_eq_true_eq, not_true_eq_false, not_false_eq_true, ite_true, ite_false, List.append_nil, and_assoc, Nat.mul_zero, Nat.zero_mul, b52_1, r52_2]
  refine ⟨fun hl => ?_, fun hl => ?_⟩
  · repeat (refine And.intro (by first | omega | trivial | (intros; omega)) ?_)
    refine hK (k + 1) (by omega) (by omega) _ _ (Sub.pt ?_)
    simp -implicitDefEqProofs only [push_cast, false_implies, reduceCtorEq, Classical.not_not, Nat.reduceAdd, Nat.reduceSub, Nat.reduceMul, Nat.reduceLeDiff, Nat.reduceLT, Nat.reduceEqDiff, Nat.reduceBEq, Nat.reduceBNe, Int.reduceNeg, Int.reduceToNat, Bool.or_false, Bool.false_or, Bool.or_true, Bool.true_or, BEq.rfl, Bool.not_eq_true, Bool.not_eq_false, decide_eq_true_eq, not_true_eq_false, not_false_eq_true, ite_true, ite_false, List.append_nil, and_assoc, Nat.mul_zero, Nat.zero_mul, maxN]
  · have e : xs.length - 1 = k := by omega
    refine postF.mk' (fun _ => default) [some 0] ?_
    simp -implicitDefEqProofs only [push_cast, false_implies, reduceCtorEq, Classical.not_not, Nat.reduceAdd, Nat.reduceSub, Nat.reduceMul, Nat.reduceLeDiff, Nat.reduceLT, Nat.reduceEqDiff, Nat.reduceBEq, Nat.reduceBNe, Int.reduceNeg, Int.reduceToNat, Bool.or_false, Bool.false_or, Bool.or_true, Bool.true_or, BEq.rfl, Bool.not_eq_true, Bool.not_eq_false, decide_eq_true_eq, not_true_eq_false, not_false_eq_true, ite_true, ite_false, List.append_nil, and_assoc, Nat.mul_zero, Nat.zero_mul, fs52, maxL, e]
def ent52 : Entry := spOf fs52 inv51
theorem e52 : EntryOk Try.prog 52 ent52 := entry_of ok52 inv51
@[push_cast] theorem ent52_app (us : List SV) (look : Look) (x : Nat → Xf.Loc) (k : Nat) : ent52 us look x k = spOf fs52 inv51 us look x k := rfl
structure IxA where
  L : Xf.Loc
  xs : List Int
  v : Int
def eqB (v n : Int) : Bool := decide (v = n)
def fs53 : FS where
  A := IxA
  args := fun a => [.sl 0 a.L 1 0 a.xs.length, .int .i64 a.v]
  mem := fun a => [some (.ro, a.L, .ints .i64 a.xs)]
  pre := fun a => a.xs.length ≤ 140737488355328
  res := fun a _ => .int .i64 (firstB (eqB a.v) a.xs)
  out := fun _ _ => []
  new := fun _ _ => []
def inv53 : List SV → Look → Option (IxA × List Nat)
  | [.sl c _ 1 0 _, .int .i64 v], look => match rowI (look c) with
    | some (L, .i64, xs) => some (⟨L, xs, v⟩, [c])
    | _ => none
  | _, _ => none
attribute [push_cast] inv53
theorem ok53 : FSOk Try.prog 53 fs53 := by
  refine ⟨⟨_, Try.func53, by kernel_rfl, by kernel_rfl⟩, fun a => ⟨by simp [fs53, push_cast, noMine, argOwn, Chunk.frArg], by simp [fs53, push_cast, outOk, Chunk.ext], fun x => .inl (by simp [fs53, push_cast, frNew, frOut, Chunk.fr])⟩, fun a hp => ?_⟩
  obtain ⟨L, xs, v⟩ := a
  change xs.length ≤ 140737488355328 at hp
  change Tri Try.prog 53 [.sl 0 L 1 0 xs.length, .int .i64 v] [some (.ro, L, .ints .i64 xs)] (postF fs53 ⟨L, xs, v⟩)
  refine tri_evS (hyp (l := []) (lp := []) trivial trivial) Try.func53 comp53 (rs := [.tmp 4]) (by rfl) Try.ntmps53 10 ?_
  simp -implicitDefEqProofs only [push_cast, false_implies, reduceCtorEq, Classical.not_not, Nat.reduceAdd, Nat.reduceSub, Nat.reduceMul, Nat.reduceLeDiff, Nat.reduceLT, Nat.reduceEqDiff, Nat.reduceBEq, Nat.reduceBNe, Int.reduceNeg, Int.reduceToNat, Bool.or_false, Bool.false_or, Bool.or_true, Bool.true_or, BEq.rfl, Bool.not_eq_true, Bool.not_eq_false, decide_eq_true_eq, not_true_eq_false, not_false_eq_true, ite_true, ite_false, List.append_nil, and_assoc, Nat.mul_zero, Nat.zero_mul, ir53]
  refine evS_loopU (A := Nat) kp53_1 kl53_1 (fun i => [(8, .int .i64 i)]) (fun _ => [])
    (fun i => i ≤ xs.length ∧ ∀ j, j < i → eqB v (rd xs (j : Nat)) = false) (fun i => xs.length - i) 0 ⟨by omega, by omega⟩ (Sub.pt ?_) ?_
  · simp -implicitDefEqProofs only [push_cast, false_implies, reduceCtorEq, Classical.not_not, Nat.reduceAdd, Nat.reduceSub, Nat.reduceMul, Nat.reduceLeDiff, Nat.reduceLT, Nat.reduceEqDiff, Nat.reduceBEq, Nat.reduceBNe, Int.reduceNeg, Int.reduceToNat, Bool.or_false, Bool.false_or, Bool.or_true, Bool.true_or, BEq.rfl, Bool.not_eq_true, Bool.not_eq_false, decide_eq_true_eq, not_true_eq_false, not_false_eq_true, ite_true, ite_false, List.append_nil, and_assoc, Nat.mul_zero, Nat.zero_mul]
  intro i ⟨h1, h2⟩ K hK
  simp -implicitDefEqProofs only [push_cast, false_implies, reduceCtorEq, Classical.not_not, Nat.reduceAdd, Nat.reduceSub, Nat.reduceMul, Nat.reduceLeDiff, Nat.reduceLT, Nat.reduceEqDiff, Nat.reduceBEq, Nat.reduceBNe, Int.reduceNeg, Int.reduceToNat, Bool.or_false, Bool.false_or, Bool.or_true, Bool.true_or, BEq.rfl, Bool.not_eq_true, Bool.not_eq_false, decide_eq_true_eq, not_true_eq_false, not_false_eq_true, ite_true, ite_false, List.append_nil, and_assoc, Nat.mul_zero, Nat.zero_mul, b53_1, r53_2]
  refine ⟨fun h => ?_, fun h => ?_⟩
  · repeat (refine And.intro (by first | omega | trivial | (intros; omega)) ?_)
    refine ⟨fun hb => ?_, fun hb => ?_⟩
    · have e := firstB_at (p := eqB v) (xs := xs) (by omega) (by unfold eqB; simpa using hb) h2
      exact postF.mk' (fun _ => default) [some 0] (by simp -implicitDefEqProofs only [push_cast, false_implies, reduceCtorEq, Classical.not_not, Nat.reduceAdd, Nat.reduceSub, Nat.reduceMul, Nat.reduceLeDiff, Nat.reduceLT, Nat.reduceEqDiff, Nat.reduceBEq, Nat.reduceBNe, Int.reduceNeg, Int.reduceToNat, Bool.or_false, Bool.false_or, Bool.or_true, Bool.true_or, BEq.rfl, Bool.not_eq_true, Bool.not_eq_false, decide_eq_true_eq, not_true_eq_false, not_false_eq_true, ite_true, ite_false, List.append_nil, and_assoc, Nat.mul_zero, Nat.zero_mul, fs53, e])
    · repeat (refine And.intro (by first | omega | trivial | (intros; omega)) ?_)
      refine hK (i + 1) ⟨by omega, ?_⟩ (show xs.length - (i + 1) < xs.length - i by omega) _ _ (Sub.pt ?_)
      · intro j hj
        by_cases e : j = i
        · subst e; unfold eqB; simpa using hb
        · exact h2 j (by omega)
      · simp -implicitDefEqProofs only [push_cast, false_implies, reduceCtorEq, Classical.not_not, Nat.reduceAdd, Nat.reduceSub, Nat.reduceMul, Nat.reduceLeDiff, Nat.reduceLT, Nat.reduceEqDiff, Nat.reduceBEq, Nat.reduceBNe, Int.reduceNeg, Int.reduceToNat, Bool.or_false, Bool.false_or, Bool.or_true, Bool.true_or, BEq.rfl, Bool.not_eq_true, Bool.not_eq_false, decide_eq_true_eq, not_true_eq_false, not_false_eq_true, ite_true, ite_false, List.append_nil, and_assoc, Nat.mul_zero, Nat.zero_mul]
  · obtain rfl : i = xs.length := by omega
    have e := firstB_no (p := eqB v) (xs := xs) h2
    exact postF.mk' (fun _ => default) [some 0] (by simp -implicitDefEqProofs only [push_cast, false_implies, reduceCtorEq, Classical.not_not, Nat.reduceAdd, Nat.reduceSub, Nat.reduceMul, Nat.reduceLeDiff, Nat.reduceLT, Nat.reduceEqDiff, Nat.reduceBEq, Nat.reduceBNe, Int.reduceNeg, Int.reduceToNat, Bool.or_false, Bool.false_or, Bool.or_true, Bool.true_or, BEq.rfl, Bool.not_eq_true, Bool.not_eq_false, decide_eq_true_eq, not_true_eq_false, not_false_eq_true, ite_true, ite_false, List.append_nil, and_assoc, Nat.mul_zero, Nat.zero_mul, fs53, e])
def ent53 : Entry := spOf fs53 inv53
theorem e53 : EntryOk Try.prog 53 ent53 := entry_of ok53 inv53
@[push_cast] theorem ent53_app (us : List SV) (look : Look) (x : Nat → Xf.Loc) (k : Nat) : ent53 us look x k = spOf fs53 inv53 us look x k := rfl
structure PaA where
  k : Int
  x : Int
  y : Int
  w : Int
  h : Int
def fs54 : FS where
  A := PaA
  args := fun a => [.agg [.int .i64 a.x, .int .i64 a.y, .int .i64 a.w, .int .i64 a.h], .int .i64 a.k]
  mem := fun a => []
  pre := fun a => True
  res := fun a _ => .agg [.int .i64 a.k, .int .i64 a.x, .int .i64 a.y, .int .i64 a.w, .int .i64 a.h]
  out := fun _ _ => []
  new := fun _ _ => []
def inv54 : List SV → Look → Option (PaA × List Nat)
  | [.agg [.int .i64 x, .int .i64 y, .int .i64 w, .int .i64 h], .int .i64 k], look => some (⟨k, x, y, w, h⟩, [])
  | _, _ => none
attribute [push_cast] inv54
theorem ok54 : FSOk Try.prog 54 fs54 := by
  refine ⟨⟨_, Try.func54, by kernel_rfl, by kernel_rfl⟩, fun a => ⟨by simp [fs54, push_cast, noMine, argOwn, Chunk.frArg], by simp [fs54, push_cast, outOk, Chunk.ext], fun x => .inl (by simp [fs54, push_cast, frNew, frOut, Chunk.fr])⟩, fun a hp => ?_⟩
  obtain ⟨k, x, y, w, h⟩ := a
  change Tri Try.prog 54 [.agg [.int .i64 x, .int .i64 y, .int .i64 w, .int .i64 h], .int .i64 k] [] (postF fs54 ⟨k, x, y, w, h⟩)
  refine tri_evS (hyp (l := []) (lp := []) trivial trivial) Try.func54 comp54 (rs := [.cell 4 (some 5)]) (by rfl) Try.ntmps54 12 ?_
  simp -implicitDefEqProofs only [push_cast, false_implies, reduceCtorEq, Classical.not_not, Nat.reduceAdd, Nat.reduceSub, Nat.reduceMul, Nat.reduceLeDiff, Nat.reduceLT, Nat.reduceEqDiff, Nat.reduceBEq, Nat.reduceBNe, Int.reduceNeg, Int.reduceToNat, Bool.or_false, Bool.false_or, Bool.or_true, Bool.true_or, BEq.rfl, Bool.not_eq_true, Bool.not_eq_false, decide_eq_true_eq, not_true_eq_false, not_false_eq_true, ite_true, ite_false, List.append_nil, and_assoc, Nat.mul_zero, Nat.zero_mul, ir54]
  intro X
  refine postF.mk' (fun _ => default) [] ?_
  simp -implicitDefEqProofs only [push_cast, false_implies, reduceCtorEq, Classical.not_not, Nat.reduceAdd, Nat.reduceSub, Nat.reduceMul, Nat.reduceLeDiff, Nat.reduceLT, Nat.reduceEqDiff, Nat.reduceBEq, Nat.reduceBNe, Int.reduceNeg, Int.reduceToNat, Bool.or_false, Bool.false_or, Bool.or_true, Bool.true_or, BEq.rfl, Bool.not_eq_true, Bool.not_eq_false, decide_eq_true_eq, not_true_eq_false, not_false_eq_true, ite_true, ite_false, List.append_nil, and_assoc, Nat.mul_zero, Nat.zero_mul, fs54]
def ent54 : Entry := spOf fs54 inv54
theorem e54 : EntryOk Try.prog 54 ent54 := entry_of ok54 inv54
@[push_cast] theorem ent54_app (us : List SV) (look : Look) (x : Nat → Xf.Loc) (k : Nat) : ent54 us look x k = spOf fs54 inv54 us look x k := rfl
/-- The quarters of a rectangle; those that are not empty. -/
def qd (r : Rt) : List Rt := [⟨r.x, r.y, (r.w + 1) / 2, (r.h + 1) / 2⟩, ⟨r.x + (r.w + 1) / 2, r.y, r.w - (r.w + 1) / 2, (r.h + 1) / 2⟩, ⟨r.x, r.y + (r.h + 1) / 2, (r.w + 1) / 2, r.h - (r.h + 1) / 2⟩,
  ⟨r.x + (r.w + 1) / 2, r.y + (r.h + 1) / 2, r.w - (r.w + 1) / 2, r.h - (r.h + 1) / 2⟩]
def qs (r : Rt) : List Rt := keptRt (qd r)
def zR : List RC := [.int .i64 0, .int .i64 0, .int .i64 0, .int .i64 0]
def Rt.ok2 (r : Rt) : Prop := 0 ≤ r.x ∧ r.x ≤ 400 ∧ 0 ≤ r.y ∧ r.y ≤ 400 ∧ 1 ≤ r.w ∧ r.w ≤ 200 ∧ 1 ≤ r.h ∧ r.h ≤ 200
theorem qd_ok {r : Rt} (h : r.ok2) : ∀ q ∈ qd r, q.ok := by
  obtain ⟨h1, h2, h3, h4, h5, h6, h7, h8⟩ := h
  intro q hq
  simp only [qd, List.mem_cons, List.not_mem_nil, or_false] at hq
  rcases hq with rfl | rfl | rfl | rfl <;> (unfold Rt.ok; simp only; omega)
def fs55 : FS where
  A := Rt1
  args := fun a => [a.x.sv]
  mem := fun _ => []
  pre := fun a => a.x.ok2
  res := fun a x => .sl 0 (x 0) 4 0 (qs a.x).length
  out := fun _ _ => []
  new := fun a x => [(x 0, .recs 4 false [] ((qs a.x).map Rt.rc ++ List.replicate (4 - (qs a.x).length) zR))]
set_option maxRecDepth 4000 in
theorem ok55 : FSOk Try.prog 55 fs55 := by
  refine ⟨⟨_, Try.func55, by kernel_rfl, by kernel_rfl⟩, fun a => ⟨by simp [fs55, push_cast, noMine, argOwn, Chunk.frArg], by simp [fs55, push_cast, outOk, Chunk.ext], fun x => .inr ⟨fun j L ch h => .inr fun y hy => ?_, fun c ch h => ?_⟩⟩, fun a hp => ?_⟩
  · exfalso
    match j, h with
    | 0, h =>
      simp only [fs55, List.getElem?_cons_zero, Option.some.injEq, Prod.mk.injEq] at h
      obtain ⟨_, rfl⟩ := h; exact Rt.noRow _ _ _ _ _ hy
    | j + 1, h => simp [fs55] at h
  · simp [fs55, lk] at h
  obtain ⟨r⟩ := a
  change r.ok2 at hp
  have hok := qd_ok hp
  obtain ⟨Q, hQ⟩ : ∃ Q, qd r = Q := ⟨_, rfl⟩
  have hQ4 : Q.length = 4 := by rw [← hQ]; rfl
  have hqs : qs r = keptRt Q := by unfold qs; rw [hQ]
  rw [hQ] at hok
  have hget : getRt (Q.map Rt.rc) = some Q := getRt_map _
  obtain ⟨x, y, w, h⟩ := r
  obtain ⟨h1, h2, h3, h4, h5, h6, h7, h8⟩ := id hp
  simp only at h1 h2 h3 h4 h5 h6 h7 h8
  change Tri Try.prog 55 [.agg [.int .i64 x, .int .i64 y, .int .i64 w, .int .i64 h]] [] (postF fs55 ⟨⟨x, y, w, h⟩⟩)
  refine tri_evS (hyp (l := [(66, ent66)]) (lp := []) ⟨e66, trivial⟩ trivial) Try.func55 comp55 (rs := [.tmp 2]) (by rfl) Try.ntmps55 16 ?_
  have hrec : ([[.int .i64 x, .int .i64 y, .int .i64 ((w + 1) / 2), .int .i64 ((h + 1) / 2)], [.int .i64 (x + (w + 1) / 2), .int .i64 y, .int .i64 (w - (w + 1) / 2), .int .i64 ((h + 1) / 2)], [.int .i64 x, .int .i64 (y + (h + 1) / 2), .int .i64 ((w + 1) / 2), .int .i64 (h - (h + 1) / 2)],
    [.int .i64 (x + (w + 1) / 2), .int .i64 (y + (h + 1) / 2), .int .i64 (w - (w + 1) / 2), .int .i64 (h - (h + 1) / 2)]] : List (List RC)) = Q.map Rt.rc := by rw [← hQ]; rfl
  simp -implicitDefEqProofs only [push_cast, false_implies, reduceCtorEq, Classical.not_not, Nat.reduceAdd, Nat.reduceSub, Nat.reduceMul, Nat.reduceLeDiff, Nat.reduceLT, Nat.reduceEqDiff, Nat.reduceBEq, Nat.reduceBNe, Int.reduceNeg, Int.reduceToNat, Bool.or_false, Bool.false_or, Bool.or_true, Bool.true_or, BEq.rfl, Bool.not_eq_true, Bool.not_eq_false, decide_eq_true_eq, not_true_eq_false, not_false_eq_true, ite_true, ite_false, List.append_nil, and_assoc, Nat.mul_zero, Nat.zero_mul, ir55, hrec, hget, fs66]
  intro X
  repeat (refine And.intro (by first | omega | trivial | (intros; omega)) ?_)
  intro X1
  repeat (refine And.intro (by first | omega | trivial | (intros; omega)) ?_)
  refine postF.mk' (locs [X1 48 11]) [some 11] ?_
  simp -implicitDefEqProofs only [push_cast, false_implies, reduceCtorEq, Classical.not_not, Nat.reduceAdd, Nat.reduceSub, Nat.reduceMul, Nat.reduceLeDiff, Nat.reduceLT, Nat.reduceEqDiff, Nat.reduceBEq, Nat.reduceBNe, Int.reduceNeg, Int.reduceToNat, Bool.or_false, Bool.false_or, Bool.or_true, Bool.true_or, BEq.rfl, Bool.not_eq_true, Bool.not_eq_false, decide_eq_true_eq, not_true_eq_false, not_false_eq_true, ite_true, ite_false, List.append_nil, and_assoc, Nat.mul_zero, Nat.zero_mul, fs55, hqs, hQ4, zR]
def ent55 : Entry := spOf fs55 inv67
theorem e55 : EntryOk Try.prog 55 ent55 := entry_of ok55 inv67
@[push_cast] theorem ent55_app (us : List SV) (look : Look) (x : Nat → Xf.Loc) (k : Nat) : ent55 us look x k = spOf fs55 inv67 us look x k := rfl
structure Pn where
  W : Nat
  H : Nat
  xs : List Int
def Pn.grey (p : Pn) : Prop := p.W ≤ 200 ∧ p.H ≤ 200 ∧ p.xs.length = p.H * p.W ∧ AllIn 0 255 p.xs
structure Pt where
  kind : Int
  x : Int
  y : Int
  w : Int
  h : Int
  deriving Inhabited, DecidableEq
def Pt.rc (p : Pt) : List RC := [.int .i64 p.kind, .int .i64 p.x, .int .i64 p.y, .int .i64 p.w, .int .i64 p.h]
def rpOf (p : Pn) (r : Rt) : Rp := ⟨r.x.toNat, r.y.toNat, r.w.toNat, r.h.toNat, p.W, p.H, p.xs⟩
def allE (p : Pn) (e : En) (r : Rt) : List Int := [(rpOf p r).en e 0, (rpOf p r).en e 1, (rpOf p r).en e 2]
def best (p : Pn) (e : En) (r : Rt) : Int := minL (allE p e r)
def kindI (p : Pn) (e : En) (r : Rt) : Int := firstB (eqB (best p e r)) (allE p e r)
def onePt (p : Pn) (e : En) (r : Rt) : Pt := ⟨kindI p e r, r.x, r.y, r.w, r.h⟩
def sumL : List Int → Int
  | [] => 0
  | a :: l => a + sumL l
theorem sumL_snoc (l : List Int) (a : Int) : sumL (l ++ [a]) = sumL l + a := by
  induction l with
  | nil => simp [sumL]
  | cons b l ih => simp only [List.cons_append, sumL, ih]; omega
def lstS (f : Rt → List Pt × Int) (l : List Rt) : List Pt := l.flatMap fun q => (f q).1
def sumS (c : Int) (f : Rt → List Pt × Int) (l : List Rt) : Int := c + sumL (l.map fun q => (f q).2)
def least (p : Pn) (e : En) : Nat → Rt → List Pt × Int
  | 0, _ => ([], 0)
  | N + 1, r => if r.w * r.h = 1 then ([onePt p e r], best p e r) else
    if sumS e.cut (least p e N) (qs r) < best p e r then (lstS (least p e N) (qs r), sumS e.cut (least p e N) (qs r)) else ([onePt p e r], best p e r)
/-- Within a plane. -/
def inR (p : Pn) (r : Rt) : Prop := 0 ≤ r.x ∧ 0 ≤ r.y ∧ 1 ≤ r.w ∧ 1 ≤ r.h ∧ r.x + r.w ≤ p.W ∧ r.y + r.h ≤ p.H
theorem min3 (a b c : Int) : minL [a, b, c] = min (min a b) c := rfl
theorem first3 (a b c : Int) : 0 ≤ firstB (eqB (minL [a, b, c])) [a, b, c] ∧ firstB (eqB (minL [a, b, c])) [a, b, c] < 3 ∧ rd [a, b, c] (firstB (eqB (minL [a, b, c])) [a, b, c]) = minL [a, b, c] := by
  obtain ⟨m, hm⟩ : ∃ m, minL [a, b, c] = m := ⟨_, rfl⟩
  rw [hm]
  rw [min3] at hm
  have g0 : rd [a, b, c] (0 : Nat) = a := rfl
  have g1 : rd [a, b, c] (1 : Nat) = b := rfl
  have g2 : rd [a, b, c] (2 : Nat) = c := rfl
  by_cases ha : m = a
  · have e := firstB_at (p := eqB m) (xs := [a, b, c]) (i := 0) (by simp) (by rw [g0]; unfold eqB; simp [ha]) (fun j hj => absurd hj (Nat.not_lt_zero _))
    rw [e, g0]; exact ⟨by decide, by decide, ha.symm⟩
  · by_cases hb : m = b
    · have e := firstB_at (p := eqB m) (xs := [a, b, c]) (i := 1) (by simp) (by rw [g1]; unfold eqB; simp [hb]) (fun j hj => by
        obtain rfl : j = 0 := by omega
        rw [g0]; unfold eqB; simp [ha])
      rw [e, g1]; exact ⟨by decide, by decide, hb.symm⟩
    · have hc : m = c := by omega
      have e := firstB_at (p := eqB m) (xs := [a, b, c]) (i := 2) (by simp) (by rw [g2]; unfold eqB; simp [hc]) (fun j hj => by
        have : j = 0 ∨ j = 1 := by omega
        rcases this with rfl | rfl
        · rw [g0]; unfold eqB; simp [ha]
        · rw [g1]; unfold eqB; simp [hb])
      rw [e, g2]; exact ⟨by decide, by decide, hc.symm⟩
theorem inR.ok2 {p : Pn} {r : Rt} (hp : p.grey) (h : inR p r) : r.ok2 := by
  obtain ⟨h1, h2, h3, h4, h5, h6⟩ := h
  obtain ⟨g1, g2, _⟩ := hp
  unfold Rt.ok2; omega
theorem inR.rp {p : Pn} {r : Rt} (hp : p.grey) (h : inR p r) : (rpOf p r).Ok ∧ (rpOf p r).grey := by
  obtain ⟨h1, h2, h3, h4, h5, h6⟩ := h
  obtain ⟨g1, g2, g3, g4⟩ := hp
  have hO : (rpOf p r).Ok := ⟨by simp only [rpOf]; omega, by simp only [rpOf]; omega, g1, g2, g3⟩
  refine ⟨hO, fun k hk => ?_⟩
  have := (atN_lt hO hk).1
  exact allIn_rd.1 g4 _ this
theorem best_bd {p : Pn} {e : En} {r : Rt} (hp : p.grey) (he : e.Ok) (h : inR p r) : 0 ≤ best p e r ∧ best p e r ≤ 20000000 := by
  obtain ⟨hO, hG⟩ := h.rp hp
  have h1 := Rp.pa_bd hG (Nat.le_refl _)
  have h2 := Rp.te_bd hG (Nat.le_refl _)
  have hn : (rpOf p r).n ≤ 40000 := by
    obtain ⟨a, b, c, d, _⟩ := hO
    exact Nat.le_trans (Nat.mul_le_mul (show (rpOf p r).w ≤ 200 by omega) (show (rpOf p r).h ≤ 200 by omega)) (by decide)
  obtain ⟨⟨c1, c2⟩, ⟨p1, p2⟩, ⟨t1, t2⟩, ⟨i1, i2⟩⟩ := he
  have h3 : (0 : Int) ≤ e.pic * (rpOf p r).w * (rpOf p r).h := Int.mul_nonneg (Int.mul_nonneg i1 (by omega)) (by omega)
  unfold best allE
  rw [min3]
  show 0 ≤ min (min (e.paper + (rpOf p r).pa (rpOf p r).n) (e.text + (rpOf p r).te (rpOf p r).n)) (e.pic * (rpOf p r).w * (rpOf p r).h) ∧ min (min (e.paper + (rpOf p r).pa (rpOf p r).n) (e.text + (rpOf p r).te (rpOf p r).n)) (e.pic * (rpOf p r).w * (rpOf p r).h) ≤ _
  omega
/-- The quarters lie in it, are smaller, and are as many pixels. -/
def area (r : Rt) : Int := r.w * r.h
theorem area_lt {w h a b : Int} (hw : 1 ≤ w) (hh : 1 ≤ h) (h1 : ¬ w * h = 1) (ha0 : 0 ≤ a) (hb0 : 0 ≤ b) (ha : a ≤ (w + 1) / 2) (hb : b ≤ (h + 1) / 2) : a * b < w * h := by
  by_cases e : w = 1
  · subst e
    have e2 : ¬ h = 1 := fun q => h1 (by rw [q]; rfl)
    have : a * b ≤ 1 * b := Int.mul_le_mul_of_nonneg_right (by omega) hb0
    omega
  · have i1 : a * b ≤ a * h := Int.mul_le_mul_of_nonneg_left (by omega) ha0
    have i2 : (a + 1) * h ≤ w * h := Int.mul_le_mul_of_nonneg_right (by omega) (by omega)
    rw [Int.add_mul] at i2
    omega
theorem qs_in {p : Pn} {r : Rt} (h : inR p r) : ∀ q ∈ qs r, inR p q ∧ (¬ r.w * r.h = 1 → area q < area r) := by
  obtain ⟨h1, h2, h3, h4, h5, h6⟩ := h
  intro q hq
  unfold qs keptRt at hq
  rw [List.mem_filter] at hq
  obtain ⟨hq, hg⟩ := hq
  have hb : 0 ≤ q.w ∧ 0 ≤ q.h ∧ q.w ≤ (r.w + 1) / 2 ∧ q.h ≤ (r.h + 1) / 2 ∧ 0 ≤ q.x ∧ 0 ≤ q.y ∧ q.x + q.w ≤ p.W ∧ q.y + q.h ≤ p.H := by
    simp only [qd, List.mem_cons, List.not_mem_nil, or_false] at hq
    rcases hq with rfl | rfl | rfl | rfl <;> (simp only; omega)
  obtain ⟨b1, b2, b3, b4, b5, b6, b7, b8⟩ := hb
  have hne : ¬ q.w * q.h = 0 := by simpa [Rt.gone] using hg
  have hw : q.w ≠ 0 := fun e => hne (by rw [e, Int.zero_mul])
  have hh : q.h ≠ 0 := fun e => hne (by rw [e, Int.mul_zero])
  exact ⟨⟨b5, b6, by omega, by omega, b7, b8⟩, fun e => area_lt h3 h4 e b1 b2 b3 b4⟩
theorem area_pos {p : Pn} {r : Rt} (h : inR p r) : 1 ≤ area r := by
  obtain ⟨h1, h2, h3, h4, h5, h6⟩ := h
  have : 1 * 1 ≤ r.w * r.h := Int.mul_le_mul h3 h4 (by omega) (by omega)
  exact this
theorem qs_sum (r : Rt) : sumL ((qs r).map area) = area r := by
  have key : ∀ l : List Rt, sumL ((keptRt l).map area) = sumL (l.map area) := by
    intro l
    induction l with
    | nil => rfl
    | cons a l ih =>
      unfold keptRt at ih ⊢
      rw [List.filter_cons]
      cases hg : a.gone with
      | true =>
        have : area a = 0 := by unfold area; simpa [Rt.gone] using hg
        simp only [Bool.not_true, Bool.false_eq_true, if_false, List.map_cons, sumL, ih, this]; omega
      | false => simp only [Bool.not_false, if_true, List.map_cons, sumL, ih]
  unfold qs
  rw [key]
  simp only [qd, List.map_cons, List.map_nil, sumL, area]
  generalize (r.w + 1) / 2 = a
  generalize (r.h + 1) / 2 = b
  have e1 : (r.w - a) * b = r.w * b - a * b := Int.sub_mul _ _ _
  have e2 : a * (r.h - b) = a * r.h - a * b := Int.mul_sub _ _ _
  have e3 : (r.w - a) * (r.h - b) = r.w * r.h - r.w * b - (a * r.h - a * b) := by rw [Int.sub_mul, Int.mul_sub, Int.mul_sub]
  omega
theorem qs_ne {p : Pn} {r : Rt} (h : inR p r) : qs r ≠ [] := by
  intro e
  have := qs_sum r
  rw [e] at this
  have h1 := area_pos h
  simp only [List.map_nil, sumL] at this
  omega
theorem least_ok {p : Pn} {e : En} (hp : p.grey) (he : e.Ok) : ∀ (N : Nat) (r : Rt), inR p r → r.w * r.h ≤ N → 0 ≤ (least p e N r).2 ∧ (least p e N r).2 ≤ 20000000 ∧ 1 ≤ (least p e N r).1.length ∧ ((least p e N r).1.length : Int) ≤ area r
  | 0, r, h, hN => by have := area_pos h; unfold area at this; omega
  | N + 1, r, h, hN => by
    have hb := best_bd hp he h
    have ha := area_pos h
    rw [least]
    split
    · exact ⟨hb.1, hb.2, Nat.le_refl _, ha⟩
    rename_i h1
    split
    · rename_i hs
      have ih : ∀ q ∈ qs r, 0 ≤ (least p e N q).2 ∧ 1 ≤ (least p e N q).1.length ∧ ((least p e N q).1.length : Int) ≤ area q := fun q hq => by
        obtain ⟨k1, k2⟩ := qs_in h q hq
        have := k2 h1
        unfold area at this
        have := least_ok hp he N q k1 (by omega)
        exact ⟨this.1, this.2.2⟩
      have hne := qs_ne h
      have hsum := qs_sum r
      refine ⟨?_, by omega, ?_, ?_⟩
      · unfold sumS
        have : ∀ l : List Rt, (∀ q ∈ l, 0 ≤ (least p e N q).2) → 0 ≤ sumL (l.map fun q => (least p e N q).2) := by
          intro l
          induction l with
          | nil => intro _; exact Int.le_refl _
          | cons a l ih2 =>
            intro hl
            have q1 := hl a (by simp)
            have q2 := ih2 fun q hq => hl q (by simp [hq])
            simp only [List.map_cons, sumL]; omega
        have := this (qs r) fun q hq => (ih q hq).1
        have := he.1.1
        omega
      · unfold lstS
        cases hq : qs r with
        | nil => exact absurd hq hne
        | cons a l =>
          have := (ih a (by rw [hq]; simp)).2.1
          rw [List.flatMap_cons, List.length_append]; omega
      · rw [← hsum]
        have : ∀ l : List Rt, (∀ q ∈ l, ((least p e N q).1.length : Int) ≤ area q) → ((lstS (least p e N) l).length : Int) ≤ sumL (l.map area) := by
          intro l
          induction l with
          | nil => intro _; exact Int.le_refl _
          | cons a l ih2 =>
            intro hl
            have q1 := hl a (by simp)
            have q2 := ih2 fun q hq => hl q (by simp [hq])
            unfold lstS at q2 ⊢
            simp only [List.map_cons, sumL, List.flatMap_cons, List.length_append]; omega
        exact this (qs r) fun q hq => (ih q hq).2.2
    · exact ⟨hb.1, hb.2, Nat.le_refl _, ha⟩
def b30_1 : IR :=
  .seq (.reg false [⟨some 45, none, ⟨[], []⟩, .bin 0 .lss (.t 44) (.t 43)⟩] [] []) (.seq (.cond (.t 45) (.skip) (.exit 0)) (.seq (.block 1 (.seq (.reg false [⟨some 46, none, ⟨[], []⟩, .idxS (.t 42) (.t 44) 4⟩,
    ⟨some 47, none, ⟨[], []⟩, .ld true (some 4) 0 0 (.t 46)⟩,
    ⟨some 14, none, ⟨[], []⟩, .alloc 35 [.int .i64 0, .int .i64 0, .int .i64 0, .int .i64 0]⟩,
    ⟨none, none, ⟨[], []⟩, .sto false 4 .i64 (.t 14) (.t 47)⟩] [45, 46, 47] []) (.seq (.reg false [⟨some 49, none, ⟨[], []⟩, .ld false (some 3) 0 0 (.t 3)⟩,
    ⟨some 50, none, ⟨[], []⟩, .ld false (some 4) 0 0 (.t 4)⟩,
    ⟨some 51, none, ⟨[], []⟩, .ld false (some 4) 0 0 (.t 14)⟩,
    ⟨some 52, none, ⟨[], []⟩, .call (some 4) 36 30 [.t 49, .t 50, .t 51]⟩,
    ⟨some 48, none, ⟨[], []⟩, .mov (.t 52)⟩,
    ⟨some 53, none, ⟨[], []⟩, .ext (.t 48) 0⟩,
    ⟨some 54, none, ⟨[], []⟩, .ext (.t 48) 1⟩,
    ⟨some 15, none, ⟨[], []⟩, .mov (.t 53)⟩,
    ⟨some 16, none, ⟨[], []⟩, .mov (.t 54)⟩] [14, 48, 49, 50, 51, 52, 53, 54] []) (.seq (.reg false [⟨some 55, none, ⟨[], []⟩, .mov (.t 11)⟩,
    ⟨some 56, none, ⟨[], []⟩, .mov (.t 15)⟩,
    ⟨some 57, none, ⟨[], []⟩, .app 40 5 40 (.t 55) (.t 56)⟩,
    ⟨some 11, none, ⟨[], []⟩, .mov (.t 57)⟩] [15, 55, 56, 57] []) (.reg false [⟨some 58, none, ⟨[], []⟩, .mov (.t 12)⟩,
    ⟨some 59, none, ⟨[], []⟩, .mov (.t 16)⟩,
    ⟨some 60, none, ⟨[], []⟩, .bin 0 .add (.t 58) (.t 59)⟩,
    ⟨some 12, none, ⟨[], []⟩, .mov (.t 60)⟩] [16, 58, 59, 60] []))))) (.reg false [⟨some 61, none, ⟨[], []⟩, .bin 0 .add (.t 44) (.k (.int .i64 1))⟩,
    ⟨some 44, none, ⟨[], []⟩, .mov (.t 61)⟩] [61] [])))
def r30_2 : IR :=
  .seq (.seq (.reg false [⟨some 62, none, ⟨[], []⟩, .mov (.t 12)⟩,
    ⟨some 63, none, ⟨[], []⟩, .mov (.t 10)⟩,
    ⟨some 64, none, ⟨[], []⟩, .bin 0 .lss (.t 62) (.t 63)⟩] [3, 4, 42, 43, 44, 62, 63] []) (.cond (.t 64) (.seq (.reg false [⟨some 65, none, ⟨[], []⟩, .mov (.t 11)⟩,
    ⟨some 66, none, ⟨[], []⟩, .mov (.t 12)⟩,
    ⟨some 6, none, ⟨[], []⟩, .mov (.t 65)⟩,
    ⟨some 7, none, ⟨[], []⟩, .mov (.t 66)⟩] [5, 9, 10, 11, 12, 64, 65, 66] []) (.ret)) (.skip))) (.seq (.reg false [⟨some 67, none, ⟨[], []⟩, .ld false (some 4) 0 0 (.t 5)⟩,
    ⟨some 68, none, ⟨[], []⟩, .mov (.t 9)⟩,
    ⟨some 69, none, ⟨[], []⟩, .call (some 4) 41 54 [.t 67, .t 68]⟩,
    ⟨some 70, none, ⟨[], []⟩, .brecs 45 5 .i64 [.t 69]⟩,
    ⟨some 71, none, ⟨[], []⟩, .mov (.t 10)⟩,
    ⟨some 6, none, ⟨[], []⟩, .mov (.t 70)⟩,
    ⟨some 7, none, ⟨[], []⟩, .mov (.t 71)⟩] [5, 9, 10, 11, 12, 64, 67, 68, 69, 70, 71] []) (.ret))
def ir30 : IR :=
  .seq (.reg false [⟨some 3, none, ⟨[], []⟩, .box 10 (.t 0)⟩,
    ⟨some 4, none, ⟨[], []⟩, .box 11 (.t 1)⟩,
    ⟨some 5, none, ⟨[], []⟩, .box 12 (.t 2)⟩,
    ⟨some 6, none, ⟨[], []⟩, .mov (.k nilSV)⟩,
    ⟨some 7, none, ⟨[], []⟩, .mov (.k (.int .i64 0))⟩] [0, 1, 2, 6, 7] []) (.seq (.reg false [⟨some 17, none, ⟨[], []⟩, .ld false (some 4) 0 0 (.t 5)⟩,
    ⟨some 18, none, ⟨[], []⟩, .ld false (some 3) 0 0 (.t 3)⟩,
    ⟨some 19, none, ⟨[], []⟩, .ld false (some 4) 0 0 (.t 4)⟩,
    ⟨some 20, none, ⟨[], []⟩, .call (some 4) 13 34 [.t 17, .t 18, .t 19]⟩,
    ⟨some 8, none, ⟨[], []⟩, .allocI 17 .i64 3⟩,
    ⟨none, none, ⟨[], []⟩, .sto true 3 .i64 (.t 8) (.t 20)⟩] [17, 18, 19, 20] []) (.seq (.reg true [⟨some 21, none, ⟨[], []⟩, .slcA (.t 8) 3 1⟩,
    ⟨some 22, none, ⟨[], []⟩, .slcA (.t 8) 3 1⟩,
    ⟨some 23, none, ⟨[], []⟩, .call (some 4) 18 51 [.t 22]⟩,
    ⟨some 24, none, ⟨[], []⟩, .call (some 4) 22 53 [.t 21, .t 23]⟩,
    ⟨some 9, none, ⟨[], []⟩, .mov (.t 24)⟩] [21, 22, 23, 24] []) (.seq (.reg false [⟨some 25, none, ⟨[], []⟩, .mov (.t 9)⟩,
    ⟨some 26, none, ⟨[], []⟩, .idxP (.t 8) (.t 25) 3 1⟩,
    ⟨some 27, none, ⟨[], []⟩, .ld true none 0 0 (.t 26)⟩,
    ⟨some 10, none, ⟨[], []⟩, .mov (.t 27)⟩] [8, 25, 26, 27] []) (.seq (.seq (.reg false [⟨some 28, none, ⟨[], []⟩, .fld (.t 5) 2⟩,
    ⟨some 29, none, ⟨[], []⟩, .ld false none 0 0 (.t 28)⟩,
    ⟨some 30, none, ⟨[], []⟩, .fld (.t 5) 3⟩,
    ⟨some 31, none, ⟨[], []⟩, .ld false none 0 0 (.t 30)⟩,
    ⟨some 32, none, ⟨[], []⟩, .bin 0 .mul (.t 29) (.t 31)⟩,
    ⟨some 33, none, ⟨[], []⟩, .bin 0 .eql (.t 32) (.k (.int .i64 1))⟩] [28, 29, 30, 31, 32] []) (.cond (.t 33) (.seq (.reg false [⟨some 34, none, ⟨[], []⟩, .ld false (some 4) 0 0 (.t 5)⟩,
    ⟨some 35, none, ⟨[], []⟩, .mov (.t 9)⟩,
    ⟨some 36, none, ⟨[], []⟩, .call (some 4) 26 54 [.t 34, .t 35]⟩,
    ⟨some 37, none, ⟨[], []⟩, .brecs 30 5 .i64 [.t 36]⟩,
    ⟨some 38, none, ⟨[], []⟩, .mov (.t 10)⟩,
    ⟨some 6, none, ⟨[], []⟩, .mov (.t 37)⟩,
    ⟨some 7, none, ⟨[], []⟩, .mov (.t 38)⟩] [3, 4, 5, 9, 10, 33, 34, 35, 36, 37, 38] []) (.ret)) (.skip))) (.seq (.reg false [⟨some 11, none, ⟨[], []⟩, .mov (.k nilSV)⟩] [6, 7, 33] []) (.seq (.reg false [⟨some 39, none, ⟨[], []⟩, .fld (.t 4) 0⟩,
    ⟨some 40, none, ⟨[], []⟩, .ld false none 0 0 (.t 39)⟩,
    ⟨some 12, none, ⟨[], []⟩, .mov (.t 40)⟩] [39, 40] []) (.seq (.seq (.reg false [⟨some 41, none, ⟨[], []⟩, .ld false (some 4) 0 0 (.t 5)⟩,
    ⟨some 42, none, ⟨[], []⟩, .call (some 4) 31 55 [.t 41]⟩,
    ⟨some 43, none, ⟨[], []⟩, .len (.t 42)⟩,
    ⟨some 44, none, ⟨[], []⟩, .mov (.k (.int .i64 0))⟩] [41] []) (.block 0 (.loop b30_1))) (r30_2))))))))
def kp30_1 : List Nat := [3, 4, 5, 9, 10, 11, 12, 42, 43, 44]
def kl30_1 : List Nat := [35, 36, 37, 38, 39, 40]
attribute [push_cast] kp30_1 kl30_1
set_option maxRecDepth 4000 in
theorem comp30 : (Try.f30.body.bind fun c => compC tab isP chkAll ir30 c) = some ir30 := by kernel_rfl
/-- How many cells an element of a slice has that is nil at first. -/
def esz (s : Nat) : Nat → Nat
  | 0 => 1
  | _ + 1 => s
theorem esz_pos {s n : Nat} (h : 0 < n) : esz s n = s := by cases n; omega; rfl
theorem lstS_snoc (f : Rt → List Pt × Int) (l : List Rt) (a : Rt) : lstS f (l ++ [a]) = lstS f l ++ (f a).1 := by unfold lstS; simp
theorem sumS_snoc (c : Int) (f : Rt → List Pt × Int) (l : List Rt) (a : Rt) : sumS c f (l ++ [a]) = sumS c f l + (f a).2 := by
  unfold sumS; rw [List.map_append, List.map_cons, List.map_nil, sumL_snoc]; omega
theorem ls_step {c : Int} {f : Rt → List Pt × Int} {Q : List Rt} {i : Nat} (hi : i < Q.length) : lstS f (Q.take (i + 1)) = lstS f (Q.take i) ++ (f (rdRt Q (i : Int))).1 ∧ sumS c f (Q.take (i + 1)) = sumS c f (Q.take i) + (f (rdRt Q (i : Int))).2 := by
  rw [List.take_succ_eq_append_getElem hi, lstS_snoc, sumS_snoc, rdRt_nat hi]
  exact ⟨rfl, rfl⟩
theorem ls_bd {c : Int} {f : Rt → List Pt × Int} {Q : List Rt} (hq : ∀ q ∈ Q, 0 ≤ (f q).2 ∧ (f q).2 ≤ 20000000 ∧ 1 ≤ (f q).1.length ∧ ((f q).1.length : Int) ≤ 40000) (h0 : 0 ≤ c) (h1 : c ≤ 100000) :
    ∀ i, i ≤ Q.length → (lstS f (Q.take i)).length ≤ i * 40000 ∧ i ≤ (lstS f (Q.take i)).length ∧ 0 ≤ sumS c f (Q.take i) ∧ sumS c f (Q.take i) ≤ 100000 + i * 20000000
  | 0, _ => by simp [lstS, sumS, sumL]; omega
  | i + 1, hi => by
    obtain ⟨a, b, d, e⟩ := ls_bd hq h0 h1 i (by omega)
    obtain ⟨s1, s2⟩ := ls_step (c := c) (f := f) (Q := Q) (i := i) (by omega)
    obtain ⟨k1, k2, k3, k4⟩ := hq _ (rdRt_mem (l := Q) (i := i) (by omega))
    rw [s1, s2, List.length_append]
    omega
structure LsA where
  p : Pn
  L : Xf.Loc
  e : En
  r : Rt
def fs30 (N : Nat) : FS where
  A := LsA
  args := fun a => [plV ⟨a.p.W, a.p.H, a.p.xs⟩ a.L 0, enV a.e, a.r.sv]
  mem := fun a => [some (.ro, a.L, .ints .i64 a.p.xs)]
  pre := fun a => a.p.grey ∧ a.e.Ok ∧ inR a.p a.r ∧ a.r.w * a.r.h ≤ N
  res := fun a x => .tup [.sl 1 (x 0) 5 0 (least a.p a.e N a.r).1.length, .int .i64 (least a.p a.e N a.r).2]
  out := fun _ _ => []
  new := fun a x => [(x 0, .recs 5 true [] ((least a.p a.e N a.r).1.map Pt.rc))]
def inv30 : List SV → Look → Option (LsA × List Nat)
  | [.agg [.int .i64 W, .int .i64 H, .sl c _ 1 0 _], .agg [.int .i64 c1, .int .i64 q, .int .i64 t, .int .i64 i], .agg [.int .i64 x, .int .i64 y, .int .i64 w, .int .i64 h]], look => match rowI (look c) with
    | some (L, .i64, xs) => some (⟨⟨W.toNat, H.toNat, xs⟩, L, ⟨c1, q, t, i⟩, ⟨x, y, w, h⟩⟩, [c])
    | _ => none
  | _, _ => none
attribute [push_cast] inv30
set_option maxRecDepth 4000 in
set_option maxHeartbeats 2000000 in
theorem ok30 : ∀ N, FSOk Try.prog 30 (fs30 N)
  | 0 => by
    refine ⟨⟨_, Try.func30, by kernel_rfl, by kernel_rfl⟩, fun a => ⟨by simp [fs30, push_cast, noMine, argOwn, Chunk.frArg], by simp [fs30, push_cast, outOk, Chunk.ext], fun x => .inl (by simp [fs30, push_cast, frNew, frOut, Chunk.fr])⟩, fun a hp => ?_⟩
    obtain ⟨h1, h2, h3, h4⟩ := hp
    have := area_pos h3
    unfold area at this
    omega
  | N + 1 => by
    have ih := ok30 N
    refine ⟨⟨_, Try.func30, by kernel_rfl, by kernel_rfl⟩, fun a => ⟨by simp [fs30, push_cast, noMine, argOwn, Chunk.frArg], by simp [fs30, push_cast, outOk, Chunk.ext], fun x => .inl (by simp [fs30, push_cast, frNew, frOut, Chunk.fr])⟩, fun a hp => ?_⟩
    obtain ⟨p, L, e, r⟩ := a
    obtain ⟨hg, hE, hin, hN⟩ : p.grey ∧ e.Ok ∧ inR p r ∧ r.w * r.h ≤ ((N + 1 : Nat) : Int) := hp
    have hres := least_ok hg hE (N + 1) r hin hN
    have hrec := fun {q : Rt} (hq : q ∈ qs r) (h1 : ¬ r.w * r.h = 1) => (show inR p q ∧ q.w * q.h ≤ N from ⟨(qs_in hin q hq).1, by have := (qs_in hin q hq).2 h1; unfold area at this; omega⟩)
    have hrec2 := fun {q : Rt} (hq : q ∈ qs r) (h1 : ¬ r.w * r.h = 1) => least_ok hg hE N q (hrec hq h1).1 (hrec hq h1).2
    have hok2 := hin.ok2 hg
    obtain ⟨hRp, hGr⟩ := hin.rp hg
    have hbd := best_bd hg hE hin
    have hne := qs_ne hin
    have hf3 := first3 ((rpOf p r).en e 0) ((rpOf p r).en e 1) ((rpOf p r).en e 2)
    have hL1 : r.w * r.h = 1 → least p e (N + 1) r = ([onePt p e r], best p e r) := fun h => by rw [least, if_pos h]
    have hL2 : ¬ r.w * r.h = 1 → sumS e.cut (least p e N) (qs r) < best p e r → least p e (N + 1) r = (lstS (least p e N) (qs r), sumS e.cut (least p e N) (qs r)) := fun h h' => by rw [least, if_neg h, if_pos h']
    have hL3 : ¬ r.w * r.h = 1 → ¬ sumS e.cut (least p e N) (qs r) < best p e r → least p e (N + 1) r = ([onePt p e r], best p e r) := fun h h' => by rw [least, if_neg h, if_neg h']
    change 0 ≤ firstB (eqB (best p e r)) (allE p e r) ∧ firstB (eqB (best p e r)) (allE p e r) < 3 ∧ rd [(rpOf p r).en e 0, (rpOf p r).en e 1, (rpOf p r).en e 2] (kindI p e r) = best p e r at hf3
    obtain ⟨hf0, hf1, hf2⟩ := hf3
    have eB : minL [(rpOf p r).en e 0, (rpOf p r).en e 1, (rpOf p r).en e 2] = best p e r := rfl
    have eK : firstB (eqB (best p e r)) [(rpOf p r).en e 0, (rpOf p r).en e 1, (rpOf p r).en e 2] = kindI p e r := rfl
    change 0 ≤ kindI p e r at hf0
    change kindI p e r < 3 at hf1
    have hone : (onePt p e r).rc = [.int .i64 (kindI p e r), .int .i64 r.x, .int .i64 r.y, .int .i64 r.w, .int .i64 r.h] := rfl
    obtain ⟨B, hB⟩ : ∃ B, best p e r = B := ⟨_, rfl⟩
    obtain ⟨K0, hK0⟩ : ∃ K0, kindI p e r = K0 := ⟨_, rfl⟩
    obtain ⟨Q, hQ⟩ : ∃ Q, qs r = Q := ⟨_, rfl⟩
    rw [hB] at hbd hf2 eB eK hL1 hL2 hL3
    rw [hK0] at hf0 hf1 hf2 eK hone
    simp only [hQ] at hL2 hL3 hne hrec hrec2
    obtain ⟨x, y, w, h⟩ := r
    obtain ⟨i1, i2, i3, i4, i5, i6⟩ := id hin
    simp only at i1 i2 i3 i4 i5 i6 hone hL1 hL2 hL3 hrec hrec2 hN
    obtain ⟨x, rfl⟩ : ∃ n : Nat, x = (n : Int) := ⟨x.toNat, by omega⟩
    obtain ⟨y, rfl⟩ : ∃ n : Nat, y = (n : Int) := ⟨y.toNat, by omega⟩
    obtain ⟨w, rfl⟩ : ∃ n : Nat, w = (n : Int) := ⟨w.toNat, by omega⟩
    obtain ⟨h, rfl⟩ : ∃ n : Nat, h = (n : Int) := ⟨h.toNat, by omega⟩
    obtain ⟨W, H, xs⟩ := p
    simp only at i5 i6
    have eR : rpOf ⟨W, H, xs⟩ ⟨x, y, w, h⟩ = ⟨x, y, w, h, W, H, xs⟩ := by simp only [rpOf, Int.toNat_natCast]
    rw [eR] at hRp hGr eB eK hf2
    obtain ⟨c, pp, t, i⟩ := e
    obtain ⟨⟨c1, c2⟩, _⟩ := id hE
    simp only at c1 c2
    obtain ⟨g1, g2, g3, g4⟩ := id hg
    simp only at g1 g2 g3
    have hm := mul_bd (a := (w : Int)) (b := (h : Int)) (A := 200) (B := 200) (by omega) (by omega) (by omega) (by omega)
    change Tri Try.prog 30 [plV ⟨W, H, xs⟩ L 0, enV ⟨c, pp, t, i⟩, .agg [.int .i64 x, .int .i64 y, .int .i64 w, .int .i64 h]] [some (.ro, L, .ints .i64 xs)] (postF (fs30 (N + 1)) ⟨⟨W, H, xs⟩, L, ⟨c, pp, t, i⟩, ⟨x, y, w, h⟩⟩)
    refine tri_evS (hyp (l := [(30, spOf (fs30 N) inv30), (34, ent34), (51, ent51), (53, ent53), (54, ent54), (55, ent55)]) (lp := [])
      ⟨entry_of ih inv30, e34, e51, e53, e54, e55, trivial⟩ trivial) Try.func30 comp30 (rs := [.tmp 6, .tmp 7]) (by rfl) Try.ntmps30 46 ?_
    simp -implicitDefEqProofs only [push_cast, false_implies, reduceCtorEq, Classical.not_not, Nat.reduceAdd, Nat.reduceSub, Nat.reduceMul, Nat.reduceLeDiff, Nat.reduceLT, Nat.reduceEqDiff, Nat.reduceBEq, Nat.reduceBNe, Int.reduceNeg, Int.reduceToNat, Bool.or_false, Bool.false_or, Bool.or_true, Bool.true_or, BEq.rfl, Bool.not_eq_true, Bool.not_eq_false, decide_eq_true_eq, not_true_eq_false, not_false_eq_true, ite_true, ite_false, List.append_nil, and_assoc, Nat.mul_zero, Nat.zero_mul, ir30, plV, enV, fs34, fs51, fs53, fs54, fs55, rcV, Int.toNat_natCast, eB, eK, hf2, hQ, Rt.sv]
    intro X X1
    repeat (refine And.intro (by first | omega | trivial | (intros; omega)) ?_)
    refine ⟨fun h1 X2 => ?_, fun h1 => ?_⟩
    · refine postF.mk' (locs [X2 3 30]) [some 0, some 30] ?_
      simp -implicitDefEqProofs only [push_cast, false_implies, reduceCtorEq, Classical.not_not, Nat.reduceAdd, Nat.reduceSub, Nat.reduceMul, Nat.reduceLeDiff, Nat.reduceLT, Nat.reduceEqDiff, Nat.reduceBEq, Nat.reduceBNe, Int.reduceNeg, Int.reduceToNat, Bool.or_false, Bool.false_or, Bool.or_true, Bool.true_or, BEq.rfl, Bool.not_eq_true, Bool.not_eq_false, decide_eq_true_eq, not_true_eq_false, not_false_eq_true, ite_true, ite_false, List.append_nil, and_assoc, Nat.mul_zero, Nat.zero_mul, fs30, hL1 h1, hone, List.map_cons, List.map_nil]
    · intro X2
      refine ⟨hok2, ?_⟩
      have hQ4 : Q.length ≤ 4 := by rw [← hQ]; exact Nat.le_trans (List.length_filter_le _ _) (by simp [qd])
      obtain ⟨f, hf⟩ : ∃ f, least ⟨W, H, xs⟩ ⟨c, pp, t, i⟩ N = f := ⟨_, rfl⟩
      have hq : ∀ q ∈ Q, 0 ≤ (f q).2 ∧ (f q).2 ≤ 20000000 ∧ 1 ≤ (f q).1.length ∧ ((f q).1.length : Int) ≤ 40000 := fun q hq => by
        have k := hrec2 hq h1
        rw [hf] at k
        obtain ⟨⟨j1, j2, j3, j4, j5, j6⟩, _⟩ := hrec hq h1
        simp only at j5 j6
        have : area q ≤ 200 * 200 := Int.mul_le_mul (by omega) (by omega) (by omega) (by omega)
        exact ⟨k.1, k.2.1, k.2.2.1, by omega⟩
      have hbds := ls_bd hq c1 c2
      rw [hf] at hL2 hL3
      have hlr : (Q.map Rt.rc ++ List.replicate (4 - Q.length) zR).length = 4 := by rw [List.length_append, List.length_map, List.length_replicate]; omega
      refine evS_loopU (A := Nat × Xf.Loc) kp30_1 kl30_1 (fun y => [(11, .sl 40 y.2 (esz 5 y.1) 0 (lstS f (Q.take y.1)).length), (12, .int .i64 (sumS c f (Q.take y.1))), (44, .int .i64 y.1)]) (fun y => [(40, .mine, y.2, .recs 5 true [] ((lstS f (Q.take y.1)).map Pt.rc))])
        (fun y => y.1 ≤ Q.length ∧ (y.1 = 0 → y.2 = nilLoc)) (fun y => Q.length - y.1) (0, nilLoc) ⟨Nat.zero_le _, fun _ => rfl⟩ (Sub.pt ?_) ?_
      · have z1 : lstS f (Q.take 0) = [] := rfl
        have z2 : sumS c f (Q.take 0) = c := by simp [sumS, sumL]
        simp -implicitDefEqProofs only [push_cast, false_implies, reduceCtorEq, Classical.not_not, Nat.reduceAdd, Nat.reduceSub, Nat.reduceMul, Nat.reduceLeDiff, Nat.reduceLT, Nat.reduceEqDiff, Nat.reduceBEq, Nat.reduceBNe, Int.reduceNeg, Int.reduceToNat, Bool.or_false, Bool.false_or, Bool.or_true, Bool.true_or, BEq.rfl, Bool.not_eq_true, Bool.not_eq_false, decide_eq_true_eq, not_true_eq_false, not_false_eq_true, ite_true, ite_false, List.append_nil, and_assoc, Nat.mul_zero, Nat.zero_mul, z1, z2, esz, List.map_nil]
      intro ⟨k, M⟩ ⟨(hk : k ≤ Q.length), (hM : k = 0 → M = nilLoc)⟩ K hK
      obtain ⟨l1, l2, l3, l4⟩ := hbds k hk
      by_cases hk' : k < Q.length
      · obtain ⟨t1, t2⟩ := ls_step (c := c) (f := f) hk'
        have hmem := rdRt_mem hk'
        have r1 := recAt_Rt (l := Q) (i := (k : Int)) (by omega) (by omega) [] (List.replicate (4 - Q.length) zR)
        obtain ⟨q, hqq⟩ : ∃ q, rdRt Q (k : Int) = q := ⟨_, rfl⟩
        rw [hqq] at hmem r1 t1 t2
        obtain ⟨k1, k2, k3, k4⟩ := hq q hmem
        obtain ⟨p1, p2⟩ := hrec hmem h1
        have hfq : least ⟨W, H, xs⟩ ⟨c, pp, t, i⟩ N q = f q := by rw [hf]
        obtain ⟨m, n, hfm⟩ : ∃ m n, f q = (m, n) := ⟨_, _, rfl⟩
        rw [hfm] at hfq k1 k2 k3 k4 t1 t2
        obtain ⟨qx, qy, qw, qh⟩ := q
        simp only at k1 k2 k3 k4 t1 t2 p2
        obtain ⟨lk, hlk⟩ : ∃ l, lstS f (Q.take k) = l := ⟨_, rfl⟩
        obtain ⟨sk, hsk⟩ : ∃ l, sumS c f (Q.take k) = l := ⟨_, rfl⟩
        rw [hlk] at t1 l1 l2
        rw [hsk] at t2 l3 l4
        simp only [hlk, hsk]
        have ml : (m.map Pt.rc).length = m.length := List.length_map _
        have lkl : (lk.map Pt.rc).length = lk.length := List.length_map _
        simp -implicitDefEqProofs only [push_cast, false_implies, reduceCtorEq, Classical.not_not, Nat.reduceAdd, Nat.reduceSub, Nat.reduceMul, Nat.reduceLeDiff, Nat.reduceLT, Nat.reduceEqDiff, Nat.reduceBEq, Nat.reduceBNe, Int.reduceNeg, Int.reduceToNat, Bool.or_false, Bool.false_or, Bool.or_true, Bool.true_or, BEq.rfl, Bool.not_eq_true, Bool.not_eq_false, decide_eq_true_eq, not_true_eq_false, not_false_eq_true, ite_true, ite_false, List.append_nil, and_assoc, Nat.mul_zero, Nat.zero_mul, b30_1, r1, Rt.rc, hlr, fs30, hfq, ml, lkl, enV, Int.toNat_natCast]
        refine ⟨fun _ X3 => ?_, fun hl => by omega⟩
        repeat (refine And.intro (by first | omega | trivial | (intros; omega)) ?_)
        intro X4
        repeat (refine And.intro (by first | omega | trivial | (intros; omega)) ?_)
        intro X5
        repeat (refine And.intro (by first | omega | trivial | (intros; omega)) ?_)
        refine hK (k + 1, X5 2 40) ⟨show k + 1 ≤ Q.length by omega, fun h => absurd h (Nat.succ_ne_zero k)⟩ (show Q.length - (k + 1) < Q.length - k by omega) _ _ (Sub.pt ?_)
        simp -implicitDefEqProofs only [push_cast, false_implies, reduceCtorEq, Classical.not_not, Nat.reduceAdd, Nat.reduceSub, Nat.reduceMul, Nat.reduceLeDiff, Nat.reduceLT, Nat.reduceEqDiff, Nat.reduceBEq, Nat.reduceBNe, Int.reduceNeg, Int.reduceToNat, Bool.or_false, Bool.false_or, Bool.or_true, Bool.true_or, BEq.rfl, Bool.not_eq_true, Bool.not_eq_false, decide_eq_true_eq, not_true_eq_false, not_false_eq_true, ite_true, ite_false, List.append_nil, and_assoc, Nat.mul_zero, Nat.zero_mul, esz, t1, t2, List.map_append, List.length_append]
      · obtain rfl : k = Q.length := by omega
        clear hK
        rw [List.take_length] at *
        simp -implicitDefEqProofs only [push_cast, false_implies, reduceCtorEq, Classical.not_not, Nat.reduceAdd, Nat.reduceSub, Nat.reduceMul, Nat.reduceLeDiff, Nat.reduceLT, Nat.reduceEqDiff, Nat.reduceBEq, Nat.reduceBNe, Int.reduceNeg, Int.reduceToNat, Bool.or_false, Bool.false_or, Bool.or_true, Bool.true_or, BEq.rfl, Bool.not_eq_true, Bool.not_eq_false, decide_eq_true_eq, not_true_eq_false, not_false_eq_true, ite_true, ite_false, List.append_nil, and_assoc, Nat.mul_zero, Nat.zero_mul, b30_1, r30_2, fs54, Int.lt_irrefl, true_implies, true_and]
        have hpos : 0 < Q.length := List.length_pos_iff.2 hne
        refine ⟨fun hs => ?_, fun hs X3 => ?_⟩
        · have he5 := esz_pos (s := 5) hpos
          refine postF.mk' (locs [M]) [some 0, some 40] ?_
          simp -implicitDefEqProofs only [push_cast, false_implies, reduceCtorEq, Classical.not_not, Nat.reduceAdd, Nat.reduceSub, Nat.reduceMul, Nat.reduceLeDiff, Nat.reduceLT, Nat.reduceEqDiff, Nat.reduceBEq, Nat.reduceBNe, Int.reduceNeg, Int.reduceToNat, Bool.or_false, Bool.false_or, Bool.or_true, Bool.true_or, BEq.rfl, Bool.not_eq_true, Bool.not_eq_false, decide_eq_true_eq, not_true_eq_false, not_false_eq_true, ite_true, ite_false, List.append_nil, and_assoc, Nat.mul_zero, Nat.zero_mul, fs30, hL2 h1 hs, he5]
        · refine postF.mk' (locs [X3 3 45]) [some 0, some 45] ?_
          simp -implicitDefEqProofs only [push_cast, false_implies, reduceCtorEq, Classical.not_not, Nat.reduceAdd, Nat.reduceSub, Nat.reduceMul, Nat.reduceLeDiff, Nat.reduceLT, Nat.reduceEqDiff, Nat.reduceBEq, Nat.reduceBNe, Int.reduceNeg, Int.reduceToNat, Bool.or_false, Bool.false_or, Bool.or_true, Bool.true_or, BEq.rfl, Bool.not_eq_true, Bool.not_eq_false, decide_eq_true_eq, not_true_eq_false, not_false_eq_true, ite_true, ite_false, List.append_nil, and_assoc, Nat.mul_zero, Nat.zero_mul, fs30, hL3 h1 hs, hone, List.map_cons, List.map_nil]
def ir29 : IR :=
  .seq (.reg false [⟨some 1, none, ⟨[], []⟩, .box 10 (.t 0)⟩,
    ⟨some 2, none, ⟨[], []⟩, .mov (.k (.bool false))⟩] [0, 2] []) (.seq (.reg false [⟨some 4, none, ⟨[], []⟩, .fld (.t 1) 0⟩,
    ⟨some 5, none, ⟨[], []⟩, .ld false none 0 0 (.t 4)⟩,
    ⟨some 6, none, ⟨[], []⟩, .fld (.t 1) 1⟩,
    ⟨some 7, none, ⟨[], []⟩, .ld false none 0 0 (.t 6)⟩,
    ⟨some 8, none, ⟨[], []⟩, .fld (.t 1) 2⟩,
    ⟨some 9, none, ⟨[], []⟩, .ld false none 0 0 (.t 8)⟩,
    ⟨some 10, none, ⟨[], []⟩, .fld (.t 1) 3⟩,
    ⟨some 11, none, ⟨[], []⟩, .ld false none 0 0 (.t 10)⟩,
    ⟨some 12, none, ⟨[], []⟩, .bslice 11 [.t 5, .t 7, .t 9, .t 11]⟩,
    ⟨some 3, none, ⟨[], []⟩, .mov (.t 12)⟩] [1, 4, 5, 6, 7, 8, 9, 10, 11, 12] []) (.seq (.reg false [⟨some 13, none, ⟨[], []⟩, .mov (.t 3)⟩,
    ⟨some 14, none, ⟨[], []⟩, .call (some 4) 12 51 [.t 13]⟩,
    ⟨some 15, none, ⟨[], []⟩, .bin 0 .geq (.t 14) (.k (.int .i64 0))⟩,
    ⟨some 16, none, ⟨[], []⟩, .mov (.t 15)⟩,
    ⟨some 17, some (16, true), ⟨[], []⟩, .mov (.t 3)⟩,
    ⟨some 18, some (16, true), ⟨[], []⟩, .call (some 4) 16 52 [.t 17]⟩,
    ⟨some 19, some (16, true), ⟨[], []⟩, .bin 0 .leq (.t 18) (.k (.int .i64 100000))⟩,
    ⟨some 20, none, ⟨[], []⟩, .pick (.t 16) (.t 19) (.k (.bool false))⟩,
    ⟨some 2, none, ⟨[], []⟩, .mov (.t 20)⟩] [3, 13, 14, 15, 16, 17, 18, 19, 20] []) (.ret)))
set_option maxRecDepth 4000 in
theorem comp29 : (Try.f29.body.bind fun c => compC tab isP chkAll ir29 c) = some ir29 := by kernel_rfl
def ir11 : IR :=
  .seq (.reg false [⟨some 2, none, ⟨[], []⟩, .box 10 (.t 0)⟩,
    ⟨some 3, none, ⟨[], []⟩, .box 11 (.t 1)⟩,
    ⟨some 4, none, ⟨[], []⟩, .mov (.k nilSV)⟩,
    ⟨some 5, none, ⟨[], []⟩, .mov (.k (.int .i64 0))⟩,
    ⟨some 6, none, ⟨[], []⟩, .mov (.k (.int .i64 0))⟩] [0, 1, 4, 5, 6] []) (.seq (.block 0 (.seq (.reg false [⟨some 8, none, ⟨[], []⟩, .ld false (some 3) 0 0 (.t 2)⟩,
    ⟨some 9, none, ⟨[], []⟩, .call (some 4) 12 14 [.t 8]⟩,
    ⟨some 10, none, ⟨[], []⟩, .not (.t 9)⟩,
    ⟨some 7, none, ⟨[], []⟩, .mov (.t 10)⟩] [8, 9, 10] []) (.cond (.t 7) (.seq (.reg false [⟨some 4, none, ⟨[], []⟩, .mov (.k nilSV)⟩,
    ⟨some 5, none, ⟨[], []⟩, .mov (.k (.int .i64 0))⟩,
    ⟨some 6, none, ⟨[], []⟩, .mov (.k (.int .i64 70))⟩] [2, 3, 7] []) (.ret)) (.seq (.reg false [⟨some 12, none, ⟨[], []⟩, .ld false (some 4) 0 0 (.t 3)⟩,
    ⟨some 13, none, ⟨[], []⟩, .call (some 4) 16 29 [.t 12]⟩,
    ⟨some 14, none, ⟨[], []⟩, .not (.t 13)⟩,
    ⟨some 11, none, ⟨[], []⟩, .mov (.t 14)⟩] [7, 12, 13, 14] []) (.cond (.t 11) (.seq (.reg false [⟨some 4, none, ⟨[], []⟩, .mov (.k nilSV)⟩,
    ⟨some 5, none, ⟨[], []⟩, .mov (.k (.int .i64 0))⟩,
    ⟨some 6, none, ⟨[], []⟩, .mov (.k (.int .i64 2))⟩] [2, 3, 11] []) (.ret)) (.seq (.reg false [⟨some 16, none, ⟨[], []⟩, .fld (.t 2) 2⟩,
    ⟨some 17, none, ⟨[], []⟩, .ld false none 0 0 (.t 16)⟩,
    ⟨some 18, none, ⟨[], []⟩, .len (.t 17)⟩,
    ⟨some 19, none, ⟨[], []⟩, .bin 0 .eql (.t 18) (.k (.int .i64 0))⟩,
    ⟨some 15, none, ⟨[], []⟩, .mov (.t 19)⟩] [11, 16, 17, 18, 19] []) (.cond (.t 15) (.seq (.reg false [⟨some 4, none, ⟨[], []⟩, .mov (.k nilSV)⟩,
    ⟨some 5, none, ⟨[], []⟩, .mov (.k (.int .i64 0))⟩,
    ⟨some 6, none, ⟨[], []⟩, .mov (.k (.int .i64 0))⟩] [2, 3, 15] []) (.ret)) (.skip)))))))) (.seq (.reg false [⟨some 21, none, ⟨[], []⟩, .ld false (some 3) 0 0 (.t 2)⟩,
    ⟨some 22, none, ⟨[], []⟩, .ld false (some 4) 0 0 (.t 3)⟩,
    ⟨some 23, none, ⟨[], []⟩, .fld (.t 2) 0⟩,
    ⟨some 24, none, ⟨[], []⟩, .ld false none 0 0 (.t 23)⟩,
    ⟨some 25, none, ⟨[], []⟩, .fld (.t 2) 1⟩,
    ⟨some 26, none, ⟨[], []⟩, .ld false none 0 0 (.t 25)⟩,
    ⟨some 27, none, ⟨[], []⟩, .build [.int .i64 0, .int .i64 0, .int .i64 0, .int .i64 0] [(0, 1, .k (.int .i64 0)), (1, 1, .k (.int .i64 0)), (2, 1, .t 24), (3, 1, .t 26)]⟩,
    ⟨some 28, none, ⟨[], []⟩, .call (some 4) 20 30 [.t 21, .t 22, .t 27]⟩,
    ⟨some 20, none, ⟨[], []⟩, .mov (.t 28)⟩,
    ⟨some 29, none, ⟨[], []⟩, .ext (.t 20) 0⟩,
    ⟨some 30, none, ⟨[], []⟩, .ext (.t 20) 1⟩,
    ⟨some 4, none, ⟨[], []⟩, .mov (.t 29)⟩,
    ⟨some 5, none, ⟨[], []⟩, .mov (.t 30)⟩] [2, 3, 6, 15, 20, 21, 22, 23, 24, 25, 26, 27, 28, 29, 30] []) (.seq (.reg false [⟨some 31, none, ⟨[], []⟩, .mov (.t 4)⟩,
    ⟨some 32, none, ⟨[], []⟩, .mov (.t 5)⟩,
    ⟨some 4, none, ⟨[], []⟩, .mov (.t 31)⟩,
    ⟨some 5, none, ⟨[], []⟩, .mov (.t 32)⟩,
    ⟨some 6, none, ⟨[], []⟩, .mov (.k (.int .i64 0))⟩] [31, 32] []) (.ret))))
set_option maxRecDepth 4000 in
theorem comp11 : (Try.f11.body.bind fun c => compC tab isP chkAll ir11 c) = some ir11 := by kernel_rfl
structure EnB where
  e : En
def fs29 : FS where
  A := EnB
  args := fun a => [enV a.e]
  mem := fun _ => []
  pre := fun _ => True
  res := fun a _ => .bool (decide a.e.Ok)
  out := fun _ _ => []
  new := fun _ _ => []
def inv29 : List SV → Look → Option (EnB × List Nat)
  | [.agg [.int .i64 c, .int .i64 q, .int .i64 t, .int .i64 i]], look => some (⟨⟨c, q, t, i⟩⟩, [])
  | _, _ => none
attribute [push_cast] inv29
theorem ok29 : FSOk Try.prog 29 fs29 := by
  refine ⟨⟨_, Try.func29, by kernel_rfl, by kernel_rfl⟩, fun a => ⟨by simp [fs29, push_cast, noMine, argOwn, Chunk.frArg], by simp [fs29, push_cast, outOk, Chunk.ext], fun x => .inl (by simp [fs29, push_cast, frNew, frOut, Chunk.fr])⟩, fun a hp => ?_⟩
  obtain ⟨⟨c, q, t, i⟩⟩ := a
  change Tri Try.prog 29 [.agg [.int .i64 c, .int .i64 q, .int .i64 t, .int .i64 i]] [] (postF fs29 ⟨⟨c, q, t, i⟩⟩)
  refine tri_evS (hyp (l := [(51, ent51), (52, ent52)]) (lp := []) ⟨e51, e52, trivial⟩ trivial) Try.func29 comp29 (rs := [.tmp 2]) (by rfl) Try.ntmps29 20 ?_
  have m1 : minL [c, q, t, i] = min (min (min c q) t) i := rfl
  have m2 : maxL [c, q, t, i] = max (max (max c q) t) i := rfl
  simp -implicitDefEqProofs only [push_cast, false_implies, reduceCtorEq, Classical.not_not, Nat.reduceAdd, Nat.reduceSub, Nat.reduceMul, Nat.reduceLeDiff, Nat.reduceLT, Nat.reduceEqDiff, Nat.reduceBEq, Nat.reduceBNe, Int.reduceNeg, Int.reduceToNat, Bool.or_false, Bool.false_or, Bool.or_true, Bool.true_or, BEq.rfl, Bool.not_eq_true, Bool.not_eq_false, decide_eq_true_eq, not_true_eq_false, not_false_eq_true, ite_true, ite_false, List.append_nil, and_assoc, Nat.mul_zero, Nat.zero_mul, ir29, fs51, fs52, m1, m2]
  intro X X1
  repeat (refine And.intro (by first | omega | trivial | (intros; omega)) ?_)
  have e : (0 ≤ min (min (min c q) t) i ∧ max (max (max c q) t) i ≤ 100000) ↔ (⟨c, q, t, i⟩ : En).Ok := by unfold En.Ok; simp only; omega
  refine postF.mk' (fun _ => default) [] ?_
  simp -implicitDefEqProofs only [push_cast, false_implies, reduceCtorEq, Classical.not_not, Nat.reduceAdd, Nat.reduceSub, Nat.reduceMul, Nat.reduceLeDiff, Nat.reduceLT, Nat.reduceEqDiff, Nat.reduceBEq, Nat.reduceBNe, Int.reduceNeg, Int.reduceToNat, Bool.or_false, Bool.false_or, Bool.or_true, Bool.true_or, BEq.rfl, Bool.not_eq_true, Bool.not_eq_false, decide_eq_true_eq, not_true_eq_false, not_false_eq_true, ite_true, ite_false, List.append_nil, and_assoc, Nat.mul_zero, Nat.zero_mul, fs29, e]
def ent29 : Entry := spOf fs29 inv29
theorem e29 : EntryOk Try.prog 29 ent29 := entry_of ok29 inv29
@[push_cast] theorem ent29_app (us : List SV) (look : Look) (x : Nat → Xf.Loc) (k : Nat) : ent29 us look x k = spOf fs29 inv29 us look x k := rfl
def fuelN : Nat := 40000
/-- What Split comes to. -/
def spOk (p : Pl) (e : En) : Prop := p.Gr ∧ e.Ok ∧ 0 < p.xs.length
instance (p : Pl) (e : En) : Decidable (spOk p e) := by unfold spOk; infer_instance
def Pl.pn (p : Pl) : Pn := ⟨p.w.toNat, p.h.toNat, p.xs⟩
def Pl.rt (p : Pl) : Rt := ⟨0, 0, p.w, p.h⟩
def spS (p : Pl) (e : En) : List Pt × Int := if spOk p e then least p.pn e fuelN p.rt else ([], 0)
def spE (p : Pl) (e : En) : Int := if p.Gr then if e.Ok then 0 else 2 else 70
/-- A grey plane that is not empty, as the least tree takes it. -/
theorem Pl.Gr.pn {p : Pl} (h : p.Gr) (h0 : 0 < p.xs.length) : p.pn.grey ∧ inR p.pn p.rt ∧ p.rt.w * p.rt.h ≤ (fuelN : Int) ∧ (p.w.toNat : Int) = p.w ∧ (p.h.toNat : Int) = p.h := by
  obtain ⟨w, h', xs⟩ := p
  obtain ⟨⟨a1, a2, a3, a4, a5⟩, hl, ha⟩ : SidesOk w h' ∧ (xs.length : Int) = w * h' ∧ AllIn 0 255 xs := h
  simp only at h0
  have hw : w ≠ 0 := fun q => by rw [q, Int.zero_mul] at hl; omega
  have hh : h' ≠ 0 := fun q => by rw [q, Int.mul_zero] at hl; omega
  have e1 : ((w.toNat : Nat) : Int) = w := by omega
  have e2 : ((h'.toNat : Nat) : Int) = h' := by omega
  have hlen : xs.length = h'.toNat * w.toNat := by
    rw [← Int.ofNat_inj]
    show (xs.length : Int) = ((h'.toNat * w.toNat : Nat) : Int)
    rw [Int.natCast_mul, e1, e2, hl, Int.mul_comm]
  refine ⟨⟨show w.toNat ≤ 200 by omega, show h'.toNat ≤ 200 by omega, hlen, ha⟩, ⟨Int.le_refl _, Int.le_refl _, show 1 ≤ w by omega, show 1 ≤ h' by omega, show 0 + w ≤ (w.toNat : Int) by omega, show 0 + h' ≤ (h'.toNat : Int) by omega⟩, show w * h' ≤ ((40000 : Nat) : Int) by omega, e1, e2⟩
structure SpA where
  a : PlA
  e : En
def fs11 : FS where
  A := SpA
  args := fun a => [plV a.a.p a.a.L 0, enV a.e]
  mem := fun a => [some (.ro, a.a.L, .ints .i64 a.a.p.xs)]
  pre := fun a => a.a.p.xs.length ≤ 140737488355328
  res := fun a x => .tup [.sl 1 (lx (spOk a.a.p a.e) x 0) (esz 5 (spS a.a.p a.e).1.length) 0 (spS a.a.p a.e).1.length, .int .i64 (spS a.a.p a.e).2, .int .i64 (spE a.a.p a.e)]
  out := fun _ _ => []
  new := fun a x => [(lx (spOk a.a.p a.e) x 0, .recs 5 true [] ((spS a.a.p a.e).1.map Pt.rc))]
def inv11 : List SV → Look → Option (SpA × List Nat)
  | [v, .agg [.int .i64 c, .int .i64 q, .int .i64 t, .int .i64 i]], look => match getP look v with
    | some (a, g) => some (⟨a, ⟨c, q, t, i⟩⟩, g)
    | _ => none
  | _, _ => none
attribute [push_cast] inv11
theorem ok11 : FSOk Try.prog 11 fs11 := by
  refine ⟨⟨_, Try.func11, by kernel_rfl, by kernel_rfl⟩, fun a => ⟨by simp [fs11, push_cast, noMine, argOwn, Chunk.frArg], by simp [fs11, push_cast, outOk, Chunk.ext], fun x => .inl (by simp [fs11, push_cast, frNew, frOut, Chunk.fr])⟩, fun a hp => ?_⟩
  obtain ⟨⟨p, L⟩, e⟩ := a
  change p.xs.length ≤ 140737488355328 at hp
  have h0 : ¬ spOk p e → spS p e = ([], 0) := fun h => by unfold spS; rw [if_neg h]
  have hle := fun (h : spOk p e) => least_ok (h.1.pn h.2.2).1 h.2.1 fuelN p.rt (h.1.pn h.2.2).2.1 (h.1.pn h.2.2).2.2.1
  obtain ⟨w, h, xs⟩ := p
  obtain ⟨c, q, t, i⟩ := e
  change xs.length ≤ 140737488355328 at hp
  change Tri Try.prog 11 [plV ⟨w, h, xs⟩ L 0, .agg [.int .i64 c, .int .i64 q, .int .i64 t, .int .i64 i]] [some (.ro, L, .ints .i64 xs)] (postF fs11 ⟨⟨⟨w, h, xs⟩, L⟩, ⟨c, q, t, i⟩⟩)
  refine tri_evS (hyp (l := [(30, spOf (fs30 fuelN) inv30), (14, ent14), (29, ent29)]) (lp := [])
      ⟨entry_of (ok30 fuelN) inv30, e14, e29, trivial⟩ trivial) Try.func11 comp11 (rs := [.tmp 4, .tmp 5, .tmp 6]) (by rfl) Try.ntmps11 24 ?_
  by_cases hG : (⟨w, h, xs⟩ : Pl).Gr
  · by_cases hE : (⟨c, q, t, i⟩ : En).Ok
    · have eE : spE ⟨w, h, xs⟩ ⟨c, q, t, i⟩ = 0 := by unfold spE; rw [if_pos hG, if_pos hE]
      by_cases hn : 0 < xs.length
      · have hS : spOk ⟨w, h, xs⟩ ⟨c, q, t, i⟩ := ⟨hG, hE, hn⟩
        obtain ⟨g1, g2, g3, g4, g5⟩ := hG.pn hn
        have hle := hle hS
        have hsp : spS ⟨w, h, xs⟩ ⟨c, q, t, i⟩ = least ⟨w.toNat, h.toNat, xs⟩ ⟨c, q, t, i⟩ fuelN ⟨0, 0, w, h⟩ := by unfold spS; rw [if_pos hS]; rfl
        change 0 ≤ (least ⟨w.toNat, h.toNat, xs⟩ ⟨c, q, t, i⟩ fuelN ⟨0, 0, w, h⟩).2 ∧ (least ⟨w.toNat, h.toNat, xs⟩ ⟨c, q, t, i⟩ fuelN ⟨0, 0, w, h⟩).2 ≤ 20000000 ∧ 1 ≤ (least ⟨w.toNat, h.toNat, xs⟩ ⟨c, q, t, i⟩ fuelN ⟨0, 0, w, h⟩).1.length ∧ _ at hle
        have he5 := esz_pos (s := 5) (Nat.lt_of_lt_of_le Nat.zero_lt_one hle.2.2.1)
        have hn0 : ¬ xs.length = 0 := by omega
        change Pn.grey ⟨w.toNat, h.toNat, xs⟩ at g1
        change inR ⟨w.toNat, h.toNat, xs⟩ ⟨0, 0, w, h⟩ at g2
        change w * h ≤ (fuelN : Int) at g3
        simp only at g4 g5
        simp -implicitDefEqProofs only [push_cast, false_implies, reduceCtorEq, Classical.not_not, Nat.reduceAdd, Nat.reduceSub, Nat.reduceMul, Nat.reduceLeDiff, Nat.reduceLT, Nat.reduceEqDiff, Nat.reduceBEq, Nat.reduceBNe, Int.reduceNeg, Int.reduceToNat, Bool.or_false, Bool.false_or, Bool.or_true, Bool.true_or, BEq.rfl, Bool.not_eq_true, Bool.not_eq_false, decide_eq_true_eq, not_true_eq_false, not_false_eq_true, ite_true, ite_false, List.append_nil, and_assoc, Nat.mul_zero, Nat.zero_mul, ir11, fs14, fs12, fs29, fs30, plV, hG, hE, hp, hn0, g1, g2, g4, g5, enV]
        intro X
        refine ⟨fun h => absurd h (by omega), fun _ X1 => ⟨g3, ?_⟩⟩
        refine postF.mk' (locs [X1 7 20]) [some 0, some 20] ?_
        simp -implicitDefEqProofs only [push_cast, false_implies, reduceCtorEq, Classical.not_not, Nat.reduceAdd, Nat.reduceSub, Nat.reduceMul, Nat.reduceLeDiff, Nat.reduceLT, Nat.reduceEqDiff, Nat.reduceBEq, Nat.reduceBNe, Int.reduceNeg, Int.reduceToNat, Bool.or_false, Bool.false_or, Bool.or_true, Bool.true_or, BEq.rfl, Bool.not_eq_true, Bool.not_eq_false, decide_eq_true_eq, not_true_eq_false, not_false_eq_true, ite_true, ite_false, List.append_nil, and_assoc, Nat.mul_zero, Nat.zero_mul, fs11, hsp, eE, hS, he5, lx, if_true]
      · have hS : ¬ spOk ⟨w, h, xs⟩ ⟨c, q, t, i⟩ := fun H => hn H.2.2
        have hn0 : xs.length = 0 := by omega
        have h0 := h0 hS
        simp -implicitDefEqProofs only [push_cast, false_implies, reduceCtorEq, Classical.not_not, Nat.reduceAdd, Nat.reduceSub, Nat.reduceMul, Nat.reduceLeDiff, Nat.reduceLT, Nat.reduceEqDiff, Nat.reduceBEq, Nat.reduceBNe, Int.reduceNeg, Int.reduceToNat, Bool.or_false, Bool.false_or, Bool.or_true, Bool.true_or, BEq.rfl, Bool.not_eq_true, Bool.not_eq_false, decide_eq_true_eq, not_true_eq_false, not_false_eq_true, ite_true, ite_false, List.append_nil, and_assoc, Nat.mul_zero, Nat.zero_mul, ir11, fs14, fs12, fs29, fs30, plV, enV, hG, hE, hp, hn0]
        refine fun X => postF.mk' (fun _ => default) [some 0, none] ?_
        simp -implicitDefEqProofs only [push_cast, false_implies, reduceCtorEq, Classical.not_not, Nat.reduceAdd, Nat.reduceSub, Nat.reduceMul, Nat.reduceLeDiff, Nat.reduceLT, Nat.reduceEqDiff, Nat.reduceBEq, Nat.reduceBNe, Int.reduceNeg, Int.reduceToNat, Bool.or_false, Bool.false_or, Bool.or_true, Bool.true_or, BEq.rfl, Bool.not_eq_true, Bool.not_eq_false, decide_eq_true_eq, not_true_eq_false, not_false_eq_true, ite_true, ite_false, List.append_nil, and_assoc, Nat.mul_zero, Nat.zero_mul, fs11, h0, eE, hS, hn0, esz, lx, if_false, List.map_nil, List.length_nil]
    · have eE : spE ⟨w, h, xs⟩ ⟨c, q, t, i⟩ = 2 := by unfold spE; rw [if_pos hG, if_neg hE]
      have hS : ¬ spOk ⟨w, h, xs⟩ ⟨c, q, t, i⟩ := fun H => hE H.2.1
      have h0 := h0 hS
      simp -implicitDefEqProofs only [push_cast, false_implies, reduceCtorEq, Classical.not_not, Nat.reduceAdd, Nat.reduceSub, Nat.reduceMul, Nat.reduceLeDiff, Nat.reduceLT, Nat.reduceEqDiff, Nat.reduceBEq, Nat.reduceBNe, Int.reduceNeg, Int.reduceToNat, Bool.or_false, Bool.false_or, Bool.or_true, Bool.true_or, BEq.rfl, Bool.not_eq_true, Bool.not_eq_false, decide_eq_true_eq, not_true_eq_false, not_false_eq_true, ite_true, ite_false, List.append_nil, and_assoc, Nat.mul_zero, Nat.zero_mul, ir11, fs14, fs12, fs29, plV, enV, hG, hE, hp]
      refine fun X => postF.mk' (fun _ => default) [some 0, none] ?_
      simp -implicitDefEqProofs only [push_cast, false_implies, reduceCtorEq, Classical.not_not, Nat.reduceAdd, Nat.reduceSub, Nat.reduceMul, Nat.reduceLeDiff, Nat.reduceLT, Nat.reduceEqDiff, Nat.reduceBEq, Nat.reduceBNe, Int.reduceNeg, Int.reduceToNat, Bool.or_false, Bool.false_or, Bool.or_true, Bool.true_or, BEq.rfl, Bool.not_eq_true, Bool.not_eq_false, decide_eq_true_eq, not_true_eq_false, not_false_eq_true, ite_true, ite_false, List.append_nil, and_assoc, Nat.mul_zero, Nat.zero_mul, fs11, h0, eE, hS, esz, lx, if_false, List.map_nil, List.length_nil]
  · have eE : spE ⟨w, h, xs⟩ ⟨c, q, t, i⟩ = 70 := by unfold spE; rw [if_neg hG]
    have hS : ¬ spOk ⟨w, h, xs⟩ ⟨c, q, t, i⟩ := fun H => hG H.1
    have h0 := h0 hS
    simp -implicitDefEqProofs only [push_cast, false_implies, reduceCtorEq, Classical.not_not, Nat.reduceAdd, Nat.reduceSub, Nat.reduceMul, Nat.reduceLeDiff, Nat.reduceLT, Nat.reduceEqDiff, Nat.reduceBEq, Nat.reduceBNe, Int.reduceNeg, Int.reduceToNat, Bool.or_false, Bool.false_or, Bool.or_true, Bool.true_or, BEq.rfl, Bool.not_eq_true, Bool.not_eq_false, decide_eq_true_eq, not_true_eq_false, not_false_eq_true, ite_true, ite_false, List.append_nil, and_assoc, Nat.mul_zero, Nat.zero_mul, ir11, fs14, fs12, plV, enV, hG, hp]
    refine fun X => postF.mk' (fun _ => default) [some 0, none] ?_
    simp -implicitDefEqProofs only [push_cast, false_implies, reduceCtorEq, Classical.not_not, Nat.reduceAdd, Nat.reduceSub, Nat.reduceMul, Nat.reduceLeDiff, Nat.reduceLT, Nat.reduceEqDiff, Nat.reduceBEq, Nat.reduceBNe, Int.reduceNeg, Int.reduceToNat, Bool.or_false, Bool.false_or, Bool.or_true, Bool.true_or, BEq.rfl, Bool.not_eq_true, Bool.not_eq_false, decide_eq_true_eq, not_true_eq_false, not_false_eq_true, ite_true, ite_false, List.append_nil, and_assoc, Nat.mul_zero, Nat.zero_mul, fs11, h0, eE, hS, esz, lx, if_false, List.map_nil, List.length_nil]
def ent11 : Entry := spOf fs11 inv11
theorem e11 : EntryOk Try.prog 11 ent11 := entry_of ok11 inv11
@[push_cast] theorem ent11_app (us : List SV) (look : Look) (x : Nat → Xf.Loc) (k : Nat) : ent11 us look x k = spOf fs11 inv11 us look x k := rfl
end Go.Proofs.Ytbndfifoakmdnaa
