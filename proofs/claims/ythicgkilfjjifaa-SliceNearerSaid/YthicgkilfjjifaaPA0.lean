import Derived.Test.YthicgkilfjjifaaKc
import Derived.Test.YthicgkilfjjifaaProg
import Derived.Test.YthicgkilfjjifaaChecked
set_option linter.unusedVariables false
set_option linter.unusedSimpArgs false
set_option maxRecDepth 1000
namespace Go.Proofs.Ythicgkilfjjifaa
open Xf
def tab:Tab:=fun t => match t with
  | 2 => some ⟨1,8,[.int .i64 0],.int .i64,none⟩
  | 3 => some ⟨1,8,[.int .i64 0],.int .i64,none⟩
  | 4 => some ⟨1,1,[.bool false],.bool,none⟩
  | 5 => some ⟨1,1,[.int .u8 0],.int .u8,none⟩
  | 6 => some ⟨1,1,[.int .u8 0],.int .u8,none⟩
  | 7 => some ⟨4,24,[.int .i64 0,.int .i64 0,.bool false,.int .u8 0],.struct [(0,2),(1,3),(2,4),(3,6)],(some [true,true,false,true])⟩
  | 8 => some ⟨4,24,[.int .i64 0,.int .i64 0,.bool false,.int .u8 0],.struct [(0,2),(1,3),(2,4),(3,6)],(some [true,true,false,true])⟩
  | 9 => some ⟨1,16,[.val (.string ⟨#[]⟩)],.string,none⟩
  | 12 => some ⟨1,8,[.int .u64 0],.int .u64,none⟩
  | 13 => some ⟨2,24,[.val (.string ⟨#[]⟩),.int .u64 0],.struct [(0,9),(1,12)],none⟩
  | 14 => some ⟨2,24,[.val (.string ⟨#[]⟩),.int .u64 0],.struct [(0,9),(1,12)],none⟩
  | 15 => some ⟨1,8,[.val (.pointer none)],.pointer,none⟩
  | 16 => some ⟨1,8,[.val (.pointer none)],.pointer,none⟩
  | 17 => some ⟨1,8,[.val (.pointer none)],.pointer,none⟩
  | 18 => some ⟨1,8,[.val (.pointer none)],.struct [(0,17)],none⟩
  | 19 => some ⟨1,8,[.val (.pointer none)],.struct [(0,17)],none⟩
  | 21 => some ⟨1,4,[.int .i32 0],.int .i32,none⟩
  | 22 => some ⟨1,24,[nilSV],.slice 23,none⟩
  | 23 => some ⟨1,24,[nilSV],.slice 5,none⟩
  | 25 => some ⟨1,24,[nilSV],.slice 3,none⟩
  | 26 => some ⟨3,40,[.int .i64 0,.int .i64 0,nilSV],.struct [(0,3),(1,3),(2,25)],none⟩
  | 27 => some ⟨3,40,[.int .i64 0,.int .i64 0,nilSV],.struct [(0,3),(1,3),(2,25)],none⟩
  | 28 => some ⟨1,8,[.int .i64 0],.int .i64,none⟩
  | 46 => some ⟨1,8,[.val (.pointer none)],.pointer,none⟩
  | 48 => some ⟨1,8,[.val (.pointer none)],.pointer,none⟩
  | 51 => some ⟨1,24,[nilSV],.slice 4,none⟩
  | 52 => some ⟨1,24,[nilSV],.slice 113,none⟩
  | 53 => some ⟨2,32,[.int .i64 0,nilSV],.struct [(0,3),(1,25)],none⟩
  | 54 => some ⟨2,32,[.int .i64 0,nilSV],.struct [(0,3),(1,25)],none⟩
  | 55 => some ⟨9,168,[nilSV,nilSV,nilSV,.int .i64 0,nilSV,.int .i64 0,nilSV,nilSV,.int .i64 0],.struct [(0,25),(1,51),(2,25),(3,3),(4,52),(5,54),(7,25),(8,3)],none⟩
  | 56 => some ⟨9,168,[nilSV,nilSV,nilSV,.int .i64 0,nilSV,.int .i64 0,nilSV,nilSV,.int .i64 0],.struct [(0,25),(1,51),(2,25),(3,3),(4,52),(5,54),(7,25),(8,3)],none⟩
  | 62 => some ⟨1,8,[.val (.pointer none)],.pointer,none⟩
  | 65 => some ⟨1,8,[.val (.pointer none)],.pointer,none⟩
  | 68 => some ⟨1,8,[.val (.pointer none)],.pointer,none⟩
  | 69 => some ⟨1,8,[.val (.pointer none)],.pointer,none⟩
  | 70 => some ⟨3,24,[.val (.pointer none),.val (.pointer none),.int .i64 0],.struct [(0,69),(1,65),(2,28)],none⟩
  | 71 => some ⟨3,24,[.val (.pointer none),.val (.pointer none),.int .i64 0],.struct [(0,69),(1,65),(2,28)],none⟩
  | 73 => some ⟨1,8,[.int .u64 0],.int .u64,none⟩
  | 74 => some ⟨2,16,[.int .u64 0,.int .u64 0],.struct [(0,73),(1,73)],(some [true,true])⟩
  | 75 => some ⟨2,16,[.int .u64 0,.int .u64 0],.struct [(0,73),(1,73)],(some [true,true])⟩
  | 76 => some ⟨9,104,[.int .i64 0,nilSV,.int .u64 0,.int .u64 0,nilSV,.int .i64 0,.int .u64 0,.int .i64 0,.bool false],.struct [(0,54),(2,75),(4,23),(5,3),(6,73),(7,3),(8,4)],none⟩
  | 77 => some ⟨9,104,[.int .i64 0,nilSV,.int .u64 0,.int .u64 0,nilSV,.int .i64 0,.int .u64 0,.int .i64 0,.bool false],.struct [(0,54),(2,75),(4,23),(5,3),(6,73),(7,3),(8,4)],none⟩
  | 78 => some ⟨1,24,[nilSV],.slice 100,none⟩
  | 79 => some ⟨1,24,[nilSV],.slice 126,none⟩
  | 80 => some ⟨8,160,[.int .i64 0,.int .i64 0,nilSV,nilSV,nilSV,nilSV,nilSV,nilSV],.struct [(0,3),(1,3),(2,78),(3,79),(4,25),(5,51),(6,25),(7,51)],none⟩
  | 81 => some ⟨8,160,[.int .i64 0,.int .i64 0,nilSV,nilSV,nilSV,nilSV,nilSV,nilSV],.struct [(0,3),(1,3),(2,78),(3,79),(4,25),(5,51),(6,25),(7,51)],none⟩
  | 85 => some ⟨1,8,[.val (.pointer none)],.pointer,none⟩
  | 99 => some ⟨6,48,[.int .i64 0,.int .i64 0,.int .i64 0,.int .i64 0,.int .i64 0,.int .i64 0],.struct [(0,3),(1,3),(2,3),(3,3),(4,3),(5,3)],(some [true,true,true,true,true,true])⟩
  | 100 => some ⟨6,48,[.int .i64 0,.int .i64 0,.int .i64 0,.int .i64 0,.int .i64 0,.int .i64 0],.struct [(0,3),(1,3),(2,3),(3,3),(4,3),(5,3)],(some [true,true,true,true,true,true])⟩
  | 102 => some ⟨32,256,[.int .i64 0,.int .i64 0,.int .i64 0,.int .i64 0,.int .i64 0,.int .i64 0,.int .i64 0,.int .i64 0,.int .i64 0,.int .i64 0,.int .i64 0,.int .i64 0,.int .i64 0,.int .i64 0,.int .i64 0,.int .i64 0,.int .i64 0,.int .i64 0,.int .i64 0,.int .i64 0,.int .i64 0,.int .i64 0,.int .i64 0,.int .i64 0,.int .i64 0,.int .i64 0,.int .i64 0,.int .i64 0,.int .i64 0,.int .i64 0,.int .i64 0,.int .i64 0],.array 32 3,(some [true,true,true,true,true,true,true,true,true,true,true,true,true,true,true,true,true,true,true,true,true,true,true,true,true,true,true,true,true,true,true,true])⟩
  | 103 => some ⟨32,256,[.int .i64 0,.int .i64 0,.int .i64 0,.int .i64 0,.int .i64 0,.int .i64 0,.int .i64 0,.int .i64 0,.int .i64 0,.int .i64 0,.int .i64 0,.int .i64 0,.int .i64 0,.int .i64 0,.int .i64 0,.int .i64 0,.int .i64 0,.int .i64 0,.int .i64 0,.int .i64 0,.int .i64 0,.int .i64 0,.int .i64 0,.int .i64 0,.int .i64 0,.int .i64 0,.int .i64 0,.int .i64 0,.int .i64 0,.int .i64 0,.int .i64 0,.int .i64 0],.array 32 3,(some [true,true,true,true,true,true,true,true,true,true,true,true,true,true,true,true,true,true,true,true,true,true,true,true,true,true,true,true,true,true,true,true])⟩
  | 104 => some ⟨36,304,[.int .i64 0,nilSV,.int .i64 0,.int .i64 0,.int .i64 0,.int .i64 0,.int .i64 0,.int .i64 0,.int .i64 0,.int .i64 0,.int .i64 0,.int .i64 0,.int .i64 0,.int .i64 0,.int .i64 0,.int .i64 0,.int .i64 0,.int .i64 0,.int .i64 0,.int .i64 0,.int .i64 0,.int .i64 0,.int .i64 0,.int .i64 0,.int .i64 0,.int .i64 0,.int .i64 0,.int .i64 0,.int .i64 0,.int .i64 0,.int .i64 0,.int .i64 0,.int .i64 0,.int .i64 0,.int .u64 0,.int .u64 0],.struct [(0,54),(2,103),(34,73),(35,73)],none⟩
  | 105 => some ⟨36,304,[.int .i64 0,nilSV,.int .i64 0,.int .i64 0,.int .i64 0,.int .i64 0,.int .i64 0,.int .i64 0,.int .i64 0,.int .i64 0,.int .i64 0,.int .i64 0,.int .i64 0,.int .i64 0,.int .i64 0,.int .i64 0,.int .i64 0,.int .i64 0,.int .i64 0,.int .i64 0,.int .i64 0,.int .i64 0,.int .i64 0,.int .i64 0,.int .i64 0,.int .i64 0,.int .i64 0,.int .i64 0,.int .i64 0,.int .i64 0,.int .i64 0,.int .i64 0,.int .i64 0,.int .i64 0,.int .u64 0,.int .u64 0],.struct [(0,54),(2,103),(34,73),(35,73)],none⟩
  | 107 => some ⟨42,360,[.int .i64 0,nilSV,.int .i64 0,.int .i64 0,.int .i64 0,.int .i64 0,.int .i64 0,.int .i64 0,.int .i64 0,.int .i64 0,.int .i64 0,.int .i64 0,.int .i64 0,.int .i64 0,.int .i64 0,.int .i64 0,.int .i64 0,.int .i64 0,.int .i64 0,.int .i64 0,.int .i64 0,.int .i64 0,.int .i64 0,.int .i64 0,.int .i64 0,.int .i64 0,.int .i64 0,.int .i64 0,.int .i64 0,.int .i64 0,.int .i64 0,.int .i64 0,.int .i64 0,.int .i64 0,.int .u64 0,.int .u64 0,nilSV,.int .i64 0,.int .u64 0,.int .i64 0,.bool false,.bool false],.struct [(0,105),(36,23),(37,3),(38,73),(39,3),(40,4),(41,4)],none⟩
  | 108 => some ⟨42,360,[.int .i64 0,nilSV,.int .i64 0,.int .i64 0,.int .i64 0,.int .i64 0,.int .i64 0,.int .i64 0,.int .i64 0,.int .i64 0,.int .i64 0,.int .i64 0,.int .i64 0,.int .i64 0,.int .i64 0,.int .i64 0,.int .i64 0,.int .i64 0,.int .i64 0,.int .i64 0,.int .i64 0,.int .i64 0,.int .i64 0,.int .i64 0,.int .i64 0,.int .i64 0,.int .i64 0,.int .i64 0,.int .i64 0,.int .i64 0,.int .i64 0,.int .i64 0,.int .i64 0,.int .i64 0,.int .u64 0,.int .u64 0,nilSV,.int .i64 0,.int .u64 0,.int .i64 0,.bool false,.bool false],.struct [(0,105),(36,23),(37,3),(38,73),(39,3),(40,4),(41,4)],none⟩
  | 111 => some ⟨1,8,[.val (.pointer none)],.pointer,none⟩
  | 112 => some ⟨4,48,[nilSV,.int .i64 0,.int .i64 0,.bool false],.struct [(0,25),(1,3),(2,3),(3,4)],none⟩
  | 113 => some ⟨4,48,[nilSV,.int .i64 0,.int .i64 0,.bool false],.struct [(0,25),(1,3),(2,3),(3,4)],none⟩
  | 125 => some ⟨8,64,[.int .i64 0,.int .i64 0,.int .i64 0,.int .i64 0,.int .i64 0,.int .i64 0,.int .i64 0,.int .i64 0],.struct [(0,3),(1,3),(2,3),(3,3),(4,3),(5,3),(6,3),(7,3)],(some [true,true,true,true,true,true,true,true])⟩
  | 126 => some ⟨8,64,[.int .i64 0,.int .i64 0,.int .i64 0,.int .i64 0,.int .i64 0,.int .i64 0,.int .i64 0,.int .i64 0],.struct [(0,3),(1,3),(2,3),(3,3),(4,3),(5,3),(6,3),(7,3)],(some [true,true,true,true,true,true,true,true])⟩
  | 131 => some ⟨1,8,[.int .u64 0],.int .u64,none⟩
  | 132 => some ⟨38,336,[.int .i64 0,nilSV,.int .i64 0,.int .i64 0,.int .i64 0,.int .i64 0,.int .i64 0,.int .i64 0,.int .i64 0,.int .i64 0,.int .i64 0,.int .i64 0,.int .i64 0,.int .i64 0,.int .i64 0,.int .i64 0,.int .i64 0,.int .i64 0,.int .i64 0,.int .i64 0,.int .i64 0,.int .i64 0,.int .i64 0,.int .i64 0,.int .i64 0,.int .i64 0,.int .i64 0,.int .i64 0,.int .i64 0,.int .i64 0,.int .i64 0,.int .i64 0,.int .i64 0,.int .i64 0,.int .u64 0,.int .u64 0,nilSV,.bool false],.struct [(0,105),(36,23),(37,4)],none⟩
  | 133 => some ⟨38,336,[.int .i64 0,nilSV,.int .i64 0,.int .i64 0,.int .i64 0,.int .i64 0,.int .i64 0,.int .i64 0,.int .i64 0,.int .i64 0,.int .i64 0,.int .i64 0,.int .i64 0,.int .i64 0,.int .i64 0,.int .i64 0,.int .i64 0,.int .i64 0,.int .i64 0,.int .i64 0,.int .i64 0,.int .i64 0,.int .i64 0,.int .i64 0,.int .i64 0,.int .i64 0,.int .i64 0,.int .i64 0,.int .i64 0,.int .i64 0,.int .i64 0,.int .i64 0,.int .i64 0,.int .i64 0,.int .u64 0,.int .u64 0,nilSV,.bool false],.struct [(0,105),(36,23),(37,4)],none⟩
  | 134 => some ⟨1,24,[nilSV],.slice 136,none⟩
  | 135 => some ⟨9,72,[.int .i64 0,.int .i64 0,.int .i64 0,.int .i64 0,.int .i64 0,.int .i64 0,.int .i64 0,.int .i64 0,.int .i64 0],.struct [(0,100),(6,3),(7,3),(8,3)],none⟩
  | 136 => some ⟨9,72,[.int .i64 0,.int .i64 0,.int .i64 0,.int .i64 0,.int .i64 0,.int .i64 0,.int .i64 0,.int .i64 0,.int .i64 0],.struct [(0,100),(6,3),(7,3),(8,3)],none⟩
  | 137 => some ⟨1,8,[.val (.pointer none)],.pointer,none⟩
  | 140 => some ⟨1,24,[nilSV],.slice 142,none⟩
  | 142 => some ⟨2,16,[.int .i64 0,.int .i64 0],.array 2 3,(some [true,true])⟩
  | 148 => some ⟨1,8,[.val (.pointer none)],.pointer,none⟩
  | 153 => some ⟨1,4,[.int .u32 0],.int .u32,none⟩
  | 158 => some ⟨5,72,[.int .i64 0,nilSV,.int .u64 0,.int .u64 0,nilSV],.struct [(0,54),(2,75),(4,23)],none⟩
  | 159 => some ⟨5,72,[.int .i64 0,nilSV,.int .u64 0,.int .u64 0,nilSV],.struct [(0,54),(2,75),(4,23)],none⟩
  | 163 => some ⟨4,40,[.val (.pointer none),.val (.pointer none),.val (.pointer none),.val (.string ⟨#[]⟩)],.struct [(0,17),(1,17),(2,17),(3,9)],none⟩
  | 164 => some ⟨4,40,[.val (.pointer none),.val (.pointer none),.val (.pointer none),.val (.string ⟨#[]⟩)],.struct [(0,17),(1,17),(2,17),(3,9)],none⟩
  | 165 => some ⟨0,0,[],.array 0 16,none⟩
  | 166 => some ⟨0,0,[],.struct [(0,165)],none⟩
  | 167 => some ⟨0,0,[],.struct [(0,165)],none⟩
  | 169 => some ⟨1,1,[.int .u8 0],.int .u8,none⟩
  | 170 => some ⟨1,1,[.int .u8 0],.int .u8,none⟩
  | 172 => some ⟨1,8,[.val (.pointer none)],.pointer,none⟩
  | 173 => some ⟨1,4,[.int .i32 0],.int .i32,none⟩
  | 174 => some ⟨1,4,[.int .i32 0],.int .i32,none⟩
  | 175 => some ⟨11,48,[.int .u64 0,.int .u64 0,.int .u32 0,.int .u8 0,.int .u8 0,.int .u8 0,.int .u8 0,.val .nilFunc,.val (.pointer none),.int .i32 0,.int .i32 0],.struct [(0,12),(1,12),(2,153),(3,169),(4,5),(5,5),(6,170),(7,171),(8,172),(9,173),(10,174)],none⟩
  | 176 => some ⟨11,48,[.int .u64 0,.int .u64 0,.int .u32 0,.int .u8 0,.int .u8 0,.int .u8 0,.int .u8 0,.val .nilFunc,.val (.pointer none),.int .i32 0,.int .i32 0],.struct [(0,12),(1,12),(2,153),(3,169),(4,5),(5,5),(6,170),(7,171),(8,172),(9,173),(10,174)],none⟩
  | _ => none
theorem tt2:TtOk Try.prog 2 ⟨1,8,[.int .i64 0],.int .i64,none⟩:=TtOk.of (z:=.int .i64 0) (by kernel_rfl) (by kernel_rfl) (by simp [Dens,Den,nilSV,nilLoc0,Value.cells]) (by simp [TT.agg,Value.cells]) Try.underlying2 (by first | exact ⟨_,rfl,rfl⟩ | rfl | exact ⟨_,rfl⟩) (by first | rfl | kernel_rfl) rfl
theorem tt3:TtOk Try.prog 3 ⟨1,8,[.int .i64 0],.int .i64,none⟩:=TtOk.of (z:=.int .i64 0) (by kernel_rfl) (by kernel_rfl) (by simp [Dens,Den,nilSV,nilLoc0,Value.cells]) (by simp [TT.agg,Value.cells]) Try.underlying3 (by first | exact ⟨_,rfl,rfl⟩ | rfl | exact ⟨_,rfl⟩) (by first | rfl | kernel_rfl) rfl
theorem tt4:TtOk Try.prog 4 ⟨1,1,[.bool false],.bool,none⟩:=TtOk.of (z:=.bool false) (by kernel_rfl) (by kernel_rfl) (by simp [Dens,Den,nilSV,nilLoc0,Value.cells]) (by simp [TT.agg,Value.cells]) Try.underlying4 (by first | exact ⟨_,rfl,rfl⟩ | rfl | exact ⟨_,rfl⟩) (by first | rfl | kernel_rfl) rfl
theorem tt5:TtOk Try.prog 5 ⟨1,1,[.int .u8 0],.int .u8,none⟩:=TtOk.of (z:=.int .u8 0) (by kernel_rfl) (by kernel_rfl) (by simp [Dens,Den,nilSV,nilLoc0,Value.cells]) (by simp [TT.agg,Value.cells]) Try.underlying5 (by first | exact ⟨_,rfl,rfl⟩ | rfl | exact ⟨_,rfl⟩) (by first | rfl | kernel_rfl) rfl
theorem tt6:TtOk Try.prog 6 ⟨1,1,[.int .u8 0],.int .u8,none⟩:=TtOk.of (z:=.int .u8 0) (by kernel_rfl) (by kernel_rfl) (by simp [Dens,Den,nilSV,nilLoc0,Value.cells]) (by simp [TT.agg,Value.cells]) Try.underlying6 (by first | exact ⟨_,rfl,rfl⟩ | rfl | exact ⟨_,rfl⟩) (by first | rfl | kernel_rfl) rfl
theorem tt7:TtOk Try.prog 7 ⟨4,24,[.int .i64 0,.int .i64 0,.bool false,.int .u8 0],.struct [(0,2),(1,3),(2,4),(3,6)],(some [true,true,false,true])⟩:=TtOk.of (z:=.agg #[.int .i64 0,.int .i64 0,.bool false,.int .u8 0]) (by kernel_rfl) (by kernel_rfl) (by simp [Dens,Den,nilSV,nilLoc0,Value.cells]) (by simp [TT.agg,Value.cells]) Try.underlying7 (by first | exact ⟨_,rfl,rfl⟩ | rfl | exact ⟨_,rfl⟩) (by first | rfl | kernel_rfl) rfl
theorem tt8:TtOk Try.prog 8 ⟨4,24,[.int .i64 0,.int .i64 0,.bool false,.int .u8 0],.struct [(0,2),(1,3),(2,4),(3,6)],(some [true,true,false,true])⟩:=TtOk.of (z:=.agg #[.int .i64 0,.int .i64 0,.bool false,.int .u8 0]) (by kernel_rfl) (by kernel_rfl) (by simp [Dens,Den,nilSV,nilLoc0,Value.cells]) (by simp [TT.agg,Value.cells]) Try.underlying8 (by first | exact ⟨_,rfl,rfl⟩ | rfl | exact ⟨_,rfl⟩) (by first | rfl | kernel_rfl) rfl
theorem tt9:TtOk Try.prog 9 ⟨1,16,[.val (.string ⟨#[]⟩)],.string,none⟩:=TtOk.of (z:=.string ⟨#[]⟩) (by kernel_rfl) (by kernel_rfl) (by simp [Dens,Den,nilSV,nilLoc0,Value.cells]) (by simp [TT.agg,Value.cells]) Try.underlying9 (by first | exact ⟨_,rfl,rfl⟩ | rfl | exact ⟨_,rfl⟩) (by first | rfl | kernel_rfl) rfl
theorem tt12:TtOk Try.prog 12 ⟨1,8,[.int .u64 0],.int .u64,none⟩:=TtOk.of (z:=.int .u64 0) (by kernel_rfl) (by kernel_rfl) (by simp [Dens,Den,nilSV,nilLoc0,Value.cells]) (by simp [TT.agg,Value.cells]) Try.underlying12 (by first | exact ⟨_,rfl,rfl⟩ | rfl | exact ⟨_,rfl⟩) (by first | rfl | kernel_rfl) rfl
theorem tt13:TtOk Try.prog 13 ⟨2,24,[.val (.string ⟨#[]⟩),.int .u64 0],.struct [(0,9),(1,12)],none⟩:=TtOk.of (z:=.agg #[.string ⟨#[]⟩,.int .u64 0]) (by kernel_rfl) (by kernel_rfl) (by simp [Dens,Den,nilSV,nilLoc0,Value.cells]) (by simp [TT.agg,Value.cells]) Try.underlying13 (by first | exact ⟨_,rfl,rfl⟩ | rfl | exact ⟨_,rfl⟩) (by first | rfl | kernel_rfl) rfl
theorem tt14:TtOk Try.prog 14 ⟨2,24,[.val (.string ⟨#[]⟩),.int .u64 0],.struct [(0,9),(1,12)],none⟩:=TtOk.of (z:=.agg #[.string ⟨#[]⟩,.int .u64 0]) (by kernel_rfl) (by kernel_rfl) (by simp [Dens,Den,nilSV,nilLoc0,Value.cells]) (by simp [TT.agg,Value.cells]) Try.underlying14 (by first | exact ⟨_,rfl,rfl⟩ | rfl | exact ⟨_,rfl⟩) (by first | rfl | kernel_rfl) rfl
theorem tt15:TtOk Try.prog 15 ⟨1,8,[.val (.pointer none)],.pointer,none⟩:=TtOk.of (z:=.pointer none) (by kernel_rfl) (by kernel_rfl) (by simp [Dens,Den,nilSV,nilLoc0,Value.cells]) (by simp [TT.agg,Value.cells]) Try.underlying15 (by first | exact ⟨_,rfl,rfl⟩ | rfl | exact ⟨_,rfl⟩) (by first | rfl | kernel_rfl) rfl
theorem tt16:TtOk Try.prog 16 ⟨1,8,[.val (.pointer none)],.pointer,none⟩:=TtOk.of (z:=.pointer none) (by kernel_rfl) (by kernel_rfl) (by simp [Dens,Den,nilSV,nilLoc0,Value.cells]) (by simp [TT.agg,Value.cells]) Try.underlying16 (by first | exact ⟨_,rfl,rfl⟩ | rfl | exact ⟨_,rfl⟩) (by first | rfl | kernel_rfl) rfl
theorem tt17:TtOk Try.prog 17 ⟨1,8,[.val (.pointer none)],.pointer,none⟩:=TtOk.of (z:=.pointer none) (by kernel_rfl) (by kernel_rfl) (by simp [Dens,Den,nilSV,nilLoc0,Value.cells]) (by simp [TT.agg,Value.cells]) Try.underlying17 (by first | exact ⟨_,rfl,rfl⟩ | rfl | exact ⟨_,rfl⟩) (by first | rfl | kernel_rfl) rfl
theorem tt18:TtOk Try.prog 18 ⟨1,8,[.val (.pointer none)],.struct [(0,17)],none⟩:=TtOk.of (z:=.agg #[.pointer none]) (by kernel_rfl) (by kernel_rfl) (by simp [Dens,Den,nilSV,nilLoc0,Value.cells]) (by simp [TT.agg,Value.cells]) Try.underlying18 (by first | exact ⟨_,rfl,rfl⟩ | rfl | exact ⟨_,rfl⟩) (by first | rfl | kernel_rfl) rfl
theorem tt19:TtOk Try.prog 19 ⟨1,8,[.val (.pointer none)],.struct [(0,17)],none⟩:=TtOk.of (z:=.agg #[.pointer none]) (by kernel_rfl) (by kernel_rfl) (by simp [Dens,Den,nilSV,nilLoc0,Value.cells]) (by simp [TT.agg,Value.cells]) Try.underlying19 (by first | exact ⟨_,rfl,rfl⟩ | rfl | exact ⟨_,rfl⟩) (by first | rfl | kernel_rfl) rfl
theorem tt21:TtOk Try.prog 21 ⟨1,4,[.int .i32 0],.int .i32,none⟩:=TtOk.of (z:=.int .i32 0) (by kernel_rfl) (by kernel_rfl) (by simp [Dens,Den,nilSV,nilLoc0,Value.cells]) (by simp [TT.agg,Value.cells]) Try.underlying21 (by first | exact ⟨_,rfl,rfl⟩ | rfl | exact ⟨_,rfl⟩) (by first | rfl | kernel_rfl) rfl
theorem tt22:TtOk Try.prog 22 ⟨1,24,[nilSV],.slice 23,none⟩:=TtOk.of (z:=.slice none 0 0) (by kernel_rfl) (by kernel_rfl) (by simp [Dens,Den,nilSV,nilLoc0,Value.cells]) (by simp [TT.agg,Value.cells]) Try.underlying22 (by first | exact ⟨_,rfl,rfl⟩ | rfl | exact ⟨_,rfl⟩) (by first | rfl | kernel_rfl) rfl
theorem tt23:TtOk Try.prog 23 ⟨1,24,[nilSV],.slice 5,none⟩:=TtOk.of (z:=.slice none 0 0) (by kernel_rfl) (by kernel_rfl) (by simp [Dens,Den,nilSV,nilLoc0,Value.cells]) (by simp [TT.agg,Value.cells]) Try.underlying23 (by first | exact ⟨_,rfl,rfl⟩ | rfl | exact ⟨_,rfl⟩) (by first | rfl | kernel_rfl) rfl
theorem tt25:TtOk Try.prog 25 ⟨1,24,[nilSV],.slice 3,none⟩:=TtOk.of (z:=.slice none 0 0) (by kernel_rfl) (by kernel_rfl) (by simp [Dens,Den,nilSV,nilLoc0,Value.cells]) (by simp [TT.agg,Value.cells]) Try.underlying25 (by first | exact ⟨_,rfl,rfl⟩ | rfl | exact ⟨_,rfl⟩) (by first | rfl | kernel_rfl) rfl
theorem tt26:TtOk Try.prog 26 ⟨3,40,[.int .i64 0,.int .i64 0,nilSV],.struct [(0,3),(1,3),(2,25)],none⟩:=TtOk.of (z:=.agg #[.int .i64 0,.int .i64 0,.slice none 0 0]) (by kernel_rfl) (by kernel_rfl) (by simp [Dens,Den,nilSV,nilLoc0,Value.cells]) (by simp [TT.agg,Value.cells]) Try.underlying26 (by first | exact ⟨_,rfl,rfl⟩ | rfl | exact ⟨_,rfl⟩) (by first | rfl | kernel_rfl) rfl
theorem tt27:TtOk Try.prog 27 ⟨3,40,[.int .i64 0,.int .i64 0,nilSV],.struct [(0,3),(1,3),(2,25)],none⟩:=TtOk.of (z:=.agg #[.int .i64 0,.int .i64 0,.slice none 0 0]) (by kernel_rfl) (by kernel_rfl) (by simp [Dens,Den,nilSV,nilLoc0,Value.cells]) (by simp [TT.agg,Value.cells]) Try.underlying27 (by first | exact ⟨_,rfl,rfl⟩ | rfl | exact ⟨_,rfl⟩) (by first | rfl | kernel_rfl) rfl
theorem tt28:TtOk Try.prog 28 ⟨1,8,[.int .i64 0],.int .i64,none⟩:=TtOk.of (z:=.int .i64 0) (by kernel_rfl) (by kernel_rfl) (by simp [Dens,Den,nilSV,nilLoc0,Value.cells]) (by simp [TT.agg,Value.cells]) Try.underlying28 (by first | exact ⟨_,rfl,rfl⟩ | rfl | exact ⟨_,rfl⟩) (by first | rfl | kernel_rfl) rfl
theorem tt46:TtOk Try.prog 46 ⟨1,8,[.val (.pointer none)],.pointer,none⟩:=TtOk.of (z:=.pointer none) (by kernel_rfl) (by kernel_rfl) (by simp [Dens,Den,nilSV,nilLoc0,Value.cells]) (by simp [TT.agg,Value.cells]) Try.underlying46 (by first | exact ⟨_,rfl,rfl⟩ | rfl | exact ⟨_,rfl⟩) (by first | rfl | kernel_rfl) rfl
theorem tt48:TtOk Try.prog 48 ⟨1,8,[.val (.pointer none)],.pointer,none⟩:=TtOk.of (z:=.pointer none) (by kernel_rfl) (by kernel_rfl) (by simp [Dens,Den,nilSV,nilLoc0,Value.cells]) (by simp [TT.agg,Value.cells]) Try.underlying48 (by first | exact ⟨_,rfl,rfl⟩ | rfl | exact ⟨_,rfl⟩) (by first | rfl | kernel_rfl) rfl
theorem tt51:TtOk Try.prog 51 ⟨1,24,[nilSV],.slice 4,none⟩:=TtOk.of (z:=.slice none 0 0) (by kernel_rfl) (by kernel_rfl) (by simp [Dens,Den,nilSV,nilLoc0,Value.cells]) (by simp [TT.agg,Value.cells]) Try.underlying51 (by first | exact ⟨_,rfl,rfl⟩ | rfl | exact ⟨_,rfl⟩) (by first | rfl | kernel_rfl) rfl
theorem tt52:TtOk Try.prog 52 ⟨1,24,[nilSV],.slice 113,none⟩:=TtOk.of (z:=.slice none 0 0) (by kernel_rfl) (by kernel_rfl) (by simp [Dens,Den,nilSV,nilLoc0,Value.cells]) (by simp [TT.agg,Value.cells]) Try.underlying52 (by first | exact ⟨_,rfl,rfl⟩ | rfl | exact ⟨_,rfl⟩) (by first | rfl | kernel_rfl) rfl
theorem tt53:TtOk Try.prog 53 ⟨2,32,[.int .i64 0,nilSV],.struct [(0,3),(1,25)],none⟩:=TtOk.of (z:=.agg #[.int .i64 0,.slice none 0 0]) (by kernel_rfl) (by kernel_rfl) (by simp [Dens,Den,nilSV,nilLoc0,Value.cells]) (by simp [TT.agg,Value.cells]) Try.underlying53 (by first | exact ⟨_,rfl,rfl⟩ | rfl | exact ⟨_,rfl⟩) (by first | rfl | kernel_rfl) rfl
theorem tt54:TtOk Try.prog 54 ⟨2,32,[.int .i64 0,nilSV],.struct [(0,3),(1,25)],none⟩:=TtOk.of (z:=.agg #[.int .i64 0,.slice none 0 0]) (by kernel_rfl) (by kernel_rfl) (by simp [Dens,Den,nilSV,nilLoc0,Value.cells]) (by simp [TT.agg,Value.cells]) Try.underlying54 (by first | exact ⟨_,rfl,rfl⟩ | rfl | exact ⟨_,rfl⟩) (by first | rfl | kernel_rfl) rfl
theorem tt55:TtOk Try.prog 55 ⟨9,168,[nilSV,nilSV,nilSV,.int .i64 0,nilSV,.int .i64 0,nilSV,nilSV,.int .i64 0],.struct [(0,25),(1,51),(2,25),(3,3),(4,52),(5,54),(7,25),(8,3)],none⟩:=TtOk.of (z:=.agg #[.slice none 0 0,.slice none 0 0,.slice none 0 0,.int .i64 0,.slice none 0 0,.int .i64 0,.slice none 0 0,.slice none 0 0,.int .i64 0]) (by kernel_rfl) (by kernel_rfl) (by simp [Dens,Den,nilSV,nilLoc0,Value.cells]) (by simp [TT.agg,Value.cells]) Try.underlying55 (by first | exact ⟨_,rfl,rfl⟩ | rfl | exact ⟨_,rfl⟩) (by first | rfl | kernel_rfl) rfl
theorem tt56:TtOk Try.prog 56 ⟨9,168,[nilSV,nilSV,nilSV,.int .i64 0,nilSV,.int .i64 0,nilSV,nilSV,.int .i64 0],.struct [(0,25),(1,51),(2,25),(3,3),(4,52),(5,54),(7,25),(8,3)],none⟩:=TtOk.of (z:=.agg #[.slice none 0 0,.slice none 0 0,.slice none 0 0,.int .i64 0,.slice none 0 0,.int .i64 0,.slice none 0 0,.slice none 0 0,.int .i64 0]) (by kernel_rfl) (by kernel_rfl) (by simp [Dens,Den,nilSV,nilLoc0,Value.cells]) (by simp [TT.agg,Value.cells]) Try.underlying56 (by first | exact ⟨_,rfl,rfl⟩ | rfl | exact ⟨_,rfl⟩) (by first | rfl | kernel_rfl) rfl
theorem tt62:TtOk Try.prog 62 ⟨1,8,[.val (.pointer none)],.pointer,none⟩:=TtOk.of (z:=.pointer none) (by kernel_rfl) (by kernel_rfl) (by simp [Dens,Den,nilSV,nilLoc0,Value.cells]) (by simp [TT.agg,Value.cells]) Try.underlying62 (by first | exact ⟨_,rfl,rfl⟩ | rfl | exact ⟨_,rfl⟩) (by first | rfl | kernel_rfl) rfl
theorem tt65:TtOk Try.prog 65 ⟨1,8,[.val (.pointer none)],.pointer,none⟩:=TtOk.of (z:=.pointer none) (by kernel_rfl) (by kernel_rfl) (by simp [Dens,Den,nilSV,nilLoc0,Value.cells]) (by simp [TT.agg,Value.cells]) Try.underlying65 (by first | exact ⟨_,rfl,rfl⟩ | rfl | exact ⟨_,rfl⟩) (by first | rfl | kernel_rfl) rfl
theorem tt68:TtOk Try.prog 68 ⟨1,8,[.val (.pointer none)],.pointer,none⟩:=TtOk.of (z:=.pointer none) (by kernel_rfl) (by kernel_rfl) (by simp [Dens,Den,nilSV,nilLoc0,Value.cells]) (by simp [TT.agg,Value.cells]) Try.underlying68 (by first | exact ⟨_,rfl,rfl⟩ | rfl | exact ⟨_,rfl⟩) (by first | rfl | kernel_rfl) rfl
theorem tt69:TtOk Try.prog 69 ⟨1,8,[.val (.pointer none)],.pointer,none⟩:=TtOk.of (z:=.pointer none) (by kernel_rfl) (by kernel_rfl) (by simp [Dens,Den,nilSV,nilLoc0,Value.cells]) (by simp [TT.agg,Value.cells]) Try.underlying69 (by first | exact ⟨_,rfl,rfl⟩ | rfl | exact ⟨_,rfl⟩) (by first | rfl | kernel_rfl) rfl
theorem tt70:TtOk Try.prog 70 ⟨3,24,[.val (.pointer none),.val (.pointer none),.int .i64 0],.struct [(0,69),(1,65),(2,28)],none⟩:=TtOk.of (z:=.agg #[.pointer none,.pointer none,.int .i64 0]) (by kernel_rfl) (by kernel_rfl) (by simp [Dens,Den,nilSV,nilLoc0,Value.cells]) (by simp [TT.agg,Value.cells]) Try.underlying70 (by first | exact ⟨_,rfl,rfl⟩ | rfl | exact ⟨_,rfl⟩) (by first | rfl | kernel_rfl) rfl
theorem tt71:TtOk Try.prog 71 ⟨3,24,[.val (.pointer none),.val (.pointer none),.int .i64 0],.struct [(0,69),(1,65),(2,28)],none⟩:=TtOk.of (z:=.agg #[.pointer none,.pointer none,.int .i64 0]) (by kernel_rfl) (by kernel_rfl) (by simp [Dens,Den,nilSV,nilLoc0,Value.cells]) (by simp [TT.agg,Value.cells]) Try.underlying71 (by first | exact ⟨_,rfl,rfl⟩ | rfl | exact ⟨_,rfl⟩) (by first | rfl | kernel_rfl) rfl
theorem tt73:TtOk Try.prog 73 ⟨1,8,[.int .u64 0],.int .u64,none⟩:=TtOk.of (z:=.int .u64 0) (by kernel_rfl) (by kernel_rfl) (by simp [Dens,Den,nilSV,nilLoc0,Value.cells]) (by simp [TT.agg,Value.cells]) Try.underlying73 (by first | exact ⟨_,rfl,rfl⟩ | rfl | exact ⟨_,rfl⟩) (by first | rfl | kernel_rfl) rfl
theorem tt74:TtOk Try.prog 74 ⟨2,16,[.int .u64 0,.int .u64 0],.struct [(0,73),(1,73)],(some [true,true])⟩:=TtOk.of (z:=.agg #[.int .u64 0,.int .u64 0]) (by kernel_rfl) (by kernel_rfl) (by simp [Dens,Den,nilSV,nilLoc0,Value.cells]) (by simp [TT.agg,Value.cells]) Try.underlying74 (by first | exact ⟨_,rfl,rfl⟩ | rfl | exact ⟨_,rfl⟩) (by first | rfl | kernel_rfl) rfl
theorem tt75:TtOk Try.prog 75 ⟨2,16,[.int .u64 0,.int .u64 0],.struct [(0,73),(1,73)],(some [true,true])⟩:=TtOk.of (z:=.agg #[.int .u64 0,.int .u64 0]) (by kernel_rfl) (by kernel_rfl) (by simp [Dens,Den,nilSV,nilLoc0,Value.cells]) (by simp [TT.agg,Value.cells]) Try.underlying75 (by first | exact ⟨_,rfl,rfl⟩ | rfl | exact ⟨_,rfl⟩) (by first | rfl | kernel_rfl) rfl
theorem tt76:TtOk Try.prog 76 ⟨9,104,[.int .i64 0,nilSV,.int .u64 0,.int .u64 0,nilSV,.int .i64 0,.int .u64 0,.int .i64 0,.bool false],.struct [(0,54),(2,75),(4,23),(5,3),(6,73),(7,3),(8,4)],none⟩:=TtOk.of (z:=.agg #[.int .i64 0,.slice none 0 0,.int .u64 0,.int .u64 0,.slice none 0 0,.int .i64 0,.int .u64 0,.int .i64 0,.bool false]) (by kernel_rfl) (by kernel_rfl) (by simp [Dens,Den,nilSV,nilLoc0,Value.cells]) (by simp [TT.agg,Value.cells]) Try.underlying76 (by first | exact ⟨_,rfl,rfl⟩ | rfl | exact ⟨_,rfl⟩) (by first | rfl | kernel_rfl) rfl
theorem tt77:TtOk Try.prog 77 ⟨9,104,[.int .i64 0,nilSV,.int .u64 0,.int .u64 0,nilSV,.int .i64 0,.int .u64 0,.int .i64 0,.bool false],.struct [(0,54),(2,75),(4,23),(5,3),(6,73),(7,3),(8,4)],none⟩:=TtOk.of (z:=.agg #[.int .i64 0,.slice none 0 0,.int .u64 0,.int .u64 0,.slice none 0 0,.int .i64 0,.int .u64 0,.int .i64 0,.bool false]) (by kernel_rfl) (by kernel_rfl) (by simp [Dens,Den,nilSV,nilLoc0,Value.cells]) (by simp [TT.agg,Value.cells]) Try.underlying77 (by first | exact ⟨_,rfl,rfl⟩ | rfl | exact ⟨_,rfl⟩) (by first | rfl | kernel_rfl) rfl
theorem tt78:TtOk Try.prog 78 ⟨1,24,[nilSV],.slice 100,none⟩:=TtOk.of (z:=.slice none 0 0) (by kernel_rfl) (by kernel_rfl) (by simp [Dens,Den,nilSV,nilLoc0,Value.cells]) (by simp [TT.agg,Value.cells]) Try.underlying78 (by first | exact ⟨_,rfl,rfl⟩ | rfl | exact ⟨_,rfl⟩) (by first | rfl | kernel_rfl) rfl
theorem tt79:TtOk Try.prog 79 ⟨1,24,[nilSV],.slice 126,none⟩:=TtOk.of (z:=.slice none 0 0) (by kernel_rfl) (by kernel_rfl) (by simp [Dens,Den,nilSV,nilLoc0,Value.cells]) (by simp [TT.agg,Value.cells]) Try.underlying79 (by first | exact ⟨_,rfl,rfl⟩ | rfl | exact ⟨_,rfl⟩) (by first | rfl | kernel_rfl) rfl
theorem tt80:TtOk Try.prog 80 ⟨8,160,[.int .i64 0,.int .i64 0,nilSV,nilSV,nilSV,nilSV,nilSV,nilSV],.struct [(0,3),(1,3),(2,78),(3,79),(4,25),(5,51),(6,25),(7,51)],none⟩:=TtOk.of (z:=.agg #[.int .i64 0,.int .i64 0,.slice none 0 0,.slice none 0 0,.slice none 0 0,.slice none 0 0,.slice none 0 0,.slice none 0 0]) (by kernel_rfl) (by kernel_rfl) (by simp [Dens,Den,nilSV,nilLoc0,Value.cells]) (by simp [TT.agg,Value.cells]) Try.underlying80 (by first | exact ⟨_,rfl,rfl⟩ | rfl | exact ⟨_,rfl⟩) (by first | rfl | kernel_rfl) rfl
theorem tt81:TtOk Try.prog 81 ⟨8,160,[.int .i64 0,.int .i64 0,nilSV,nilSV,nilSV,nilSV,nilSV,nilSV],.struct [(0,3),(1,3),(2,78),(3,79),(4,25),(5,51),(6,25),(7,51)],none⟩:=TtOk.of (z:=.agg #[.int .i64 0,.int .i64 0,.slice none 0 0,.slice none 0 0,.slice none 0 0,.slice none 0 0,.slice none 0 0,.slice none 0 0]) (by kernel_rfl) (by kernel_rfl) (by simp [Dens,Den,nilSV,nilLoc0,Value.cells]) (by simp [TT.agg,Value.cells]) Try.underlying81 (by first | exact ⟨_,rfl,rfl⟩ | rfl | exact ⟨_,rfl⟩) (by first | rfl | kernel_rfl) rfl
theorem tt85:TtOk Try.prog 85 ⟨1,8,[.val (.pointer none)],.pointer,none⟩:=TtOk.of (z:=.pointer none) (by kernel_rfl) (by kernel_rfl) (by simp [Dens,Den,nilSV,nilLoc0,Value.cells]) (by simp [TT.agg,Value.cells]) Try.underlying85 (by first | exact ⟨_,rfl,rfl⟩ | rfl | exact ⟨_,rfl⟩) (by first | rfl | kernel_rfl) rfl
theorem tt99:TtOk Try.prog 99 ⟨6,48,[.int .i64 0,.int .i64 0,.int .i64 0,.int .i64 0,.int .i64 0,.int .i64 0],.struct [(0,3),(1,3),(2,3),(3,3),(4,3),(5,3)],(some [true,true,true,true,true,true])⟩:=TtOk.of (z:=.agg #[.int .i64 0,.int .i64 0,.int .i64 0,.int .i64 0,.int .i64 0,.int .i64 0]) (by kernel_rfl) (by kernel_rfl) (by simp [Dens,Den,nilSV,nilLoc0,Value.cells]) (by simp [TT.agg,Value.cells]) Try.underlying99 (by first | exact ⟨_,rfl,rfl⟩ | rfl | exact ⟨_,rfl⟩) (by first | rfl | kernel_rfl) rfl
theorem tt100:TtOk Try.prog 100 ⟨6,48,[.int .i64 0,.int .i64 0,.int .i64 0,.int .i64 0,.int .i64 0,.int .i64 0],.struct [(0,3),(1,3),(2,3),(3,3),(4,3),(5,3)],(some [true,true,true,true,true,true])⟩:=TtOk.of (z:=.agg #[.int .i64 0,.int .i64 0,.int .i64 0,.int .i64 0,.int .i64 0,.int .i64 0]) (by kernel_rfl) (by kernel_rfl) (by simp [Dens,Den,nilSV,nilLoc0,Value.cells]) (by simp [TT.agg,Value.cells]) Try.underlying100 (by first | exact ⟨_,rfl,rfl⟩ | rfl | exact ⟨_,rfl⟩) (by first | rfl | kernel_rfl) rfl
theorem tt102:TtOk Try.prog 102 ⟨32,256,[.int .i64 0,.int .i64 0,.int .i64 0,.int .i64 0,.int .i64 0,.int .i64 0,.int .i64 0,.int .i64 0,.int .i64 0,.int .i64 0,.int .i64 0,.int .i64 0,.int .i64 0,.int .i64 0,.int .i64 0,.int .i64 0,.int .i64 0,.int .i64 0,.int .i64 0,.int .i64 0,.int .i64 0,.int .i64 0,.int .i64 0,.int .i64 0,.int .i64 0,.int .i64 0,.int .i64 0,.int .i64 0,.int .i64 0,.int .i64 0,.int .i64 0,.int .i64 0],.array 32 3,(some [true,true,true,true,true,true,true,true,true,true,true,true,true,true,true,true,true,true,true,true,true,true,true,true,true,true,true,true,true,true,true,true])⟩:=TtOk.of (z:=.agg #[.int .i64 0,.int .i64 0,.int .i64 0,.int .i64 0,.int .i64 0,.int .i64 0,.int .i64 0,.int .i64 0,.int .i64 0,.int .i64 0,.int .i64 0,.int .i64 0,.int .i64 0,.int .i64 0,.int .i64 0,.int .i64 0,.int .i64 0,.int .i64 0,.int .i64 0,.int .i64 0,.int .i64 0,.int .i64 0,.int .i64 0,.int .i64 0,.int .i64 0,.int .i64 0,.int .i64 0,.int .i64 0,.int .i64 0,.int .i64 0,.int .i64 0,.int .i64 0]) (by kernel_rfl) (by kernel_rfl) (by simp [Dens,Den,nilSV,nilLoc0,Value.cells]) (by simp [TT.agg,Value.cells]) Try.underlying102 (by first | exact ⟨_,rfl,rfl⟩ | rfl | exact ⟨_,rfl⟩) (by first | rfl | kernel_rfl) rfl
theorem tt103:TtOk Try.prog 103 ⟨32,256,[.int .i64 0,.int .i64 0,.int .i64 0,.int .i64 0,.int .i64 0,.int .i64 0,.int .i64 0,.int .i64 0,.int .i64 0,.int .i64 0,.int .i64 0,.int .i64 0,.int .i64 0,.int .i64 0,.int .i64 0,.int .i64 0,.int .i64 0,.int .i64 0,.int .i64 0,.int .i64 0,.int .i64 0,.int .i64 0,.int .i64 0,.int .i64 0,.int .i64 0,.int .i64 0,.int .i64 0,.int .i64 0,.int .i64 0,.int .i64 0,.int .i64 0,.int .i64 0],.array 32 3,(some [true,true,true,true,true,true,true,true,true,true,true,true,true,true,true,true,true,true,true,true,true,true,true,true,true,true,true,true,true,true,true,true])⟩:=TtOk.of (z:=.agg #[.int .i64 0,.int .i64 0,.int .i64 0,.int .i64 0,.int .i64 0,.int .i64 0,.int .i64 0,.int .i64 0,.int .i64 0,.int .i64 0,.int .i64 0,.int .i64 0,.int .i64 0,.int .i64 0,.int .i64 0,.int .i64 0,.int .i64 0,.int .i64 0,.int .i64 0,.int .i64 0,.int .i64 0,.int .i64 0,.int .i64 0,.int .i64 0,.int .i64 0,.int .i64 0,.int .i64 0,.int .i64 0,.int .i64 0,.int .i64 0,.int .i64 0,.int .i64 0]) (by kernel_rfl) (by kernel_rfl) (by simp [Dens,Den,nilSV,nilLoc0,Value.cells]) (by simp [TT.agg,Value.cells]) Try.underlying103 (by first | exact ⟨_,rfl,rfl⟩ | rfl | exact ⟨_,rfl⟩) (by first | rfl | kernel_rfl) rfl
theorem tt104:TtOk Try.prog 104 ⟨36,304,[.int .i64 0,nilSV,.int .i64 0,.int .i64 0,.int .i64 0,.int .i64 0,.int .i64 0,.int .i64 0,.int .i64 0,.int .i64 0,.int .i64 0,.int .i64 0,.int .i64 0,.int .i64 0,.int .i64 0,.int .i64 0,.int .i64 0,.int .i64 0,.int .i64 0,.int .i64 0,.int .i64 0,.int .i64 0,.int .i64 0,.int .i64 0,.int .i64 0,.int .i64 0,.int .i64 0,.int .i64 0,.int .i64 0,.int .i64 0,.int .i64 0,.int .i64 0,.int .i64 0,.int .i64 0,.int .u64 0,.int .u64 0],.struct [(0,54),(2,103),(34,73),(35,73)],none⟩:=TtOk.of (z:=.agg #[.int .i64 0,.slice none 0 0,.int .i64 0,.int .i64 0,.int .i64 0,.int .i64 0,.int .i64 0,.int .i64 0,.int .i64 0,.int .i64 0,.int .i64 0,.int .i64 0,.int .i64 0,.int .i64 0,.int .i64 0,.int .i64 0,.int .i64 0,.int .i64 0,.int .i64 0,.int .i64 0,.int .i64 0,.int .i64 0,.int .i64 0,.int .i64 0,.int .i64 0,.int .i64 0,.int .i64 0,.int .i64 0,.int .i64 0,.int .i64 0,.int .i64 0,.int .i64 0,.int .i64 0,.int .i64 0,.int .u64 0,.int .u64 0]) (by kernel_rfl) (by kernel_rfl) (by simp [Dens,Den,nilSV,nilLoc0,Value.cells]) (by simp [TT.agg,Value.cells]) Try.underlying104 (by first | exact ⟨_,rfl,rfl⟩ | rfl | exact ⟨_,rfl⟩) (by first | rfl | kernel_rfl) rfl
theorem tt105:TtOk Try.prog 105 ⟨36,304,[.int .i64 0,nilSV,.int .i64 0,.int .i64 0,.int .i64 0,.int .i64 0,.int .i64 0,.int .i64 0,.int .i64 0,.int .i64 0,.int .i64 0,.int .i64 0,.int .i64 0,.int .i64 0,.int .i64 0,.int .i64 0,.int .i64 0,.int .i64 0,.int .i64 0,.int .i64 0,.int .i64 0,.int .i64 0,.int .i64 0,.int .i64 0,.int .i64 0,.int .i64 0,.int .i64 0,.int .i64 0,.int .i64 0,.int .i64 0,.int .i64 0,.int .i64 0,.int .i64 0,.int .i64 0,.int .u64 0,.int .u64 0],.struct [(0,54),(2,103),(34,73),(35,73)],none⟩:=TtOk.of (z:=.agg #[.int .i64 0,.slice none 0 0,.int .i64 0,.int .i64 0,.int .i64 0,.int .i64 0,.int .i64 0,.int .i64 0,.int .i64 0,.int .i64 0,.int .i64 0,.int .i64 0,.int .i64 0,.int .i64 0,.int .i64 0,.int .i64 0,.int .i64 0,.int .i64 0,.int .i64 0,.int .i64 0,.int .i64 0,.int .i64 0,.int .i64 0,.int .i64 0,.int .i64 0,.int .i64 0,.int .i64 0,.int .i64 0,.int .i64 0,.int .i64 0,.int .i64 0,.int .i64 0,.int .i64 0,.int .i64 0,.int .u64 0,.int .u64 0]) (by kernel_rfl) (by kernel_rfl) (by simp [Dens,Den,nilSV,nilLoc0,Value.cells]) (by simp [TT.agg,Value.cells]) Try.underlying105 (by first | exact ⟨_,rfl,rfl⟩ | rfl | exact ⟨_,rfl⟩) (by first | rfl | kernel_rfl) rfl
theorem tt107:TtOk Try.prog 107 ⟨42,360,[.int .i64 0,nilSV,.int .i64 0,.int .i64 0,.int .i64 0,.int .i64 0,.int .i64 0,.int .i64 0,.int .i64 0,.int .i64 0,.int .i64 0,.int .i64 0,.int .i64 0,.int .i64 0,.int .i64 0,.int .i64 0,.int .i64 0,.int .i64 0,.int .i64 0,.int .i64 0,.int .i64 0,.int .i64 0,.int .i64 0,.int .i64 0,.int .i64 0,.int .i64 0,.int .i64 0,.int .i64 0,.int .i64 0,.int .i64 0,.int .i64 0,.int .i64 0,.int .i64 0,.int .i64 0,.int .u64 0,.int .u64 0,nilSV,.int .i64 0,.int .u64 0,.int .i64 0,.bool false,.bool false],.struct [(0,105),(36,23),(37,3),(38,73),(39,3),(40,4),(41,4)],none⟩:=TtOk.of (z:=.agg #[.int .i64 0,.slice none 0 0,.int .i64 0,.int .i64 0,.int .i64 0,.int .i64 0,.int .i64 0,.int .i64 0,.int .i64 0,.int .i64 0,.int .i64 0,.int .i64 0,.int .i64 0,.int .i64 0,.int .i64 0,.int .i64 0,.int .i64 0,.int .i64 0,.int .i64 0,.int .i64 0,.int .i64 0,.int .i64 0,.int .i64 0,.int .i64 0,.int .i64 0,.int .i64 0,.int .i64 0,.int .i64 0,.int .i64 0,.int .i64 0,.int .i64 0,.int .i64 0,.int .i64 0,.int .i64 0,.int .u64 0,.int .u64 0,.slice none 0 0,.int .i64 0,.int .u64 0,.int .i64 0,.bool false,.bool false]) (by kernel_rfl) (by kernel_rfl) (by simp [Dens,Den,nilSV,nilLoc0,Value.cells]) (by simp [TT.agg,Value.cells]) Try.underlying107 (by first | exact ⟨_,rfl,rfl⟩ | rfl | exact ⟨_,rfl⟩) (by first | rfl | kernel_rfl) rfl
theorem tt108:TtOk Try.prog 108 ⟨42,360,[.int .i64 0,nilSV,.int .i64 0,.int .i64 0,.int .i64 0,.int .i64 0,.int .i64 0,.int .i64 0,.int .i64 0,.int .i64 0,.int .i64 0,.int .i64 0,.int .i64 0,.int .i64 0,.int .i64 0,.int .i64 0,.int .i64 0,.int .i64 0,.int .i64 0,.int .i64 0,.int .i64 0,.int .i64 0,.int .i64 0,.int .i64 0,.int .i64 0,.int .i64 0,.int .i64 0,.int .i64 0,.int .i64 0,.int .i64 0,.int .i64 0,.int .i64 0,.int .i64 0,.int .i64 0,.int .u64 0,.int .u64 0,nilSV,.int .i64 0,.int .u64 0,.int .i64 0,.bool false,.bool false],.struct [(0,105),(36,23),(37,3),(38,73),(39,3),(40,4),(41,4)],none⟩:=TtOk.of (z:=.agg #[.int .i64 0,.slice none 0 0,.int .i64 0,.int .i64 0,.int .i64 0,.int .i64 0,.int .i64 0,.int .i64 0,.int .i64 0,.int .i64 0,.int .i64 0,.int .i64 0,.int .i64 0,.int .i64 0,.int .i64 0,.int .i64 0,.int .i64 0,.int .i64 0,.int .i64 0,.int .i64 0,.int .i64 0,.int .i64 0,.int .i64 0,.int .i64 0,.int .i64 0,.int .i64 0,.int .i64 0,.int .i64 0,.int .i64 0,.int .i64 0,.int .i64 0,.int .i64 0,.int .i64 0,.int .i64 0,.int .u64 0,.int .u64 0,.slice none 0 0,.int .i64 0,.int .u64 0,.int .i64 0,.bool false,.bool false]) (by kernel_rfl) (by kernel_rfl) (by simp [Dens,Den,nilSV,nilLoc0,Value.cells]) (by simp [TT.agg,Value.cells]) Try.underlying108 (by first | exact ⟨_,rfl,rfl⟩ | rfl | exact ⟨_,rfl⟩) (by first | rfl | kernel_rfl) rfl
theorem tt111:TtOk Try.prog 111 ⟨1,8,[.val (.pointer none)],.pointer,none⟩:=TtOk.of (z:=.pointer none) (by kernel_rfl) (by kernel_rfl) (by simp [Dens,Den,nilSV,nilLoc0,Value.cells]) (by simp [TT.agg,Value.cells]) Try.underlying111 (by first | exact ⟨_,rfl,rfl⟩ | rfl | exact ⟨_,rfl⟩) (by first | rfl | kernel_rfl) rfl
theorem tt112:TtOk Try.prog 112 ⟨4,48,[nilSV,.int .i64 0,.int .i64 0,.bool false],.struct [(0,25),(1,3),(2,3),(3,4)],none⟩:=TtOk.of (z:=.agg #[.slice none 0 0,.int .i64 0,.int .i64 0,.bool false]) (by kernel_rfl) (by kernel_rfl) (by simp [Dens,Den,nilSV,nilLoc0,Value.cells]) (by simp [TT.agg,Value.cells]) Try.underlying112 (by first | exact ⟨_,rfl,rfl⟩ | rfl | exact ⟨_,rfl⟩) (by first | rfl | kernel_rfl) rfl
theorem tt113:TtOk Try.prog 113 ⟨4,48,[nilSV,.int .i64 0,.int .i64 0,.bool false],.struct [(0,25),(1,3),(2,3),(3,4)],none⟩:=TtOk.of (z:=.agg #[.slice none 0 0,.int .i64 0,.int .i64 0,.bool false]) (by kernel_rfl) (by kernel_rfl) (by simp [Dens,Den,nilSV,nilLoc0,Value.cells]) (by simp [TT.agg,Value.cells]) Try.underlying113 (by first | exact ⟨_,rfl,rfl⟩ | rfl | exact ⟨_,rfl⟩) (by first | rfl | kernel_rfl) rfl
theorem tt125:TtOk Try.prog 125 ⟨8,64,[.int .i64 0,.int .i64 0,.int .i64 0,.int .i64 0,.int .i64 0,.int .i64 0,.int .i64 0,.int .i64 0],.struct [(0,3),(1,3),(2,3),(3,3),(4,3),(5,3),(6,3),(7,3)],(some [true,true,true,true,true,true,true,true])⟩:=TtOk.of (z:=.agg #[.int .i64 0,.int .i64 0,.int .i64 0,.int .i64 0,.int .i64 0,.int .i64 0,.int .i64 0,.int .i64 0]) (by kernel_rfl) (by kernel_rfl) (by simp [Dens,Den,nilSV,nilLoc0,Value.cells]) (by simp [TT.agg,Value.cells]) Try.underlying125 (by first | exact ⟨_,rfl,rfl⟩ | rfl | exact ⟨_,rfl⟩) (by first | rfl | kernel_rfl) rfl
theorem tt126:TtOk Try.prog 126 ⟨8,64,[.int .i64 0,.int .i64 0,.int .i64 0,.int .i64 0,.int .i64 0,.int .i64 0,.int .i64 0,.int .i64 0],.struct [(0,3),(1,3),(2,3),(3,3),(4,3),(5,3),(6,3),(7,3)],(some [true,true,true,true,true,true,true,true])⟩:=TtOk.of (z:=.agg #[.int .i64 0,.int .i64 0,.int .i64 0,.int .i64 0,.int .i64 0,.int .i64 0,.int .i64 0,.int .i64 0]) (by kernel_rfl) (by kernel_rfl) (by simp [Dens,Den,nilSV,nilLoc0,Value.cells]) (by simp [TT.agg,Value.cells]) Try.underlying126 (by first | exact ⟨_,rfl,rfl⟩ | rfl | exact ⟨_,rfl⟩) (by first | rfl | kernel_rfl) rfl
theorem tt131:TtOk Try.prog 131 ⟨1,8,[.int .u64 0],.int .u64,none⟩:=TtOk.of (z:=.int .u64 0) (by kernel_rfl) (by kernel_rfl) (by simp [Dens,Den,nilSV,nilLoc0,Value.cells]) (by simp [TT.agg,Value.cells]) Try.underlying131 (by first | exact ⟨_,rfl,rfl⟩ | rfl | exact ⟨_,rfl⟩) (by first | rfl | kernel_rfl) rfl
theorem tt132:TtOk Try.prog 132 ⟨38,336,[.int .i64 0,nilSV,.int .i64 0,.int .i64 0,.int .i64 0,.int .i64 0,.int .i64 0,.int .i64 0,.int .i64 0,.int .i64 0,.int .i64 0,.int .i64 0,.int .i64 0,.int .i64 0,.int .i64 0,.int .i64 0,.int .i64 0,.int .i64 0,.int .i64 0,.int .i64 0,.int .i64 0,.int .i64 0,.int .i64 0,.int .i64 0,.int .i64 0,.int .i64 0,.int .i64 0,.int .i64 0,.int .i64 0,.int .i64 0,.int .i64 0,.int .i64 0,.int .i64 0,.int .i64 0,.int .u64 0,.int .u64 0,nilSV,.bool false],.struct [(0,105),(36,23),(37,4)],none⟩:=TtOk.of (z:=.agg #[.int .i64 0,.slice none 0 0,.int .i64 0,.int .i64 0,.int .i64 0,.int .i64 0,.int .i64 0,.int .i64 0,.int .i64 0,.int .i64 0,.int .i64 0,.int .i64 0,.int .i64 0,.int .i64 0,.int .i64 0,.int .i64 0,.int .i64 0,.int .i64 0,.int .i64 0,.int .i64 0,.int .i64 0,.int .i64 0,.int .i64 0,.int .i64 0,.int .i64 0,.int .i64 0,.int .i64 0,.int .i64 0,.int .i64 0,.int .i64 0,.int .i64 0,.int .i64 0,.int .i64 0,.int .i64 0,.int .u64 0,.int .u64 0,.slice none 0 0,.bool false]) (by kernel_rfl) (by kernel_rfl) (by simp [Dens,Den,nilSV,nilLoc0,Value.cells]) (by simp [TT.agg,Value.cells]) Try.underlying132 (by first | exact ⟨_,rfl,rfl⟩ | rfl | exact ⟨_,rfl⟩) (by first | rfl | kernel_rfl) rfl
theorem tt133:TtOk Try.prog 133 ⟨38,336,[.int .i64 0,nilSV,.int .i64 0,.int .i64 0,.int .i64 0,.int .i64 0,.int .i64 0,.int .i64 0,.int .i64 0,.int .i64 0,.int .i64 0,.int .i64 0,.int .i64 0,.int .i64 0,.int .i64 0,.int .i64 0,.int .i64 0,.int .i64 0,.int .i64 0,.int .i64 0,.int .i64 0,.int .i64 0,.int .i64 0,.int .i64 0,.int .i64 0,.int .i64 0,.int .i64 0,.int .i64 0,.int .i64 0,.int .i64 0,.int .i64 0,.int .i64 0,.int .i64 0,.int .i64 0,.int .u64 0,.int .u64 0,nilSV,.bool false],.struct [(0,105),(36,23),(37,4)],none⟩:=TtOk.of (z:=.agg #[.int .i64 0,.slice none 0 0,.int .i64 0,.int .i64 0,.int .i64 0,.int .i64 0,.int .i64 0,.int .i64 0,.int .i64 0,.int .i64 0,.int .i64 0,.int .i64 0,.int .i64 0,.int .i64 0,.int .i64 0,.int .i64 0,.int .i64 0,.int .i64 0,.int .i64 0,.int .i64 0,.int .i64 0,.int .i64 0,.int .i64 0,.int .i64 0,.int .i64 0,.int .i64 0,.int .i64 0,.int .i64 0,.int .i64 0,.int .i64 0,.int .i64 0,.int .i64 0,.int .i64 0,.int .i64 0,.int .u64 0,.int .u64 0,.slice none 0 0,.bool false]) (by kernel_rfl) (by kernel_rfl) (by simp [Dens,Den,nilSV,nilLoc0,Value.cells]) (by simp [TT.agg,Value.cells]) Try.underlying133 (by first | exact ⟨_,rfl,rfl⟩ | rfl | exact ⟨_,rfl⟩) (by first | rfl | kernel_rfl) rfl
theorem tt134:TtOk Try.prog 134 ⟨1,24,[nilSV],.slice 136,none⟩:=TtOk.of (z:=.slice none 0 0) (by kernel_rfl) (by kernel_rfl) (by simp [Dens,Den,nilSV,nilLoc0,Value.cells]) (by simp [TT.agg,Value.cells]) Try.underlying134 (by first | exact ⟨_,rfl,rfl⟩ | rfl | exact ⟨_,rfl⟩) (by first | rfl | kernel_rfl) rfl
theorem tt135:TtOk Try.prog 135 ⟨9,72,[.int .i64 0,.int .i64 0,.int .i64 0,.int .i64 0,.int .i64 0,.int .i64 0,.int .i64 0,.int .i64 0,.int .i64 0],.struct [(0,100),(6,3),(7,3),(8,3)],none⟩:=TtOk.of (z:=.agg #[.int .i64 0,.int .i64 0,.int .i64 0,.int .i64 0,.int .i64 0,.int .i64 0,.int .i64 0,.int .i64 0,.int .i64 0]) (by kernel_rfl) (by kernel_rfl) (by simp [Dens,Den,nilSV,nilLoc0,Value.cells]) (by simp [TT.agg,Value.cells]) Try.underlying135 (by first | exact ⟨_,rfl,rfl⟩ | rfl | exact ⟨_,rfl⟩) (by first | rfl | kernel_rfl) rfl
theorem tt136:TtOk Try.prog 136 ⟨9,72,[.int .i64 0,.int .i64 0,.int .i64 0,.int .i64 0,.int .i64 0,.int .i64 0,.int .i64 0,.int .i64 0,.int .i64 0],.struct [(0,100),(6,3),(7,3),(8,3)],none⟩:=TtOk.of (z:=.agg #[.int .i64 0,.int .i64 0,.int .i64 0,.int .i64 0,.int .i64 0,.int .i64 0,.int .i64 0,.int .i64 0,.int .i64 0]) (by kernel_rfl) (by kernel_rfl) (by simp [Dens,Den,nilSV,nilLoc0,Value.cells]) (by simp [TT.agg,Value.cells]) Try.underlying136 (by first | exact ⟨_,rfl,rfl⟩ | rfl | exact ⟨_,rfl⟩) (by first | rfl | kernel_rfl) rfl
theorem tt137:TtOk Try.prog 137 ⟨1,8,[.val (.pointer none)],.pointer,none⟩:=TtOk.of (z:=.pointer none) (by kernel_rfl) (by kernel_rfl) (by simp [Dens,Den,nilSV,nilLoc0,Value.cells]) (by simp [TT.agg,Value.cells]) Try.underlying137 (by first | exact ⟨_,rfl,rfl⟩ | rfl | exact ⟨_,rfl⟩) (by first | rfl | kernel_rfl) rfl
theorem tt140:TtOk Try.prog 140 ⟨1,24,[nilSV],.slice 142,none⟩:=TtOk.of (z:=.slice none 0 0) (by kernel_rfl) (by kernel_rfl) (by simp [Dens,Den,nilSV,nilLoc0,Value.cells]) (by simp [TT.agg,Value.cells]) Try.underlying140 (by first | exact ⟨_,rfl,rfl⟩ | rfl | exact ⟨_,rfl⟩) (by first | rfl | kernel_rfl) rfl
theorem tt142:TtOk Try.prog 142 ⟨2,16,[.int .i64 0,.int .i64 0],.array 2 3,(some [true,true])⟩:=TtOk.of (z:=.agg #[.int .i64 0,.int .i64 0]) (by kernel_rfl) (by kernel_rfl) (by simp [Dens,Den,nilSV,nilLoc0,Value.cells]) (by simp [TT.agg,Value.cells]) Try.underlying142 (by first | exact ⟨_,rfl,rfl⟩ | rfl | exact ⟨_,rfl⟩) (by first | rfl | kernel_rfl) rfl
theorem tt148:TtOk Try.prog 148 ⟨1,8,[.val (.pointer none)],.pointer,none⟩:=TtOk.of (z:=.pointer none) (by kernel_rfl) (by kernel_rfl) (by simp [Dens,Den,nilSV,nilLoc0,Value.cells]) (by simp [TT.agg,Value.cells]) Try.underlying148 (by first | exact ⟨_,rfl,rfl⟩ | rfl | exact ⟨_,rfl⟩) (by first | rfl | kernel_rfl) rfl
theorem tt153:TtOk Try.prog 153 ⟨1,4,[.int .u32 0],.int .u32,none⟩:=TtOk.of (z:=.int .u32 0) (by kernel_rfl) (by kernel_rfl) (by simp [Dens,Den,nilSV,nilLoc0,Value.cells]) (by simp [TT.agg,Value.cells]) Try.underlying153 (by first | exact ⟨_,rfl,rfl⟩ | rfl | exact ⟨_,rfl⟩) (by first | rfl | kernel_rfl) rfl
theorem tt158:TtOk Try.prog 158 ⟨5,72,[.int .i64 0,nilSV,.int .u64 0,.int .u64 0,nilSV],.struct [(0,54),(2,75),(4,23)],none⟩:=TtOk.of (z:=.agg #[.int .i64 0,.slice none 0 0,.int .u64 0,.int .u64 0,.slice none 0 0]) (by kernel_rfl) (by kernel_rfl) (by simp [Dens,Den,nilSV,nilLoc0,Value.cells]) (by simp [TT.agg,Value.cells]) Try.underlying158 (by first | exact ⟨_,rfl,rfl⟩ | rfl | exact ⟨_,rfl⟩) (by first | rfl | kernel_rfl) rfl
theorem tt159:TtOk Try.prog 159 ⟨5,72,[.int .i64 0,nilSV,.int .u64 0,.int .u64 0,nilSV],.struct [(0,54),(2,75),(4,23)],none⟩:=TtOk.of (z:=.agg #[.int .i64 0,.slice none 0 0,.int .u64 0,.int .u64 0,.slice none 0 0]) (by kernel_rfl) (by kernel_rfl) (by simp [Dens,Den,nilSV,nilLoc0,Value.cells]) (by simp [TT.agg,Value.cells]) Try.underlying159 (by first | exact ⟨_,rfl,rfl⟩ | rfl | exact ⟨_,rfl⟩) (by first | rfl | kernel_rfl) rfl
theorem tt163:TtOk Try.prog 163 ⟨4,40,[.val (.pointer none),.val (.pointer none),.val (.pointer none),.val (.string ⟨#[]⟩)],.struct [(0,17),(1,17),(2,17),(3,9)],none⟩:=TtOk.of (z:=.agg #[.pointer none,.pointer none,.pointer none,.string ⟨#[]⟩]) (by kernel_rfl) (by kernel_rfl) (by simp [Dens,Den,nilSV,nilLoc0,Value.cells]) (by simp [TT.agg,Value.cells]) Try.underlying163 (by first | exact ⟨_,rfl,rfl⟩ | rfl | exact ⟨_,rfl⟩) (by first | rfl | kernel_rfl) rfl
theorem tt164:TtOk Try.prog 164 ⟨4,40,[.val (.pointer none),.val (.pointer none),.val (.pointer none),.val (.string ⟨#[]⟩)],.struct [(0,17),(1,17),(2,17),(3,9)],none⟩:=TtOk.of (z:=.agg #[.pointer none,.pointer none,.pointer none,.string ⟨#[]⟩]) (by kernel_rfl) (by kernel_rfl) (by simp [Dens,Den,nilSV,nilLoc0,Value.cells]) (by simp [TT.agg,Value.cells]) Try.underlying164 (by first | exact ⟨_,rfl,rfl⟩ | rfl | exact ⟨_,rfl⟩) (by first | rfl | kernel_rfl) rfl
theorem tt165:TtOk Try.prog 165 ⟨0,0,[],.array 0 16,none⟩:=TtOk.of (z:=.agg #[]) (by kernel_rfl) (by kernel_rfl) (by simp [Dens,Den,nilSV,nilLoc0,Value.cells]) (by simp [TT.agg,Value.cells]) Try.underlying165 (by first | exact ⟨_,rfl,rfl⟩ | rfl | exact ⟨_,rfl⟩) (by first | rfl | kernel_rfl) rfl
theorem tt166:TtOk Try.prog 166 ⟨0,0,[],.struct [(0,165)],none⟩:=TtOk.of (z:=.agg #[]) (by kernel_rfl) (by kernel_rfl) (by simp [Dens,Den,nilSV,nilLoc0,Value.cells]) (by simp [TT.agg,Value.cells]) Try.underlying166 (by first | exact ⟨_,rfl,rfl⟩ | rfl | exact ⟨_,rfl⟩) (by first | rfl | kernel_rfl) rfl
theorem tt167:TtOk Try.prog 167 ⟨0,0,[],.struct [(0,165)],none⟩:=TtOk.of (z:=.agg #[]) (by kernel_rfl) (by kernel_rfl) (by simp [Dens,Den,nilSV,nilLoc0,Value.cells]) (by simp [TT.agg,Value.cells]) Try.underlying167 (by first | exact ⟨_,rfl,rfl⟩ | rfl | exact ⟨_,rfl⟩) (by first | rfl | kernel_rfl) rfl
theorem tt169:TtOk Try.prog 169 ⟨1,1,[.int .u8 0],.int .u8,none⟩:=TtOk.of (z:=.int .u8 0) (by kernel_rfl) (by kernel_rfl) (by simp [Dens,Den,nilSV,nilLoc0,Value.cells]) (by simp [TT.agg,Value.cells]) Try.underlying169 (by first | exact ⟨_,rfl,rfl⟩ | rfl | exact ⟨_,rfl⟩) (by first | rfl | kernel_rfl) rfl
theorem tt170:TtOk Try.prog 170 ⟨1,1,[.int .u8 0],.int .u8,none⟩:=TtOk.of (z:=.int .u8 0) (by kernel_rfl) (by kernel_rfl) (by simp [Dens,Den,nilSV,nilLoc0,Value.cells]) (by simp [TT.agg,Value.cells]) Try.underlying170 (by first | exact ⟨_,rfl,rfl⟩ | rfl | exact ⟨_,rfl⟩) (by first | rfl | kernel_rfl) rfl
theorem tt172:TtOk Try.prog 172 ⟨1,8,[.val (.pointer none)],.pointer,none⟩:=TtOk.of (z:=.pointer none) (by kernel_rfl) (by kernel_rfl) (by simp [Dens,Den,nilSV,nilLoc0,Value.cells]) (by simp [TT.agg,Value.cells]) Try.underlying172 (by first | exact ⟨_,rfl,rfl⟩ | rfl | exact ⟨_,rfl⟩) (by first | rfl | kernel_rfl) rfl
theorem tt173:TtOk Try.prog 173 ⟨1,4,[.int .i32 0],.int .i32,none⟩:=TtOk.of (z:=.int .i32 0) (by kernel_rfl) (by kernel_rfl) (by simp [Dens,Den,nilSV,nilLoc0,Value.cells]) (by simp [TT.agg,Value.cells]) Try.underlying173 (by first | exact ⟨_,rfl,rfl⟩ | rfl | exact ⟨_,rfl⟩) (by first | rfl | kernel_rfl) rfl
theorem tt174:TtOk Try.prog 174 ⟨1,4,[.int .i32 0],.int .i32,none⟩:=TtOk.of (z:=.int .i32 0) (by kernel_rfl) (by kernel_rfl) (by simp [Dens,Den,nilSV,nilLoc0,Value.cells]) (by simp [TT.agg,Value.cells]) Try.underlying174 (by first | exact ⟨_,rfl,rfl⟩ | rfl | exact ⟨_,rfl⟩) (by first | rfl | kernel_rfl) rfl
theorem tt175:TtOk Try.prog 175 ⟨11,48,[.int .u64 0,.int .u64 0,.int .u32 0,.int .u8 0,.int .u8 0,.int .u8 0,.int .u8 0,.val .nilFunc,.val (.pointer none),.int .i32 0,.int .i32 0],.struct [(0,12),(1,12),(2,153),(3,169),(4,5),(5,5),(6,170),(7,171),(8,172),(9,173),(10,174)],none⟩:=TtOk.of (z:=.agg #[.int .u64 0,.int .u64 0,.int .u32 0,.int .u8 0,.int .u8 0,.int .u8 0,.int .u8 0,.nilFunc,.pointer none,.int .i32 0,.int .i32 0]) (by kernel_rfl) (by kernel_rfl) (by simp [Dens,Den,nilSV,nilLoc0,Value.cells]) (by simp [TT.agg,Value.cells]) Try.underlying175 (by first | exact ⟨_,rfl,rfl⟩ | rfl | exact ⟨_,rfl⟩) (by first | rfl | kernel_rfl) rfl
theorem tt176:TtOk Try.prog 176 ⟨11,48,[.int .u64 0,.int .u64 0,.int .u32 0,.int .u8 0,.int .u8 0,.int .u8 0,.int .u8 0,.val .nilFunc,.val (.pointer none),.int .i32 0,.int .i32 0],.struct [(0,12),(1,12),(2,153),(3,169),(4,5),(5,5),(6,170),(7,171),(8,172),(9,173),(10,174)],none⟩:=TtOk.of (z:=.agg #[.int .u64 0,.int .u64 0,.int .u32 0,.int .u8 0,.int .u8 0,.int .u8 0,.int .u8 0,.nilFunc,.pointer none,.int .i32 0,.int .i32 0]) (by kernel_rfl) (by kernel_rfl) (by simp [Dens,Den,nilSV,nilLoc0,Value.cells]) (by simp [TT.agg,Value.cells]) Try.underlying176 (by first | exact ⟨_,rfl,rfl⟩ | rfl | exact ⟨_,rfl⟩) (by first | rfl | kernel_rfl) rfl
theorem hT:∀ t tt,tab t = some tt→TtOk Try.prog t tt:=by
  intro t tt h
  unfold tab at h
  split at h
  · cases h; exact tt2
  · cases h; exact tt3
  · cases h; exact tt4
  · cases h; exact tt5
  · cases h; exact tt6
  · cases h; exact tt7
  · cases h; exact tt8
  · cases h; exact tt9
  · cases h; exact tt12
  · cases h; exact tt13
  · cases h; exact tt14
  · cases h; exact tt15
  · cases h; exact tt16
  · cases h; exact tt17
  · cases h; exact tt18
  · cases h; exact tt19
  · cases h; exact tt21
  · cases h; exact tt22
  · cases h; exact tt23
  · cases h; exact tt25
  · cases h; exact tt26
  · cases h; exact tt27
  · cases h; exact tt28
  · cases h; exact tt46
  · cases h; exact tt48
  · cases h; exact tt51
  · cases h; exact tt52
  · cases h; exact tt53
  · cases h; exact tt54
  · cases h; exact tt55
  · cases h; exact tt56
  · cases h; exact tt62
  · cases h; exact tt65
  · cases h; exact tt68
  · cases h; exact tt69
  · cases h; exact tt70
  · cases h; exact tt71
  · cases h; exact tt73
  · cases h; exact tt74
  · cases h; exact tt75
  · cases h; exact tt76
  · cases h; exact tt77
  · cases h; exact tt78
  · cases h; exact tt79
  · cases h; exact tt80
  · cases h; exact tt81
  · cases h; exact tt85
  · cases h; exact tt99
  · cases h; exact tt100
  · cases h; exact tt102
  · cases h; exact tt103
  · cases h; exact tt104
  · cases h; exact tt105
  · cases h; exact tt107
  · cases h; exact tt108
  · cases h; exact tt111
  · cases h; exact tt112
  · cases h; exact tt113
  · cases h; exact tt125
  · cases h; exact tt126
  · cases h; exact tt131
  · cases h; exact tt132
  · cases h; exact tt133
  · cases h; exact tt134
  · cases h; exact tt135
  · cases h; exact tt136
  · cases h; exact tt137
  · cases h; exact tt140
  · cases h; exact tt142
  · cases h; exact tt148
  · cases h; exact tt153
  · cases h; exact tt158
  · cases h; exact tt159
  · cases h; exact tt163
  · cases h; exact tt164
  · cases h; exact tt165
  · cases h; exact tt166
  · cases h; exact tt167
  · cases h; exact tt169
  · cases h; exact tt170
  · cases h; exact tt172
  · cases h; exact tt173
  · cases h; exact tt174
  · cases h; exact tt175
  · cases h; exact tt176
  · cases h
def isP:FuncId→Bool:=fun f => f == 33 || f == 82 || f == 101 || f == 24 || f == 51 || f == 47 || f == 52 || f == 85 || f == 97 || f == 96 || f == 91 || f == 105 || f == 80 || f == 115 || f == 108 || f == 110 || f == 113 || f == 109 || f == 111 || f == 112 || f == 73 || f == 32 || f == 87 || f == 17
theorem mixed:Try.prog.follows .mixedOrders = true:=by kernel_rfl
theorem hyp {l:List (FuncId × Entry)} {lp:List (FuncId × EntryP)} (h:allOk Try.prog l) (hp:allPOk Try.prog lp):Hyp Try.prog tab isP (spList l) (spPList lp) chkAll :=
  ⟨hT,spPList_ok hp,spList_ok h,draw_ok mixed hT (spPList_ok hp) (spList_ok h)⟩
def SidesOk (w h:Int):Prop:=0≤w∧0≤h∧w≤200∧h≤200∧w * h≤8192
instance (w h:Int):Decidable (SidesOk w h):=by unfold SidesOk; infer_instance
def ValOk (n:Int):Prop:=0≤n∧n≤255
instance (n:Int):Decidable (ValOk n):=by unfold ValOk; infer_instance
theorem SidesOk.bd {w h:Int} (H:SidesOk w h):0≤w * h∧w * h≤8192:=⟨Int.mul_nonneg H.1 H.2.1,H.2.2.2.2⟩
structure RowA where
  L:Xf.Loc
  xs:List Int
def AllVal (xs:List Int):Prop:=∀ n ∈ xs,ValOk n
instance (xs:List Int):Decidable (AllVal xs):=by unfold AllVal; infer_instance
structure RowN where
  L:Xf.Loc
  xs:List Int
  n:Int
structure Im where
  w:Int
  h:Int
  R:List Int
  G:List Int
  B:List Int
structure ImA where
  i:Im
  L1:Xf.Loc
  L2:Xf.Loc
  L3:Xf.Loc
def Im.Ok (i:Im):Prop:=SidesOk i.w i.h∧(i.R.length = i.w * i.h∧AllVal i.R)∧(i.G.length = i.w * i.h∧AllVal i.G)∧(i.B.length = i.w * i.h∧AllVal i.B)
instance (i:Im):Decidable i.Ok:=by unfold Im.Ok; infer_instance
structure WH where
  w:Int
  h:Int
structure SetA where
  i:Im
  L:Xf.Loc
  L1:Xf.Loc
  L2:Xf.Loc
  L3:Xf.Loc
  k:Int
  r:Int
  g:Int
  b:Int
  n1:Int
  n2:Int
  n3:Int
structure NewA where
  w:Int
  h:Int
  r:Int
  g:Int
  b:Int
def NewA.Ok (a:NewA):Prop:=SidesOk a.w a.h∧ValOk a.r∧ValOk a.g∧ValOk a.b
instance (a:NewA):Decidable a.Ok:=by unfold NewA.Ok; infer_instance
def lx (p:Prop) [Decidable p] (x:Nat→Xf.Loc) (k:Nat):Xf.Loc:=if p then x k else nilLoc
theorem allVal_rd {xs:List Int}:AllVal xs↔∀ j:Nat,j < xs.length→ValOk (rd xs j):=by
  unfold AllVal
  constructor
  · intro h j hj; rw [rd_lt xs j hj]; exact h _ (List.getElem_mem hj)
  · intro h x hx
    obtain ⟨j,hj,rfl⟩:=List.getElem_of_mem hx
    have:=h j hj
    rwa [rd_lt xs j hj] at this
def Im.Eq (a b:Im):Prop:=a.w = b.w∧a.h = b.h∧a.R = b.R∧a.G = b.G∧a.B = b.B
instance (a b:Im):Decidable (a.Eq b):=by unfold Im.Eq; infer_instance
theorem Im.Eq.refl (a:Im):a.Eq a:=⟨rfl,rfl,rfl,rfl,rfl⟩
structure Im2 where
  a:ImA
  b:ImA
structure Pl where
  w:Int
  h:Int
  xs:List Int
def plV (p:Pl) (L:Xf.Loc) (c:Nat):SV:=.agg [.int .i64 p.w,.int .i64 p.h,.sl c L 1 0 p.xs.length]
attribute [push_cast] plV
def pl0:Pl:=⟨0,0,[]⟩
theorem Im.Ok.val {i:Im} (h:i.Ok):i.G.length = i.R.length∧i.B.length = i.R.length∧∀ k:Nat,k < i.R.length→(0≤rd i.R (k:Nat)∧rd i.R (k:Nat)≤255)∧(0≤rd i.G (k:Nat)∧rd i.G (k:Nat)≤255)∧(0≤rd i.B (k:Nat)∧rd i.B (k:Nat)≤255):=by
  obtain ⟨_,⟨a,x⟩,⟨b,y⟩,⟨c,z⟩⟩:=h
  have e1:i.G.length = i.R.length:=by omega
  have e2:i.B.length = i.R.length:=by omega
  exact ⟨e1,e2,fun k hk => ⟨allVal_rd.1 x k hk,allVal_rd.1 y k (by omega),allVal_rd.1 z k (by omega)⟩⟩
structure CutA where
  a:ImA
  x:Int
  y:Int
  w:Int
  h:Int
def CutA.In (c:CutA):Prop:=0≤c.x∧0≤c.y∧0≤c.w∧0≤c.h∧c.x + c.w≤c.a.i.w∧c.y + c.h≤c.a.i.h
instance (c:CutA):Decidable c.In:=by unfold CutA.In; infer_instance
def CutA.Ok (c:CutA):Prop:=c.a.i.Ok∧c.In
instance (c:CutA):Decidable c.Ok:=by unfold CutA.Ok; infer_instance
def ir101:IR :=
  .seq (.reg false [⟨some 4,none,⟨[],[]⟩,.mov (.k (.bool false))⟩] [4] []) (.seq (.reg false [⟨some 5,none,⟨[],[]⟩,.mov (.t 0)⟩,
    ⟨some 6,none,⟨[],[]⟩,.bin 0 .geq (.t 5) (.k (.int .i64 0))⟩,
    ⟨some 7,none,⟨[],[]⟩,.mov (.t 6)⟩,
    ⟨some 8,some (7,true),⟨[],[]⟩,.mov (.t 1)⟩,
    ⟨some 9,some (7,true),⟨[],[]⟩,.bin 0 .geq (.t 8) (.k (.int .i64 0))⟩,
    ⟨some 10,none,⟨[],[]⟩,.pick (.t 7) (.t 9) (.k (.bool false))⟩,
    ⟨some 11,none,⟨[],[]⟩,.mov (.t 10)⟩,
    ⟨some 12,some (11,true),⟨[],[]⟩,.mov (.t 0)⟩,
    ⟨some 13,some (11,true),⟨[],[]⟩,.bin 0 .leq (.t 12) (.k (.int .i64 200))⟩,
    ⟨some 14,none,⟨[],[]⟩,.pick (.t 11) (.t 13) (.k (.bool false))⟩,
    ⟨some 15,none,⟨[],[]⟩,.mov (.t 14)⟩,
    ⟨some 16,some (15,true),⟨[],[]⟩,.mov (.t 1)⟩,
    ⟨some 17,some (15,true),⟨[],[]⟩,.bin 0 .leq (.t 16) (.k (.int .i64 200))⟩,
    ⟨some 18,none,⟨[],[]⟩,.pick (.t 15) (.t 17) (.k (.bool false))⟩,
    ⟨some 4,none,⟨[],[]⟩,.mov (.t 18)⟩] [0,1,5,6,7,8,9,10,11,12,13,14,15,16,17,18] []) (.ret))
set_option maxRecDepth 4000 in
theorem comp101:(Try.f101.body.bind fun c => compC tab isP chkAll ir101 c) = some ir101:=by kernel_rfl
def ir103:IR :=
  .seq (.reg false [⟨some 4,none,⟨[],[]⟩,.mov (.k (.bool false))⟩] [4] []) (.seq (.reg false [⟨some 5,none,⟨[],[]⟩,.mov (.t 0)⟩,
    ⟨some 6,none,⟨[],[]⟩,.ld false none 0 0 (.t 1)⟩,
    ⟨some 7,none,⟨[],[]⟩,.bin 0 .lss (.t 5) (.t 6)⟩,
    ⟨some 8,none,⟨[],[]⟩,.mov (.t 7)⟩,
    ⟨some 9,some (8,false),⟨[],[]⟩,.mov (.t 0)⟩,
    ⟨some 10,some (8,false),⟨[],[]⟩,.ld false none 0 0 (.t 2)⟩,
    ⟨some 11,some (8,false),⟨[],[]⟩,.bin 0 .gtr (.t 9) (.t 10)⟩,
    ⟨some 12,none,⟨[],[]⟩,.pick (.t 8) (.k (.bool true)) (.t 11)⟩,
    ⟨some 4,none,⟨[],[]⟩,.mov (.t 12)⟩] [0,1,2,5,6,7,8,9,10,11,12] []) (.ret))
set_option maxRecDepth 4000 in
theorem comp103:(Try.f103.body.bind fun c => compC tab isP chkAll ir103 c) = some ir103:=by kernel_rfl
def b114_1:IR :=
  .seq (.reg false [⟨some 9,none,⟨[],[]⟩,.bin 0 .lss (.t 8) (.t 7)⟩] [] []) (.seq (.cond (.t 9) (.skip) (.exit 0)) (.seq (.block 1 (.seq (.reg false [⟨some 10,none,⟨[],[]⟩,.mov (.t 8)⟩,
    ⟨some 5,none,⟨[],[]⟩,.mov (.t 10)⟩] [9,10] []) (.seq (.reg false [⟨some 11,none,⟨[],[]⟩,.mov (.t 1)⟩,
    ⟨some 12,none,⟨[],[]⟩,.mov (.t 0)⟩,
    ⟨some 13,none,⟨[],[]⟩,.mov (.t 5)⟩,
    ⟨some 14,none,⟨[],[]⟩,.idxS (.t 12) (.t 13) 1⟩,
    ⟨some 15,none,⟨[],[]⟩,.ld true none 0 0 (.t 14)⟩,
    ⟨some 16,none,⟨[],[]⟩,.callv (some 4) 10 (.t 11) [.t 15]⟩] [11,12,13,14,15] []) (.cond (.t 16) (.seq (.reg false [⟨some 17,none,⟨[],[]⟩,.mov (.t 5)⟩,
    ⟨some 4,none,⟨[],[]⟩,.mov (.t 17)⟩] [0,1,5,7,8,16,17] []) (.ret)) (.skip))))) (.reg false [⟨some 18,none,⟨[],[]⟩,.bin 0 .add (.t 8) (.k (.int .i64 1))⟩,
    ⟨some 8,none,⟨[],[]⟩,.mov (.t 18)⟩] [4,5,16,18] [])))
def r114_2:IR :=
  .seq (.reg false [⟨some 4,none,⟨[],[]⟩,.mov (.k (.int .i64 (-1)))⟩] [0,1,7,8] []) (.ret)
def ir114:IR :=
  .seq (.reg false [⟨some 4,none,⟨[],[]⟩,.mov (.k (.int .i64 0))⟩] [4] []) (.seq (.seq (.reg false [⟨some 6,none,⟨[],[]⟩,.mov (.t 0)⟩,
    ⟨some 7,none,⟨[],[]⟩,.len (.t 6)⟩,
    ⟨some 8,none,⟨[],[]⟩,.mov (.k (.int .i64 0))⟩] [6] []) (.block 0 (.loop b114_1))) (r114_2))
def kp114_1:List Nat:=[0,1,7,8]
def kl114_1:List Nat:=[10,11,12,13]
attribute [push_cast] kp114_1 kl114_1
set_option maxRecDepth 4000 in
theorem comp114:(Try.f114.body.bind fun c => compC tab isP chkAll ir114 c) = some ir114:=by kernel_rfl
def ir102:IR :=
  .seq (.reg false [⟨some 4,none,⟨[],[]⟩,.mov (.k (.bool false))⟩] [4] []) (.seq (.reg false [⟨some 5,none,⟨[],[]⟩,.mov (.t 0)⟩,
    ⟨some 6,none,⟨[],[]⟩,.mov (.t 1)⟩,
    ⟨some 7,none,⟨[],[]⟩,.call (some 4) 10 114 [.t 5,.t 6]⟩,
    ⟨some 8,none,⟨[],[]⟩,.bin 0 .geq (.t 7) (.k (.int .i64 0))⟩,
    ⟨some 4,none,⟨[],[]⟩,.mov (.t 8)⟩] [0,1,5,6,7,8] []) (.ret))
set_option maxRecDepth 4000 in
theorem comp102:(Try.f102.body.bind fun c => compC tab isP chkAll ir102 c) = some ir102:=by kernel_rfl
def ir79:IR :=
  .seq (.reg false [⟨some 3,none,⟨[],[]⟩,.box 10 (.t 0)⟩,
    ⟨some 4,none,⟨[],[]⟩,.box 11 (.t 1)⟩,
    ⟨some 5,none,⟨[],[]⟩,.box 12 (.t 2)⟩,
    ⟨some 6,none,⟨[],[]⟩,.mov (.k (.bool false))⟩] [0,1,2,6] []) (.seq (.seq (.reg false [⟨some 7,none,⟨[],[]⟩,.fld (.t 3) 0⟩,
    ⟨some 8,none,⟨[],[]⟩,.ld false none 0 0 (.t 7)⟩,
    ⟨some 9,none,⟨[],[]⟩,.fld (.t 3) 1⟩,
    ⟨some 10,none,⟨[],[]⟩,.ld false none 0 0 (.t 9)⟩,
    ⟨some 11,none,⟨[],[]⟩,.callp 101 [.t 8,.t 10]⟩,
    ⟨some 12,none,⟨[],[]⟩,.not (.t 11)⟩,
    ⟨some 13,none,⟨[],[]⟩,.mov (.t 12)⟩,
    ⟨some 14,some (13,false),⟨[],[]⟩,.fld (.t 3) 0⟩,
    ⟨some 15,some (13,false),⟨[],[]⟩,.ld false none 0 0 (.t 14)⟩,
    ⟨some 16,some (13,false),⟨[],[]⟩,.fld (.t 3) 1⟩,
    ⟨some 17,some (13,false),⟨[],[]⟩,.ld false none 0 0 (.t 16)⟩,
    ⟨some 18,some (13,false),⟨[],[]⟩,.bin 0 .mul (.t 15) (.t 17)⟩,
    ⟨some 19,some (13,false),⟨[],[]⟩,.fld (.t 3) 2⟩,
    ⟨some 20,some (13,false),⟨[],[]⟩,.ld false none 0 0 (.t 19)⟩,
    ⟨some 21,some (13,false),⟨[],[]⟩,.len (.t 20)⟩,
    ⟨some 22,some (13,false),⟨[],[]⟩,.bin 0 .neq (.t 18) (.t 21)⟩,
    ⟨some 23,none,⟨[],[]⟩,.pick (.t 13) (.k (.bool true)) (.t 22)⟩,
    ⟨some 24,none,⟨[],[]⟩,.mov (.t 23)⟩,
    ⟨some 25,some (24,false),⟨[],[]⟩,.fld (.t 3) 2⟩,
    ⟨some 26,some (24,false),⟨[],[]⟩,.ld false none 0 0 (.t 25)⟩,
    ⟨some 27,some (24,false),⟨[],[]⟩,.len (.t 26)⟩,
    ⟨some 28,some (24,false),⟨[],[]⟩,.bin 0 .gtr (.t 27) (.k (.int .i64 8192))⟩,
    ⟨some 29,none,⟨[],[]⟩,.pick (.t 24) (.k (.bool true)) (.t 28)⟩] [7,8,9,10,11,12,13,14,15,16,17,18,19,20,21,22,23,24,25,26,27,28] []) (.cond (.t 29) (.seq (.reg false [⟨some 6,none,⟨[],[]⟩,.mov (.k (.bool false))⟩] [3,4,5,29] []) (.ret)) (.skip))) (.seq (.reg false [⟨some 30,none,⟨[],[]⟩,.fld (.t 3) 2⟩,
    ⟨some 31,none,⟨[],[]⟩,.ld false none 0 0 (.t 30)⟩,
    ⟨some 32,none,⟨[],[]⟩,.mkf 103 [.t 4,.t 5]⟩,
    ⟨some 33,none,⟨[],[]⟩,.call (some 4) 13 102 [.t 31,.t 32]⟩,
    ⟨some 34,none,⟨[],[]⟩,.not (.t 33)⟩,
    ⟨some 6,none,⟨[],[]⟩,.mov (.t 34)⟩] [3,4,5,29,30,31,32,33,34] []) (.ret)))
set_option maxRecDepth 4000 in
theorem comp79:(Try.f79.body.bind fun c => compC tab isP chkAll ir79 c) = some ir79:=by kernel_rfl
def ir39:IR :=
  .seq (.reg false [⟨some 1,none,⟨[],[]⟩,.box 10 (.t 0)⟩,
    ⟨some 2,none,⟨[],[]⟩,.mov (.k (.bool false))⟩] [0,2] []) (.seq (.reg false [⟨some 3,none,⟨[],[]⟩,.ld false (some 3) 0 0 (.t 1)⟩,
    ⟨some 4,none,⟨[],[]⟩,.call (some 4) 11 79 [.t 3,.k (.int .i64 (-16777216)),.k (.int .i64 16777216)]⟩,
    ⟨some 2,none,⟨[],[]⟩,.mov (.t 4)⟩] [1,3,4] []) (.ret))
set_option maxRecDepth 4000 in
theorem comp39:(Try.f39.body.bind fun c => compC tab isP chkAll ir39 c) = some ir39:=by kernel_rfl
def firstB (p:Int→Bool) (xs:List Int):Int:=if xs.findIdx p < xs.length then xs.findIdx p else -1
theorem firstB_at {p:Int→Bool} {xs:List Int} {i:Nat} (h:i < xs.length) (hb:p (rd xs i) = true) (hj:∀ j,j < i→p (rd xs (j:Nat)) = false):firstB p xs = i:=by
  have:xs.findIdx p = i:=by
    rw [List.findIdx_eq h]
    refine ⟨by rw [rd_lt xs i h] at hb; exact hb,fun j hji => ?_⟩
    have:=hj j hji
    rw [rd_lt xs j (by omega)] at this
    exact this
  unfold firstB
  rw [this,if_pos h]
theorem firstB_no {p:Int→Bool} {xs:List Int} (hj:∀ j,j < xs.length→p (rd xs (j:Nat)) = false):firstB p xs = -1:=by
  unfold firstB
  rw [if_neg]
  intro h
  have:=List.findIdx_getElem (w:=h)
  have h2:=hj _ h
  rw [rd_lt xs _ h,this] at h2
  cases h2
theorem firstB_iff (p:Int→Bool) (xs:List Int):0≤firstB p xs↔∃ n,n ∈ xs∧p n = true:=by
  unfold firstB
  have h:=List.findIdx_lt_length (xs:=xs) (p:=p)
  by_cases hh:xs.findIdx p < xs.length
  · rw [if_pos hh]
    exact ⟨fun _ => h.1 hh,fun _ => by omega⟩
  · rw [if_neg hh]
    exact ⟨fun h => by omega,fun H => absurd (h.2 H) hh⟩
def sides4F:EntryP
  | [.int .i64 w,.int .i64 h] => some (True,.bool (decide (0≤w∧0≤h∧w≤200∧h≤200)))
  | _ => none
attribute [push_cast] sides4F
theorem p101:EntryPOk Try.prog 101 sides4F:=by
  refine ⟨⟨_,Try.func101,by kernel_rfl,by kernel_rfl⟩,fun us p v h hp => ?_⟩
  unfold sides4F at h
  split at h <;> cases h
  refine tri_evS (hyp (l:=[]) (lp:=[]) trivial trivial) Try.func101 comp101 (rs:=[.tmp 4]) (by rfl) Try.ntmps101 10 ?_
  simp -implicitDefEqProofs only [push_cast,zz,BEq.rfl,ite_true,ite_false,List.append_nil,reduceCtorEq,Nat.reduceAdd,Nat.reduceSub,Nat.reduceMul,Nat.reduceLeDiff,Nat.reduceLT,Nat.reduceEqDiff,Nat.reduceBEq,Nat.reduceBNe,Int.reduceNeg,Int.reduceToNat,ir101,sides4F]
structure OutA where
  L1:Xf.Loc
  L2:Xf.Loc
  n:Int
  lo:Int
  hi:Int
def outB (lo hi n:Int):Bool:=decide (n < lo∨hi < n)
def fs103:FS where
  A:=OutA
  args:=fun a => [.int .i64 a.n,.ptr 0 a.L1 0 0 0,.ptr 1 a.L2 0 0 0]
  mem:=fun a => [some (.ro,a.L1,.cells [.int .i64 a.lo]),some (.ro,a.L2,.cells [.int .i64 a.hi])]
  pre:=fun _ => True
  res:=fun a _ => .bool (outB a.lo a.hi a.n)
  out:=fun _ _ => []
  new:=fun _ _ => []
def inv103:List SV→Look→Option (OutA × List Nat)
  | [.int .i64 n,.ptr c1 _ 0 0 0,.ptr c2 _ 0 0 0],look => match rowC (look c1),rowC (look c2) with
    | some (L1,[.int .i64 lo]),some (L2,[.int .i64 hi]) => some (⟨L1,L2,n,lo,hi⟩,[c1,c2])
    | _,_ => none
  | _,_ => none
attribute [push_cast] inv103
theorem ok103:FSOk Try.prog 103 fs103:=by
  refine ⟨⟨_,Try.func103,by kernel_rfl,by kernel_rfl⟩,fun a => ⟨by simp [fs103,push_cast,noMine,argOwn,Chunk.frArg],by simp [fs103,push_cast,outOk,Chunk.ext],fun x => .inl (by simp [fs103,push_cast,frNew,frOut,Chunk.fr])⟩,fun a hp => ?_⟩
  obtain ⟨L1,L2,n,lo,hi⟩:=a
  change Tri Try.prog 103 [.int .i64 n,.ptr 0 L1 0 0 0,.ptr 1 L2 0 0 0] [some (.ro,L1,.cells [.int .i64 lo]),some (.ro,L2,.cells [.int .i64 hi])] (postF fs103 ⟨L1,L2,n,lo,hi⟩)
  refine tri_evS (hyp (l:=[]) (lp:=[]) trivial trivial) Try.func103 comp103 (rs:=[.tmp 4]) (by rfl) Try.ntmps103 10 ?_
  simp -implicitDefEqProofs only [push_cast,zz,BEq.rfl,ite_true,ite_false,List.append_nil,reduceCtorEq,Nat.reduceAdd,Nat.reduceSub,Nat.reduceMul,Nat.reduceLeDiff,Nat.reduceLT,Nat.reduceEqDiff,Nat.reduceBEq,Nat.reduceBNe,Int.reduceNeg,Int.reduceToNat,ir103]
  refine postF.mk' (fun _ => default) [some 0,some 1] ?_
  simp -implicitDefEqProofs only [push_cast,zz,BEq.rfl,ite_true,ite_false,List.append_nil,reduceCtorEq,Nat.reduceAdd,Nat.reduceSub,Nat.reduceMul,Nat.reduceLeDiff,Nat.reduceLT,Nat.reduceEqDiff,Nat.reduceBEq,Nat.reduceBNe,Int.reduceNeg,Int.reduceToNat,fs103,outB]
def ent103:Entry:=spOf fs103 inv103
theorem e103:EntryOk Try.prog 103 ent103:=entry_of ok103 inv103
@[push_cast] theorem ent103_app (us:List SV) (look:Look) (x:Nat→Xf.Loc) (k:Nat):ent103 us look x k = spOf fs103 inv103 us look x k:=rfl
structure OutR where
  L:Xf.Loc
  xs:List Int
  L1:Xf.Loc
  L2:Xf.Loc
  lo:Int
  hi:Int
def fs114w:FS where
  A:=OutR
  args:=fun a => [.sl 0 a.L 1 0 a.xs.length,.fn 103 [.ptr 1 a.L1 0 0 0,.ptr 2 a.L2 0 0 0]]
  mem:=fun a => [some (.ro,a.L,.ints .i64 a.xs),some (.ro,a.L1,.cells [.int .i64 a.lo]),some (.ro,a.L2,.cells [.int .i64 a.hi])]
  pre:=fun a => a.xs.length≤140737488355328
  res:=fun a _ => .int .i64 (firstB (outB a.lo a.hi) a.xs)
  out:=fun _ _ => []
  new:=fun _ _ => []
def inv114w:List SV→Look→Option (OutR × List Nat)
  | [.sl c _ 1 0 _,.fn 103 [.ptr c1 _ 0 0 0,.ptr c2 _ 0 0 0]],look => match rowI (look c),rowC (look c1),rowC (look c2) with
    | some (L,.i64,xs),some (L1,[.int .i64 lo]),some (L2,[.int .i64 hi]) => some (⟨L,xs,L1,L2,lo,hi⟩,[c,c1,c2])
    | _,_,_ => none
  | _,_ => none
attribute [push_cast] inv114w
theorem ok114w:FSOk Try.prog 114 fs114w:=by
  refine ⟨⟨_,Try.func114,by kernel_rfl,by kernel_rfl⟩,fun a => ⟨by simp [fs114w,push_cast,noMine,argOwn,Chunk.frArg],by simp [fs114w,push_cast,outOk,Chunk.ext],fun x => .inl (by simp [fs114w,push_cast,frNew,frOut,Chunk.fr])⟩,fun a hp => ?_⟩
  obtain ⟨L,xs,L1,L2,lo,hi⟩:=a
  change xs.length≤140737488355328 at hp
  change Tri Try.prog 114 [.sl 0 L 1 0 xs.length,.fn 103 [.ptr 1 L1 0 0 0,.ptr 2 L2 0 0 0]] [some (.ro,L,.ints .i64 xs),some (.ro,L1,.cells [.int .i64 lo]),some (.ro,L2,.cells [.int .i64 hi])] (postF fs114w ⟨L,xs,L1,L2,lo,hi⟩)
  refine tri_evS (hyp (l:=[(103,ent103)]) (lp:=[]) ⟨e103,trivial⟩ trivial) Try.func114 comp114 (rs:=[.tmp 4]) (by rfl) Try.ntmps114 14 ?_
  simp -implicitDefEqProofs only [push_cast,zz,BEq.rfl,ite_true,ite_false,List.append_nil,reduceCtorEq,Nat.reduceAdd,Nat.reduceSub,Nat.reduceMul,Nat.reduceLeDiff,Nat.reduceLT,Nat.reduceEqDiff,Nat.reduceBEq,Nat.reduceBNe,Int.reduceNeg,Int.reduceToNat,ir114]
  refine evS_loopU (A:=Nat) kp114_1 kl114_1 (fun i => [(8,.int .i64 i)]) (fun _ => [])
    (fun i => i≤xs.length∧∀ j,j < i→outB lo hi (rd xs (j:Nat)) = false) (fun i => xs.length - i) 0 ⟨by omega,by omega⟩ (Sub.pt ?_) ?_
  · simp -implicitDefEqProofs only [push_cast,zz,BEq.rfl,ite_true,ite_false,List.append_nil,reduceCtorEq,Nat.reduceAdd,Nat.reduceSub,Nat.reduceMul,Nat.reduceLeDiff,Nat.reduceLT,Nat.reduceEqDiff,Nat.reduceBEq,Nat.reduceBNe,Int.reduceNeg,Int.reduceToNat]
  intro i ⟨h1,h2⟩ K hK
  simp -implicitDefEqProofs only [push_cast,zz,BEq.rfl,ite_true,ite_false,List.append_nil,reduceCtorEq,Nat.reduceAdd,Nat.reduceSub,Nat.reduceMul,Nat.reduceLeDiff,Nat.reduceLT,Nat.reduceEqDiff,Nat.reduceBEq,Nat.reduceBNe,Int.reduceNeg,Int.reduceToNat,b114_1,r114_2,fs103]
  refine ⟨fun h => ⟨by omega,h,by omega,h,fun hb => ?_,fun hb => ⟨by omega,by omega,?_⟩⟩,fun h => ?_⟩
  · have e:=firstB_at (by omega) hb h2
    exact postF.mk' (fun _ => default) [some 0,some 1,some 2] (by simp -implicitDefEqProofs only [push_cast,zz,BEq.rfl,ite_true,ite_false,List.append_nil,reduceCtorEq,Nat.reduceAdd,Nat.reduceSub,Nat.reduceMul,Nat.reduceLeDiff,Nat.reduceLT,Nat.reduceEqDiff,Nat.reduceBEq,Nat.reduceBNe,Int.reduceNeg,Int.reduceToNat,fs114w,e])
  · refine hK (i + 1) ⟨by omega,?_⟩ (show xs.length - (i + 1) < xs.length - i by omega) _ _ (Sub.pt ?_)
    · intro j hj
      by_cases e:j = i
      · subst e; exact hb
      · exact h2 j (by omega)
    · simp -implicitDefEqProofs only [push_cast,zz,BEq.rfl,ite_true,ite_false,List.append_nil,reduceCtorEq,Nat.reduceAdd,Nat.reduceSub,Nat.reduceMul,Nat.reduceLeDiff,Nat.reduceLT,Nat.reduceEqDiff,Nat.reduceBEq,Nat.reduceBNe,Int.reduceNeg,Int.reduceToNat]
  · have e:=firstB_no (p:=outB lo hi) (xs:=xs) (fun j hj => h2 j (by omega))
    exact postF.mk' (fun _ => default) [some 0,some 1,some 2] (by simp -implicitDefEqProofs only [push_cast,zz,BEq.rfl,ite_true,ite_false,List.append_nil,reduceCtorEq,Nat.reduceAdd,Nat.reduceSub,Nat.reduceMul,Nat.reduceLeDiff,Nat.reduceLT,Nat.reduceEqDiff,Nat.reduceBEq,Nat.reduceBNe,Int.reduceNeg,Int.reduceToNat,fs114w,e])
def ent114w:Entry:=spOf fs114w inv114w
theorem e114w:EntryOk Try.prog 114 ent114w:=entry_of ok114w inv114w
@[push_cast] theorem ent114w_app (us:List SV) (look:Look) (x:Nat→Xf.Loc) (k:Nat):ent114w us look x k = spOf fs114w inv114w us look x k:=rfl
def AllIn (lo hi:Int) (xs:List Int):Prop:=∀ n,n ∈ xs→lo≤n∧n≤hi
instance (lo hi:Int) (xs:List Int):Decidable (AllIn lo hi xs):=by unfold AllIn; infer_instance
theorem allIn_iff {lo hi:Int} {xs:List Int}:(0≤firstB (outB lo hi) xs) = ¬ AllIn lo hi xs:=by
  rw [firstB_iff]
  unfold AllIn outB
  simp only [decide_eq_true_eq,Classical.not_forall,eq_iff_iff]
  constructor
  · rintro ⟨n,h1,h2⟩; exact ⟨n,h1,by omega⟩
  · rintro ⟨n,h1,h2⟩; exact ⟨n,h1,by omega⟩
theorem allIn_rd {lo hi:Int} {xs:List Int}:AllIn lo hi xs↔∀ j:Nat,j < xs.length→lo≤rd xs j∧rd xs j≤hi:=by
  unfold AllIn
  constructor
  · intro h j hj; rw [rd_lt xs j hj]; exact h _ (List.getElem_mem hj)
  · intro h n hn
    obtain ⟨j,hj,rfl⟩:=List.mem_iff_getElem.1 hn
    have:=h j hj
    rwa [rd_lt xs j hj] at this
def fs102w:FS:={ fs114w with res:=fun a _ => .bool (decide (¬ AllIn a.lo a.hi a.xs)) }
theorem ok102w:FSOk Try.prog 102 fs102w:=by
  refine ⟨⟨_,Try.func102,by kernel_rfl,by kernel_rfl⟩,fun a => ⟨by simp [fs102w,fs114w,push_cast,noMine,argOwn,Chunk.frArg],by simp [fs102w,fs114w,push_cast,outOk,Chunk.ext],fun x => .inl (by simp [fs102w,fs114w,push_cast,frNew,frOut,Chunk.fr])⟩,fun a hp => ?_⟩
  obtain ⟨L,xs,L1,L2,lo,hi⟩:=a
  change xs.length≤140737488355328 at hp
  change Tri Try.prog 102 [.sl 0 L 1 0 xs.length,.fn 103 [.ptr 1 L1 0 0 0,.ptr 2 L2 0 0 0]] [some (.ro,L,.ints .i64 xs),some (.ro,L1,.cells [.int .i64 lo]),some (.ro,L2,.cells [.int .i64 hi])] (postF fs102w ⟨L,xs,L1,L2,lo,hi⟩)
  refine tri_evS (hyp (l:=[(114,ent114w)]) (lp:=[]) ⟨e114w,trivial⟩ trivial) Try.func102 comp102 (rs:=[.tmp 4]) (by rfl) Try.ntmps102 14 ?_
  simp -implicitDefEqProofs only [push_cast,zz,BEq.rfl,ite_true,ite_false,List.append_nil,reduceCtorEq,Nat.reduceAdd,Nat.reduceSub,Nat.reduceMul,Nat.reduceLeDiff,Nat.reduceLT,Nat.reduceEqDiff,Nat.reduceBEq,Nat.reduceBNe,Int.reduceNeg,Int.reduceToNat,ir102,fs114w]
  exact ⟨hp,postF.mk' (fun _ => default) [some 0,some 1,some 2] (by simp -implicitDefEqProofs only [push_cast,zz,BEq.rfl,ite_true,ite_false,List.append_nil,reduceCtorEq,Nat.reduceAdd,Nat.reduceSub,Nat.reduceMul,Nat.reduceLeDiff,Nat.reduceLT,Nat.reduceEqDiff,Nat.reduceBEq,Nat.reduceBNe,Int.reduceNeg,Int.reduceToNat,fs102w,fs114w,allIn_iff])⟩
def ent102w:Entry:=spOf fs102w inv114w
theorem e102w:EntryOk Try.prog 102 ent102w:=entry_of ok102w inv114w
@[push_cast] theorem ent102w_app (us:List SV) (look:Look) (x:Nat→Xf.Loc) (k:Nat):ent102w us look x k = spOf fs102w inv114w us look x k:=rfl
def Pl.In (p:Pl) (lo hi:Int):Prop:=SidesOk p.w p.h∧p.xs.length = p.w * p.h∧AllIn lo hi p.xs
instance (p:Pl) (lo hi:Int):Decidable (p.In lo hi):=by unfold Pl.In; infer_instance
structure PlA where
  p:Pl
  L:Xf.Loc
structure PlW where
  a:PlA
  lo:Int
  hi:Int
def getP (look:Look):SV→Option (PlA × List Nat)
  | .agg [.int .i64 w,.int .i64 h,.sl c _ 1 0 _] => match rowI (lkZ look (.ints .i64 []) c) with
    | some (L,.i64,xs) => some (⟨⟨w,h,xs⟩,L⟩,[c])
    | _ => none
  | _ => none
attribute [push_cast] getP
def fs79:FS where
  A:=PlW
  args:=fun a => [plV a.a.p a.a.L 0,.int .i64 a.lo,.int .i64 a.hi]
  mem:=fun a => [some (.ro,a.a.L,.ints .i64 a.a.p.xs)]
  pre:=fun a => a.a.p.xs.length≤140737488355328
  res:=fun a _ => .bool (decide (a.a.p.In a.lo a.hi))
  out:=fun _ _ => []
  new:=fun _ _ => []
def inv79:List SV→Look→Option (PlW × List Nat)
  | [v,.int .i64 lo,.int .i64 hi],look => match getP look v with
    | some (a,g) => some (⟨a,lo,hi⟩,g)
    | _ => none
  | _,_ => none
attribute [push_cast] inv79
theorem ok79:FSOk Try.prog 79 fs79:=by
  refine ⟨⟨_,Try.func79,by kernel_rfl,by kernel_rfl⟩,fun a => ⟨by simp [fs79,push_cast,noMine,argOwn,Chunk.frArg],by simp [fs79,push_cast,outOk,Chunk.ext],fun x => .inl (by simp [fs79,push_cast,frNew,frOut,Chunk.fr])⟩,fun a hp => ?_⟩
  obtain ⟨⟨⟨w,h,xs⟩,L⟩,lo,hi⟩:=a
  change xs.length≤140737488355328 at hp
  change Tri Try.prog 79 [plV ⟨w,h,xs⟩ L 0,.int .i64 lo,.int .i64 hi] [some (.ro,L,.ints .i64 xs)] (postF fs79 ⟨⟨⟨w,h,xs⟩,L⟩,lo,hi⟩)
  refine tri_evS (hyp (l:=[(102,ent102w)]) (lp:=[(101,sides4F)]) ⟨e102w,trivial⟩ ⟨p101,trivial⟩) Try.func79 comp79 (rs:=[.tmp 6]) (by rfl) Try.ntmps79 17 ?_
  simp -implicitDefEqProofs only [push_cast,zz,BEq.rfl,ite_true,ite_false,List.append_nil,reduceCtorEq,Nat.reduceAdd,Nat.reduceSub,Nat.reduceMul,Nat.reduceLeDiff,Nat.reduceLT,Nat.reduceEqDiff,Nat.reduceBEq,Nat.reduceBNe,Int.reduceNeg,Int.reduceToNat,ir79,fs102w,fs114w,hp]
  intro X
  refine ⟨fun H => ?_,fun H => ⟨H.1,H.2.1,H.2.2.1,H.2.2.2,H⟩,fun hn => ?_,fun hy => ?_⟩
  · have:=mul_bd H.1 H.2.2.1 H.2.1 H.2.2.2
    omega
  · have e:¬ (⟨w,h,xs⟩:Pl).In lo hi:=fun H => by
      obtain ⟨⟨a1,a2,a3,a4,a5⟩,b,_⟩:=H
      simp only at a1 a2 a3 a4 a5 b
      omega
    refine postF.mk' (fun _ => default) [some 0] ?_
    simp -implicitDefEqProofs only [push_cast,zz,BEq.rfl,ite_true,ite_false,List.append_nil,reduceCtorEq,Nat.reduceAdd,Nat.reduceSub,Nat.reduceMul,Nat.reduceLeDiff,Nat.reduceLT,Nat.reduceEqDiff,Nat.reduceBEq,Nat.reduceBNe,Int.reduceNeg,Int.reduceToNat,fs79,e,decide_false]
  · have e:(AllIn lo hi xs)↔(⟨w,h,xs⟩:Pl).In lo hi:=by
      unfold Pl.In SidesOk
      simp only
      constructor
      · intro H; refine ⟨⟨by omega,by omega,by omega,by omega,by omega⟩,by omega,H⟩
      · intro H; exact H.2.2
    refine postF.mk' (fun _ => default) [some 0] ?_
    simp -implicitDefEqProofs only [push_cast,zz,BEq.rfl,ite_true,ite_false,List.append_nil,reduceCtorEq,Nat.reduceAdd,Nat.reduceSub,Nat.reduceMul,Nat.reduceLeDiff,Nat.reduceLT,Nat.reduceEqDiff,Nat.reduceBEq,Nat.reduceBNe,Int.reduceNeg,Int.reduceToNat,fs79,e]
def ent79:Entry:=spOf fs79 inv79
theorem e79:EntryOk Try.prog 79 ent79:=entry_of ok79 inv79
@[push_cast] theorem ent79_app (us:List SV) (look:Look) (x:Nat→Xf.Loc) (k:Nat):ent79 us look x k = spOf fs79 inv79 us look x k:=rfl
def Pl.Ok (p:Pl):Prop:=p.In (-16777216) 16777216
def Pl.Gr (p:Pl):Prop:=p.In 0 255
instance (p:Pl):Decidable p.Ok:=by unfold Pl.Ok; infer_instance
instance (p:Pl):Decidable p.Gr:=by unfold Pl.Gr; infer_instance
def fs39:FS where
  A:=PlA
  args:=fun a => [plV a.p a.L 0]
  mem:=fun a => [some (.ro,a.L,.ints .i64 a.p.xs)]
  pre:=fun a => a.p.xs.length≤140737488355328
  res:=fun a _ => .bool (decide a.p.Ok)
  out:=fun _ _ => []
  new:=fun _ _ => []
def inv39:List SV→Look→Option (PlA × List Nat)
  | [v],look => getP look v
  | _,_ => none
attribute [push_cast] inv39
theorem ok39:FSOk Try.prog 39 fs39:=by
  refine ⟨⟨_,Try.func39,by kernel_rfl,by kernel_rfl⟩,fun a => ⟨by simp [fs39,push_cast,noMine,argOwn,Chunk.frArg],by simp [fs39,push_cast,outOk,Chunk.ext],fun x => .inl (by simp [fs39,push_cast,frNew,frOut,Chunk.fr])⟩,fun a hp => ?_⟩
  obtain ⟨⟨w,h,xs⟩,L⟩:=a
  change xs.length≤140737488355328 at hp
  change Tri Try.prog 39 [plV ⟨w,h,xs⟩ L 0] [some (.ro,L,.ints .i64 xs)] (postF fs39 ⟨⟨w,h,xs⟩,L⟩)
  refine tri_evS (hyp (l:=[(79,ent79)]) (lp:=[]) ⟨e79,trivial⟩ trivial) Try.func39 comp39 (rs:=[.tmp 2]) (by rfl) Try.ntmps39 15 ?_
  simp -implicitDefEqProofs only [push_cast,zz,BEq.rfl,ite_true,ite_false,List.append_nil,reduceCtorEq,Nat.reduceAdd,Nat.reduceSub,Nat.reduceMul,Nat.reduceLeDiff,Nat.reduceLT,Nat.reduceEqDiff,Nat.reduceBEq,Nat.reduceBNe,Int.reduceNeg,Int.reduceToNat,ir39,fs79,hp]
  refine fun X => postF.mk' (fun _ => default) [some 0] ?_
  simp -implicitDefEqProofs only [push_cast,zz,BEq.rfl,ite_true,ite_false,List.append_nil,reduceCtorEq,Nat.reduceAdd,Nat.reduceSub,Nat.reduceMul,Nat.reduceLeDiff,Nat.reduceLT,Nat.reduceEqDiff,Nat.reduceBEq,Nat.reduceBNe,Int.reduceNeg,Int.reduceToNat,fs39,Pl.Ok]
def ent39:Entry:=spOf fs39 inv39
theorem e39:EntryOk Try.prog 39 ent39:=entry_of ok39 inv39
@[push_cast] theorem ent39_app (us:List SV) (look:Look) (x:Nat→Xf.Loc) (k:Nat):ent39 us look x k = spOf fs39 inv39 us look x k:=rfl
def Pl.Eq (a b:Pl):Prop:=a.w = b.w∧a.h = b.h∧a.xs = b.xs
instance (a b:Pl):Decidable (a.Eq b):=by unfold Pl.Eq; infer_instance
theorem Pl.Eq.refl (a:Pl):a.Eq a:=⟨rfl,rfl,rfl⟩
structure Pl2 where
  a:PlA
  b:PlA
structure Bk where
  y:PlA
  u:PlA
  v:PlA
def Bk.planes (b:Bk):Prop:=b.y.p.Ok∧b.u.p.Ok∧b.v.p.Ok
def Bk.sides (b:Bk):Prop:=b.u.p.w = b.y.p.w∧b.u.p.h = b.y.p.h∧b.v.p.w = b.y.p.w∧b.v.p.h = b.y.p.h
instance (b:Bk):Decidable b.planes:=by unfold Bk.planes; infer_instance
instance (b:Bk):Decidable b.sides:=by unfold Bk.sides; infer_instance
def Bk.Ok (b:Bk):Prop:=b.planes∧b.sides
instance (b:Bk):Decidable b.Ok:=by unfold Bk.Ok; infer_instance
theorem Bk.Ok.val {w h w1 h1 w2 h2:Int} {xs ys ws:List Int} {L1 L2 L3:Xf.Loc} (H:(⟨⟨⟨w,h,xs⟩,L1⟩,⟨⟨w1,h1,ys⟩,L2⟩,⟨⟨w2,h2,ws⟩,L3⟩⟩:Bk).Ok) :
    SidesOk w h∧(xs.length:Int) = w * h∧ys.length = xs.length∧ws.length = xs.length∧w1 = w∧h1 = h∧w2 = w∧h2 = h ∧
      ∀ k:Nat,k < xs.length→(-16777216≤rd xs k∧rd xs k≤16777216)∧(-16777216≤rd ys k∧rd ys k≤16777216)∧(-16777216≤rd ws k∧rd ws k≤16777216):=by
  obtain ⟨⟨⟨a1,a2,a3⟩,⟨b1,b2,b3⟩,⟨c1,c2,c3⟩⟩,d1,d2,d3,d4⟩:=H
  simp only at a1 a2 a3 b1 b2 b3 c1 c2 c3 d1 d2 d3 d4
  subst d1 d2 d3 d4
  have e1:ys.length = xs.length:=by omega
  have e2:ws.length = xs.length:=by omega
  exact ⟨a1,a2,e1,e2,rfl,rfl,rfl,rfl,fun k hk => ⟨allIn_rd.1 a3 k hk,allIn_rd.1 b3 k (by omega),allIn_rd.1 c3 k (by omega)⟩⟩
theorem Dens.mem:∀ {cs:List SV} {vs:List Value} {c:SV},Dens cs vs→c ∈ cs→∃ v,Den c v
  | [],_,_,_,h => by cases h
  | d :: cs,vs,c,hd,h => by
    simp only [Dens] at hd
    obtain ⟨v,vs',_,h1,h2⟩:=hd
    rcases List.mem_cons.1 h with rfl | h
    · exact ⟨v,h1⟩
    · exact Dens.mem h2 h
structure Row2 where
  L:Xf.Loc
  xs:List Int
  M:Xf.Loc
  ys:List Int
theorem rd_bd {lo hi:Int} {xs:List Int} (h:AllIn lo hi xs) (h0:lo≤0) (h1:0≤hi) (k:Int):lo≤rd xs k∧rd xs k≤hi:=by
  by_cases hk:k.toNat < xs.length
  · have e:rd xs k = xs[k.toNat]:=by simp [rd,hk]
    rw [e]; exact h _ (List.getElem_mem hk)
  · have e:rd xs k = 0:=by simp [rd,List.getElem?_eq_none (Nat.not_lt.1 hk)]
    rw [e]; exact ⟨h0,h1⟩
structure PlD where
  a:PlA
  w:Int
  h:Int
def PlD.fit (d:PlD):Prop:=SidesOk d.w d.h∧d.a.p.w = (d.w + 1) / 2∧d.a.p.h = (d.h + 1) / 2
instance (d:PlD):Decidable d.fit:=by unfold PlD.fit; infer_instance
def PlD.Ok (d:PlD):Prop:=d.a.p.Ok∧d.fit
instance (d:PlD):Decidable d.Ok:=by unfold PlD.Ok; infer_instance
structure Bm where
  w:Int
  h:Int
  xs:List Int
structure BmA where
  b:Bm
  L:Xf.Loc
def Bits (xs:List Int):Prop:=∀ n,n ∈ xs→n≤1
instance (xs:List Int):Decidable (Bits xs):=by unfold Bits; infer_instance
def Bm.Ok (b:Bm):Prop:=SidesOk b.w b.h∧b.xs.length = b.w * b.h∧Bits b.xs
instance (b:Bm):Decidable b.Ok:=by unfold Bm.Ok; infer_instance
structure AtA where
  a:BmA
  x:Int
  y:Int
def AtA.inside (a:AtA):Prop:=0≤a.x∧0≤a.y∧a.x < a.a.b.w∧a.y < a.a.b.h
instance (a:AtA):Decidable a.inside:=by unfold AtA.inside; infer_instance
def nearP (n:Int):Prop:=-100000≤n∧n≤100000
instance (n:Int):Decidable (nearP n):=by unfold nearP; infer_instance
structure PaintA where
  a:ImA
  b:BmA
  x:Int
  y:Int
  r:Int
  g:Int
  bl:Int
def PaintA.fit (P:PaintA):Prop:=P.b.b.Ok∧nearP P.x∧nearP P.y∧ValOk P.r∧ValOk P.g∧ValOk P.bl
instance (P:PaintA):Decidable P.fit:=by unfold PaintA.fit; infer_instance
def PaintA.Ok (P:PaintA):Prop:=P.a.i.Ok∧P.fit
instance (P:PaintA):Decidable P.Ok:=by unfold PaintA.Ok; infer_instance
def b38_1:IR :=
  .seq (.reg false [⟨some 14,none,⟨[],[]⟩,.bin 0 .lss (.t 13) (.t 12)⟩] [] []) (.seq (.cond (.t 14) (.skip) (.exit 0)) (.seq (.block 1 (.seq (.reg false [⟨some 15,none,⟨[],[]⟩,.mov (.t 13)⟩,
    ⟨some 5,none,⟨[],[]⟩,.mov (.t 15)⟩] [14,15] []) (.seq (.reg true [⟨some 16,none,⟨[],[]⟩,.mov (.t 0)⟩,
    ⟨some 17,none,⟨[],[]⟩,.mov (.t 5)⟩,
    ⟨some 18,none,⟨[],[]⟩,.idxS (.t 16) (.t 17) 1⟩,
    ⟨some 19,none,⟨[],[]⟩,.ld true none 0 0 (.t 18)⟩,
    ⟨some 20,none,⟨[],[]⟩,.mov (.t 1)⟩,
    ⟨some 21,none,⟨[],[]⟩,.mov (.t 5)⟩,
    ⟨some 22,none,⟨[],[]⟩,.idxS (.t 20) (.t 21) 1⟩,
    ⟨some 23,none,⟨[],[]⟩,.ld true none 0 0 (.t 22)⟩,
    ⟨some 24,none,⟨[],[]⟩,.bin 0 .neq (.t 19) (.t 23)⟩] [5,16,17,18,19,20,21,22,23] []) (.cond (.t 24) (.seq (.reg false [⟨some 4,none,⟨[],[]⟩,.mov (.k (.bool false))⟩] [0,1,12,13,24] []) (.ret)) (.skip))))) (.reg false [⟨some 25,none,⟨[],[]⟩,.bin 0 .add (.t 13) (.k (.int .i64 1))⟩,
    ⟨some 13,none,⟨[],[]⟩,.mov (.t 25)⟩] [4,24,25] [])))
def r38_2:IR :=
  .seq (.reg false [⟨some 4,none,⟨[],[]⟩,.mov (.k (.bool true))⟩] [0,1,12,13] []) (.ret)
def ir38:IR :=
  .seq (.reg false [⟨some 4,none,⟨[],[]⟩,.mov (.k (.bool false))⟩] [4] []) (.seq (.seq (.reg false [⟨some 6,none,⟨[],[]⟩,.mov (.t 0)⟩,
    ⟨some 7,none,⟨[],[]⟩,.len (.t 6)⟩,
    ⟨some 8,none,⟨[],[]⟩,.mov (.t 1)⟩,
    ⟨some 9,none,⟨[],[]⟩,.len (.t 8)⟩,
    ⟨some 10,none,⟨[],[]⟩,.bin 0 .neq (.t 7) (.t 9)⟩] [6,7,8,9] []) (.cond (.t 10) (.seq (.reg false [⟨some 4,none,⟨[],[]⟩,.mov (.k (.bool false))⟩] [0,1,10] []) (.ret)) (.skip))) (.seq (.seq (.reg false [⟨some 11,none,⟨[],[]⟩,.mov (.t 0)⟩,
    ⟨some 12,none,⟨[],[]⟩,.len (.t 11)⟩,
    ⟨some 13,none,⟨[],[]⟩,.mov (.k (.int .i64 0))⟩] [4,10,11] []) (.block 0 (.loop b38_1))) (r38_2)))
def kp38_1:List Nat:=[0,1,12,13]
def kl38_1:List Nat:=[]
attribute [push_cast] kp38_1 kl38_1
set_option maxRecDepth 4000 in
theorem comp38:(Try.f38.body.bind fun c => compC tab isP chkAll ir38 c) = some ir38:=by kernel_rfl
structure Row2w where
  L:Xf.Loc
  xs:List Int
  M:Xf.Loc
  ys:List Int
def fs38:FS where
  A:=Row2w
  args:=fun a => [.sl 0 a.L 1 0 a.xs.length,.sl 1 a.M 1 0 a.ys.length]
  mem:=fun a => [some (.ro,a.L,.ints .i64 a.xs),some (.ro,a.M,.ints .i64 a.ys)]
  pre:=fun a => a.xs.length≤140737488355328∧a.ys.length≤140737488355328
  res:=fun a _ => .bool (decide (a.xs = a.ys))
  out:=fun _ _ => []
  new:=fun _ _ => []
def inv38:List SV→Look→Option (Row2w × List Nat)
  | [.sl c _ 1 0 _,.sl d _ 1 0 _],look => match rowI (lkZ look (.ints .i64 []) c),rowI (lkZ look (.ints .i64 []) d) with
    | some (L,.i64,xs),some (M,.i64,ys) => some (⟨L,xs,M,ys⟩,[c,d])
    | _,_ => none
  | _,_ => none
attribute [push_cast] inv38
theorem ok38:FSOk Try.prog 38 fs38:=by
  refine ⟨⟨_,Try.func38,by kernel_rfl,by kernel_rfl⟩,fun a => ⟨by simp [fs38,push_cast,noMine,argOwn,Chunk.frArg],by simp [fs38,push_cast,outOk,Chunk.ext],fun x => .inl (by simp [fs38,push_cast,frNew,frOut,Chunk.fr])⟩,fun a hp => ?_⟩
  obtain ⟨L,xs,M,ys⟩:=a
  obtain ⟨hp1,hp2⟩:xs.length≤140737488355328∧ys.length≤140737488355328:=hp
  change Tri Try.prog 38 [.sl 0 L 1 0 xs.length,.sl 1 M 1 0 ys.length] [some (.ro,L,.ints .i64 xs),some (.ro,M,.ints .i64 ys)] (postF fs38 ⟨L,xs,M,ys⟩)
  refine tri_evS (hyp (l:=[]) (lp:=[]) trivial trivial) Try.func38 comp38 (rs:=[.tmp 4]) (by rfl) Try.ntmps38 10 ?_
  simp -implicitDefEqProofs only [push_cast,zz,BEq.rfl,ite_true,ite_false,List.append_nil,reduceCtorEq,Nat.reduceAdd,Nat.reduceSub,Nat.reduceMul,Nat.reduceLeDiff,Nat.reduceLT,Nat.reduceEqDiff,Nat.reduceBEq,Nat.reduceBNe,Int.reduceNeg,Int.reduceToNat,ir38]
  refine ⟨fun hn => ?_,fun hy => ?_⟩
  · have e:¬ xs = ys:=fun H => by subst H; exact hn rfl
    refine postF.mk' (fun _ => default) [some 0,some 1] ?_
    simp -implicitDefEqProofs only [push_cast,zz,BEq.rfl,ite_true,ite_false,List.append_nil,reduceCtorEq,Nat.reduceAdd,Nat.reduceSub,Nat.reduceMul,Nat.reduceLeDiff,Nat.reduceLT,Nat.reduceEqDiff,Nat.reduceBEq,Nat.reduceBNe,Int.reduceNeg,Int.reduceToNat,fs38,e,decide_false]
  have hl:xs.length = ys.length:=by omega
  refine evS_loopU (A:=Nat) kp38_1 kl38_1 (fun i => [(13,.int .i64 i)]) (fun _ => [])
    (fun i => i≤xs.length∧∀ j,j < i→rd xs (j:Nat) = rd ys (j:Nat)) (fun i => xs.length - i) 0 ⟨by omega,by omega⟩ (Sub.pt ?_) ?_
  · simp -implicitDefEqProofs only [push_cast,zz,BEq.rfl,ite_true,ite_false,List.append_nil,reduceCtorEq,Nat.reduceAdd,Nat.reduceSub,Nat.reduceMul,Nat.reduceLeDiff,Nat.reduceLT,Nat.reduceEqDiff,Nat.reduceBEq,Nat.reduceBNe,Int.reduceNeg,Int.reduceToNat]
  intro i ⟨h1,h2⟩ K hK
  simp -implicitDefEqProofs only [push_cast,zz,BEq.rfl,ite_true,ite_false,List.append_nil,reduceCtorEq,Nat.reduceAdd,Nat.reduceSub,Nat.reduceMul,Nat.reduceLeDiff,Nat.reduceLT,Nat.reduceEqDiff,Nat.reduceBEq,Nat.reduceBNe,Int.reduceNeg,Int.reduceToNat,b38_1,r38_2]
  refine ⟨fun h => ?_,fun h => ?_⟩
  · repeat (refine And.intro (by first | omega | trivial | (intros; omega)) ?_)
    refine ⟨fun hb => ?_,fun hg => ⟨by omega,by omega,?_⟩⟩
    · have e:¬ xs = ys:=fun H => by subst H; exact hb rfl
      refine postF.mk' (fun _ => default) [some 0,some 1] ?_
      simp -implicitDefEqProofs only [push_cast,zz,BEq.rfl,ite_true,ite_false,List.append_nil,reduceCtorEq,Nat.reduceAdd,Nat.reduceSub,Nat.reduceMul,Nat.reduceLeDiff,Nat.reduceLT,Nat.reduceEqDiff,Nat.reduceBEq,Nat.reduceBNe,Int.reduceNeg,Int.reduceToNat,fs38,e,decide_false]
    · refine hK (i + 1) ⟨by omega,fun j hj => ?_⟩ (show xs.length - (i + 1) < xs.length - i by omega) _ _ (Sub.pt ?_)
      · by_cases e:j = i
        · subst e; exact hg
        · exact h2 j (by omega)
      · simp -implicitDefEqProofs only [push_cast,zz,BEq.rfl,ite_true,ite_false,List.append_nil,reduceCtorEq,Nat.reduceAdd,Nat.reduceSub,Nat.reduceMul,Nat.reduceLeDiff,Nat.reduceLT,Nat.reduceEqDiff,Nat.reduceBEq,Nat.reduceBNe,Int.reduceNeg,Int.reduceToNat]
  · have e:xs = ys:=eq_of_rd hl fun j hj => h2 j (by omega)
    refine postF.mk' (fun _ => default) [some 0,some 1] ?_
    simp -implicitDefEqProofs only [push_cast,zz,BEq.rfl,ite_true,ite_false,List.append_nil,reduceCtorEq,Nat.reduceAdd,Nat.reduceSub,Nat.reduceMul,Nat.reduceLeDiff,Nat.reduceLT,Nat.reduceEqDiff,Nat.reduceBEq,Nat.reduceBNe,Int.reduceNeg,Int.reduceToNat,fs38,e,decide_true]
def ent38:Entry:=spOf fs38 inv38
theorem e38:EntryOk Try.prog 38 ent38:=entry_of ok38 inv38
@[push_cast] theorem ent38_app (us:List SV) (look:Look) (x:Nat→Xf.Loc) (k:Nat):ent38 us look x k = spOf fs38 inv38 us look x k:=rfl
structure OutU where
  L1:Xf.Loc
  n:Int
  m:Int
structure OutV where
  L:Xf.Loc
  xs:List Int
  L1:Xf.Loc
  m:Int
structure RowM where
  L:Xf.Loc
  xs:List Int
  m:Int
structure LiftA where
  kind:Int
  L:Xf.Loc
  xs:List Int
  lo:Int
  n:Int
  i:Int
structure NearA where
  L:Xf.Loc
  xs:List Int
  lo:Int
  n:Int
  i:Int
def BdF (B:Int) (f:Int→Int):Prop:=∀ j,-B≤f j∧f j≤B
theorem BdF.rd {xs:List Int} {B:Int} (h:AllIn (-B) B xs) (h0:0≤B) (lo:Int):BdF B (fun j => rd xs (lo + j)):=fun j => rd_bd h (by omega) h0 _
structure LineA where
  kind:Int
  L:Xf.Loc
  xs:List Int
  lo:Int
  n:Nat
structure LnA where
  kind:Int
  L:Xf.Loc
  xs:List Int
structure QA where
  a:PlA
  q:Int
  M:Xf.Loc
structure Q1 where
  n:Int
  L:Xf.Loc
  q:Int
def ir13:IR :=
  .seq (.reg false [⟨some 2,none,⟨[],[]⟩,.box 10 (.t 0)⟩,
    ⟨some 3,none,⟨[],[]⟩,.box 11 (.t 1)⟩,
    ⟨some 4,none,⟨[],[]⟩,.mov (.k (.bool false))⟩] [0,1,4] []) (.seq (.reg false [⟨some 5,none,⟨[],[]⟩,.fld (.t 2) 0⟩,
    ⟨some 6,none,⟨[],[]⟩,.ld false none 0 0 (.t 5)⟩,
    ⟨some 7,none,⟨[],[]⟩,.fld (.t 3) 0⟩,
    ⟨some 8,none,⟨[],[]⟩,.ld false none 0 0 (.t 7)⟩,
    ⟨some 9,none,⟨[],[]⟩,.bin 0 .eql (.t 6) (.t 8)⟩,
    ⟨some 10,none,⟨[],[]⟩,.mov (.t 9)⟩,
    ⟨some 11,some (10,true),⟨[],[]⟩,.fld (.t 2) 1⟩,
    ⟨some 12,some (10,true),⟨[],[]⟩,.ld false none 0 0 (.t 11)⟩,
    ⟨some 13,some (10,true),⟨[],[]⟩,.fld (.t 3) 1⟩,
    ⟨some 14,some (10,true),⟨[],[]⟩,.ld false none 0 0 (.t 13)⟩,
    ⟨some 15,some (10,true),⟨[],[]⟩,.bin 0 .eql (.t 12) (.t 14)⟩,
    ⟨some 16,none,⟨[],[]⟩,.pick (.t 10) (.t 15) (.k (.bool false))⟩,
    ⟨some 17,none,⟨[],[]⟩,.mov (.t 16)⟩,
    ⟨some 18,some (17,true),⟨[],[]⟩,.fld (.t 2) 2⟩,
    ⟨some 19,some (17,true),⟨[],[]⟩,.ld false none 0 0 (.t 18)⟩,
    ⟨some 20,some (17,true),⟨[],[]⟩,.fld (.t 3) 2⟩,
    ⟨some 21,some (17,true),⟨[],[]⟩,.ld false none 0 0 (.t 20)⟩,
    ⟨some 22,some (17,true),⟨[],[]⟩,.call (some 4) 12 38 [.t 19,.t 21]⟩,
    ⟨some 23,none,⟨[],[]⟩,.pick (.t 17) (.t 22) (.k (.bool false))⟩,
    ⟨some 4,none,⟨[],[]⟩,.mov (.t 23)⟩] [2,3,5,6,7,8,9,10,11,12,13,14,15,16,17,18,19,20,21,22,23] []) (.ret))
set_option maxRecDepth 4000 in
theorem comp13:(Try.f13.body.bind fun c => compC tab isP chkAll ir13 c) = some ir13:=by kernel_rfl
def fs13:FS where
  A:=Pl2
  args:=fun a => [plV a.a.p a.a.L 0,plV a.b.p a.b.L 1]
  mem:=fun a => [some (.ro,a.a.L,.ints .i64 a.a.p.xs),some (.ro,a.b.L,.ints .i64 a.b.p.xs)]
  pre:=fun a => a.a.p.xs.length≤140737488355328∧a.b.p.xs.length≤140737488355328
  res:=fun a _ => .bool (decide (a.a.p.Eq a.b.p))
  out:=fun _ _ => []
  new:=fun _ _ => []
def inv13:List SV→Look→Option (Pl2 × List Nat)
  | [v,u],look => match getP look v,getP look u with
    | some (a,g),some (b,g') => some (⟨a,b⟩,g++g')
    | _,_ => none
  | _,_ => none
attribute [push_cast] inv13
theorem ok13:FSOk Try.prog 13 fs13:=by
  refine ⟨⟨_,Try.func13,by kernel_rfl,by kernel_rfl⟩,fun a => ⟨by simp [fs13,push_cast,noMine,argOwn,Chunk.frArg],by simp [fs13,push_cast,outOk,Chunk.ext],fun x => .inl (by simp [fs13,push_cast,frNew,frOut,Chunk.fr])⟩,fun a hp => ?_⟩
  obtain ⟨⟨⟨w,h,xs⟩,L⟩,⟨⟨w',h',ys⟩,M⟩⟩:=a
  obtain ⟨hp1,hp2⟩:xs.length≤140737488355328∧ys.length≤140737488355328:=hp
  change Tri Try.prog 13 [plV ⟨w,h,xs⟩ L 0,plV ⟨w',h',ys⟩ M 1] [some (.ro,L,.ints .i64 xs),some (.ro,M,.ints .i64 ys)] (postF fs13 ⟨⟨⟨w,h,xs⟩,L⟩,⟨⟨w',h',ys⟩,M⟩⟩)
  refine tri_evS (hyp (l:=[(38,ent38)]) (lp:=[]) ⟨e38,trivial⟩ trivial) Try.func13 comp13 (rs:=[.tmp 4]) (by rfl) Try.ntmps13 16 ?_
  simp -implicitDefEqProofs only [push_cast,zz,BEq.rfl,ite_true,ite_false,List.append_nil,reduceCtorEq,Nat.reduceAdd,Nat.reduceSub,Nat.reduceMul,Nat.reduceLeDiff,Nat.reduceLT,Nat.reduceEqDiff,Nat.reduceBEq,Nat.reduceBNe,Int.reduceNeg,Int.reduceToNat,ir13,fs38,hp1,hp2]
  refine fun X => ⟨fun H => ⟨H.1,H.2,H⟩,?_⟩
  refine postF.mk' (fun _ => default) [some 0,some 1] ?_
  simp -implicitDefEqProofs only [push_cast,zz,BEq.rfl,ite_true,ite_false,List.append_nil,reduceCtorEq,Nat.reduceAdd,Nat.reduceSub,Nat.reduceMul,Nat.reduceLeDiff,Nat.reduceLT,Nat.reduceEqDiff,Nat.reduceBEq,Nat.reduceBNe,Int.reduceNeg,Int.reduceToNat,fs13,Pl.Eq]
def ent13:Entry:=spOf fs13 inv13
theorem e13:EntryOk Try.prog 13 ent13:=entry_of ok13 inv13
@[push_cast] theorem ent13_app (us:List SV) (look:Look) (x:Nat→Xf.Loc) (k:Nat):ent13 us look x k = spOf fs13 inv13 us look x k:=rfl
structure AlA where
  F:Xf.Loc
  LP:Xf.Loc
  w:Int
  kind:Int
  ws:List Int
  a:Int
  b:Int
  n:Nat
abbrev LT:=Int→Nat→(Int→Int)→List Int
structure Trn (T:LT):Prop where
  len:∀ k n f,(T k n f).length = n
  bd:∀ k n f B,BdF B f→0≤B→AllIn (-(3 * B + 1)) (3 * B + 1) (T k n f)
  congr:∀ k (n:Nat) f g,(∀ j:Nat,j < n→f j = g j)→T k n f = T k n g
def hlf (w:Nat):Nat→Nat
  | 0 => w
  | i + 1 => (hlf w i + 1) / 2
theorem hlf_le (w:Nat):∀ i,hlf w i≤w
  | 0 => Nat.le_refl _
  | i + 1 => by have:=hlf_le w i; simp only [hlf]; omega
theorem hlf_mono (w:Nat) (i:Nat):hlf w (i + 1)≤hlf w i:=by simp only [hlf]; omega
structure RwA where
  F:Xf.Loc
  LP:Xf.Loc
  W:Nat
  kind:Int
  ws:List Int
  w:Nat
  h:Nat
def b88_1:IR :=
  .seq (.reg false [⟨some 10,none,⟨[],[]⟩,.bin 0 .lss (.t 9) (.t 8)⟩] [] []) (.seq (.cond (.t 10) (.skip) (.exit 0)) (.seq (.block 1 (.seq (.reg false [⟨some 11,none,⟨[],[]⟩,.mov (.t 7)⟩,
    ⟨some 12,none,⟨[],[]⟩,.mov (.t 0)⟩,
    ⟨some 13,none,⟨[],[]⟩,.mov (.t 1)⟩,
    ⟨some 14,none,⟨[],[]⟩,.build [.int .i64 0,.int .i64 0] [(0,1,.t 12),(1,1,.t 13)]⟩,
    ⟨some 15,none,⟨[],[]⟩,.brecs 10 2 .i64 [.t 14]⟩,
    ⟨some 16,none,⟨[],[]⟩,.app 11 2 16 (.t 11) (.t 15)⟩,
    ⟨some 7,none,⟨[],[]⟩,.mov (.t 16)⟩] [10,11,12,13,14,15,16] []) (.reg false [⟨some 17,none,⟨[],[]⟩,.mov (.t 0)⟩,
    ⟨some 18,none,⟨[],[]⟩,.bin 0 .add (.t 17) (.k (.int .i64 1))⟩,
    ⟨some 19,none,⟨[],[]⟩,.bin 0 .quo (.t 18) (.k (.int .i64 2))⟩,
    ⟨some 20,none,⟨[],[]⟩,.mov (.t 1)⟩,
    ⟨some 21,none,⟨[],[]⟩,.bin 0 .add (.t 20) (.k (.int .i64 1))⟩,
    ⟨some 22,none,⟨[],[]⟩,.bin 0 .quo (.t 21) (.k (.int .i64 2))⟩,
    ⟨some 0,none,⟨[],[]⟩,.mov (.t 19)⟩,
    ⟨some 1,none,⟨[],[]⟩,.mov (.t 22)⟩] [17,18,19,20,21,22] []))) (.reg false [⟨some 23,none,⟨[],[]⟩,.bin 0 .add (.t 9) (.k (.int .i64 1))⟩,
    ⟨some 9,none,⟨[],[]⟩,.mov (.t 23)⟩] [23] [])))
def r88_2:IR :=
  .seq (.reg false [⟨some 24,none,⟨[],[]⟩,.mov (.t 7)⟩,
    ⟨some 6,none,⟨[],[]⟩,.mov (.t 24)⟩] [0,1,7,8,9,24] []) (.ret)
def ir88:IR :=
  .seq (.reg false [⟨some 6,none,⟨[],[]⟩,.mov (.k nilSV)⟩] [6] []) (.seq (.reg false [⟨some 7,none,⟨[],[]⟩,.mov (.k nilSV)⟩] [] []) (.seq (.seq (.reg false [⟨some 8,none,⟨[],[]⟩,.mov (.t 2)⟩,
    ⟨some 9,none,⟨[],[]⟩,.mov (.k (.int .i64 0))⟩] [2] []) (.block 0 (.loop b88_1))) (r88_2)))
def kp88_1:List Nat:=[0,1,7,8,9]
def kl88_1:List Nat:=[10,11]
attribute [push_cast] kp88_1 kl88_1
set_option maxRecDepth 4000 in
theorem comp88:(Try.f88.body.bind fun c => compC tab isP chkAll ir88 c) = some ir88:=by kernel_rfl
def tabR (n:Nat) (g:Nat→List RC):List (List RC):=(List.range n).map g
theorem tabR_length (n:Nat) (g:Nat→List RC):(tabR n g).length = n:=by simp [tabR]
theorem tabR_zero (g:Nat→List RC):tabR 0 g = []:=rfl
theorem tabR_snoc (n:Nat) (g:Nat→List RC):tabR n g++[g n] = tabR (n + 1) g:=by simp [tabR,List.range_succ]
theorem recAt_tabR {n i:Nat} (h:i < n) (g:Nat→List RC) (z:List RC):recAt (i:Int) z (tabR n g) = g i:=by
  simp [recAt,tabR,h]
def esz (s:Nat):Nat→Nat
  | 0 => 1
  | _ + 1 => s
theorem esz_pos {s n:Nat} (h:0 < n):esz s n = s:=by cases n; omega; rfl
def sdR (w h:Nat) (i:Nat):List RC:=[.int .i64 (hlf w i),.int .i64 (hlf h i)]
structure SdA where
  w:Nat
  h:Nat
  n:Nat
def fs88:FS where
  A:=SdA
  args:=fun a => [.int .i64 a.w,.int .i64 a.h,.int .i64 a.n]
  mem:=fun _ => []
  pre:=fun a => a.w≤200∧a.h≤200∧a.n≤7
  res:=fun a x => .sl 0 (lx (0 < a.n) x 0) (esz 2 a.n) 0 a.n
  out:=fun _ _ => []
  new:=fun a x => [(lx (0 < a.n) x 0,.recs 2 true [] (tabR a.n (sdR a.w a.h)))]
def inv88:List SV→Look→Option (SdA × List Nat)
  | [.int .i64 w,.int .i64 h,.int .i64 n],look => some (⟨w.toNat,h.toNat,n.toNat⟩,[])
  | _,_ => none
attribute [push_cast] inv88
theorem hlf_succ (w i:Nat):((hlf w i:Int) + 1) / 2 = (hlf w (i + 1):Int):=by simp only [hlf]; omega
theorem ok88:FSOk Try.prog 88 fs88:=by
  refine ⟨⟨_,Try.func88,by kernel_rfl,by kernel_rfl⟩,fun a => ⟨by simp [fs88,push_cast,noMine,argOwn,Chunk.frArg],by simp [fs88,push_cast,outOk,Chunk.ext],fun x => .inl (by simp [fs88,push_cast,frNew,frOut,Chunk.fr])⟩,fun a hp => ?_⟩
  obtain ⟨w,h,n⟩:=a
  obtain ⟨h1,h2,h3⟩:w≤200∧h≤200∧n≤7:=hp
  change Tri Try.prog 88 [.int .i64 w,.int .i64 h,.int .i64 n] [] (postF fs88 ⟨w,h,n⟩)
  refine tri_evS (hyp (l:=[]) (lp:=[]) trivial trivial) Try.func88 comp88 (rs:=[.tmp 6]) (by rfl) Try.ntmps88 12 ?_
  simp -implicitDefEqProofs only [push_cast,zz,BEq.rfl,ite_true,ite_false,List.append_nil,reduceCtorEq,Nat.reduceAdd,Nat.reduceSub,Nat.reduceMul,Nat.reduceLeDiff,Nat.reduceLT,Nat.reduceEqDiff,Nat.reduceBEq,Nat.reduceBNe,Int.reduceNeg,Int.reduceToNat,ir88]
  refine evS_loopU (A:=Nat × Xf.Loc) kp88_1 kl88_1 (fun y => [(0,.int .i64 (hlf w y.1)),(1,.int .i64 (hlf h y.1)),(7,.sl 11 y.2 (esz 2 y.1) 0 y.1),(9,.int .i64 y.1)]) (fun y => [(11,.mine,y.2,.recs 2 true [] (tabR y.1 (sdR w h)))])
    (fun y => y.1≤n∧(y.1 = 0→y.2 = nilLoc)) (fun y => n - y.1) (0,nilLoc) ⟨Nat.zero_le _,fun _ => rfl⟩ (Sub.pt ?_) ?_
  · simp -implicitDefEqProofs only [push_cast,zz,BEq.rfl,ite_true,ite_false,List.append_nil,reduceCtorEq,Nat.reduceAdd,Nat.reduceSub,Nat.reduceMul,Nat.reduceLeDiff,Nat.reduceLT,Nat.reduceEqDiff,Nat.reduceBEq,Nat.reduceBNe,Int.reduceNeg,Int.reduceToNat,hlf,esz,tabR_zero]
  intro ⟨i,N⟩ ⟨(hi:i≤n),(hN:i = 0→N = nilLoc)⟩ K hK
  simp -implicitDefEqProofs only [push_cast,zz,BEq.rfl,ite_true,ite_false,List.append_nil,reduceCtorEq,Nat.reduceAdd,Nat.reduceSub,Nat.reduceMul,Nat.reduceLeDiff,Nat.reduceLT,Nat.reduceEqDiff,Nat.reduceBEq,Nat.reduceBNe,Int.reduceNeg,Int.reduceToNat,b88_1,r88_2]
  have b1:=hlf_le w i
  have b2:=hlf_le h i
  have b3:=hlf_succ w i
  have b4:=hlf_succ h i
  refine ⟨fun hl => ?_,fun hl => ?_⟩
  · simp only [tabR_length]
    intro X
    repeat (refine And.intro (by first | omega | trivial | (intros; omega)) ?_)
    rw [b3,b4]
    refine hK (i + 1,X 5 11) ⟨show i + 1≤n by omega,fun q => absurd q (Nat.succ_ne_zero i)⟩ (show n - (i + 1) < n - i by omega) _ _ (Sub.pt ?_)
    have q:tabR i (sdR w h)++[[.int .i64 (hlf w i),.int .i64 (hlf h i)]] = tabR (i + 1) (sdR w h):=tabR_snoc i (sdR w h)
    simp -implicitDefEqProofs only [push_cast,zz,BEq.rfl,ite_true,ite_false,List.append_nil,reduceCtorEq,Nat.reduceAdd,Nat.reduceSub,Nat.reduceMul,Nat.reduceLeDiff,Nat.reduceLT,Nat.reduceEqDiff,Nat.reduceBEq,Nat.reduceBNe,Int.reduceNeg,Int.reduceToNat,esz,q]
  · obtain rfl:i = n:=by omega
    refine postF.mk' (fun _ => N) [some 11] ?_
    by_cases h0:0 < i
    · simp -implicitDefEqProofs only [push_cast,zz,BEq.rfl,ite_true,ite_false,List.append_nil,reduceCtorEq,Nat.reduceAdd,Nat.reduceSub,Nat.reduceMul,Nat.reduceLeDiff,Nat.reduceLT,Nat.reduceEqDiff,Nat.reduceBEq,Nat.reduceBNe,Int.reduceNeg,Int.reduceToNat,fs88,h0,if_true,lx]
    · obtain rfl:i = 0:=by omega
      obtain rfl:=hN rfl
      simp -implicitDefEqProofs only [push_cast,zz,BEq.rfl,ite_true,ite_false,List.append_nil,reduceCtorEq,Nat.reduceAdd,Nat.reduceSub,Nat.reduceMul,Nat.reduceLeDiff,Nat.reduceLT,Nat.reduceEqDiff,Nat.reduceBEq,Nat.reduceBNe,Int.reduceNeg,Int.reduceToNat,fs88,h0,if_false,lx]
def ent88:Entry:=spOf fs88 inv88
theorem e88:EntryOk Try.prog 88 ent88:=entry_of ok88 inv88
@[push_cast] theorem ent88_app (us:List SV) (look:Look) (x:Nat→Xf.Loc) (k:Nat):ent88 us look x k = spOf fs88 inv88 us look x k:=rfl
structure AskA where
  a:PlA
  kind:Int
  n:Int
structure TurnA where
  a:LineA
  b:Bool
structure RrA where
  L:Xf.Loc
  W:Nat
  H:Int
  ws:List Int
  w:Nat
  h:Nat
  kind:Int
  b:Bool
def ir90:IR :=
  .seq (.reg false [⟨some 1,none,⟨[],[]⟩,.box 10 (.t 0)⟩,
    ⟨some 2,none,⟨[],[]⟩,.mov (.k (.bool false))⟩] [0,2] []) (.seq (.reg false [⟨some 3,none,⟨[],[]⟩,.fld (.t 1) 4⟩,
    ⟨some 4,none,⟨[],[]⟩,.ld false none 0 0 (.t 3)⟩,
    ⟨some 5,none,⟨[],[]⟩,.fld (.t 1) 5⟩,
    ⟨some 6,none,⟨[],[]⟩,.ld false none 0 0 (.t 5)⟩,
    ⟨some 7,none,⟨[],[]⟩,.bin 0 .mul (.t 4) (.t 6)⟩,
    ⟨some 8,none,⟨[],[]⟩,.bin 0 .eql (.t 7) (.k (.int .i64 0))⟩,
    ⟨some 2,none,⟨[],[]⟩,.mov (.t 8)⟩] [1,3,4,5,6,7,8] []) (.ret))
set_option maxRecDepth 4000 in
theorem comp90:(Try.f90.body.bind fun c => compC tab isP chkAll ir90 c) = some ir90:=by kernel_rfl
def b107_1:IR :=
  .seq (.reg false [⟨some 9,none,⟨[],[]⟩,.bin 0 .lss (.t 8) (.t 7)⟩] [] []) (.seq (.cond (.t 9) (.skip) (.exit 0)) (.seq (.block 1 (.seq (.reg false [⟨some 10,none,⟨[],[]⟩,.mov (.t 8)⟩,
    ⟨some 5,none,⟨[],[]⟩,.mov (.t 10)⟩] [9,10] []) (.seq (.reg false [⟨some 11,none,⟨[],[]⟩,.mov (.t 1)⟩,
    ⟨some 12,none,⟨[],[]⟩,.mov (.t 0)⟩,
    ⟨some 13,none,⟨[],[]⟩,.mov (.t 5)⟩,
    ⟨some 14,none,⟨[],[]⟩,.idxS (.t 12) (.t 13) 6⟩,
    ⟨some 15,none,⟨[],[]⟩,.ld true (some 6) 0 0 (.t 14)⟩,
    ⟨some 16,none,⟨[],[]⟩,.callv (some 4) 10 (.t 11) [.t 15]⟩] [11,12,13,14,15] []) (.cond (.t 16) (.seq (.reg false [⟨some 17,none,⟨[],[]⟩,.mov (.t 5)⟩,
    ⟨some 4,none,⟨[],[]⟩,.mov (.t 17)⟩] [0,1,5,7,8,16,17] []) (.ret)) (.skip))))) (.reg false [⟨some 18,none,⟨[],[]⟩,.bin 0 .add (.t 8) (.k (.int .i64 1))⟩,
    ⟨some 8,none,⟨[],[]⟩,.mov (.t 18)⟩] [4,5,16,18] [])))
def r107_2:IR :=
  .seq (.reg false [⟨some 4,none,⟨[],[]⟩,.mov (.k (.int .i64 (-1)))⟩] [0,1,7,8] []) (.ret)
def ir107:IR :=
  .seq (.reg false [⟨some 4,none,⟨[],[]⟩,.mov (.k (.int .i64 0))⟩] [4] []) (.seq (.seq (.reg false [⟨some 6,none,⟨[],[]⟩,.mov (.t 0)⟩,
    ⟨some 7,none,⟨[],[]⟩,.len (.t 6)⟩,
    ⟨some 8,none,⟨[],[]⟩,.mov (.k (.int .i64 0))⟩] [6] []) (.block 0 (.loop b107_1))) (r107_2))
def kp107_1:List Nat:=[0,1,7,8]
def kl107_1:List Nat:=[10,11,12,13]
attribute [push_cast] kp107_1 kl107_1
set_option maxRecDepth 4000 in
theorem comp107:(Try.f107.body.bind fun c => compC tab isP chkAll ir107 c) = some ir107:=by kernel_rfl
def b89_1:IR :=
  .seq (.seq (.reg false [⟨some 16,none,⟨[],[]⟩,.mov (.t 6)⟩,
    ⟨some 17,none,⟨[],[]⟩,.mov (.t 0)⟩,
    ⟨some 18,none,⟨[],[]⟩,.len (.t 17)⟩,
    ⟨some 19,none,⟨[],[]⟩,.bin 0 .lss (.t 16) (.t 18)⟩] [16,17,18] []) (.cond (.t 19) (.skip) (.exit 0))) (.seq (.block 1 (.seq (.reg false [⟨some 22,none,⟨[],[]⟩,.mov (.t 0)⟩,
    ⟨some 23,none,⟨[],[]⟩,.mov (.t 6)⟩,
    ⟨some 24,none,⟨[],[]⟩,.idxS (.t 22) (.t 23) 6⟩,
    ⟨some 25,none,⟨[],[]⟩,.ld true (some 6) 0 0 (.t 24)⟩,
    ⟨some 7,none,⟨[],[]⟩,.alloc 14 [.int .i64 0,.int .i64 0,.int .i64 0,.int .i64 0,.int .i64 0,.int .i64 0]⟩,
    ⟨none,none,⟨[],[]⟩,.sto false 6 .i64 (.t 7) (.t 25)⟩] [19,22,23,24,25] []) (.seq (.reg false [⟨some 26,none,⟨[],[]⟩,.mov (.t 1)⟩,
    ⟨some 27,none,⟨[],[]⟩,.ld false (some 6) 0 0 (.t 7)⟩,
    ⟨some 28,none,⟨[],[]⟩,.callv (some 4) 15 (.t 26) [.t 27]⟩,
    ⟨some 29,none,⟨[],[]⟩,.not (.t 28)⟩] [26,27,28] []) (.cond (.t 29) (.seq (.reg false [⟨some 30,none,⟨[],[]⟩,.mov (.t 0)⟩,
    ⟨some 31,none,⟨[],[]⟩,.mov (.t 5)⟩,
    ⟨some 32,none,⟨[],[]⟩,.ld false (some 6) 0 0 (.t 7)⟩,
    ⟨some 33,none,⟨[],[]⟩,.idxS (.t 30) (.t 31) 6⟩,
    ⟨none,none,⟨[],[]⟩,.sto true 6 .i64 (.t 33) (.t 32)⟩] [7,29,30,31,32,33] []) (.reg false [⟨some 34,none,⟨[],[]⟩,.mov (.t 5)⟩,
    ⟨some 35,none,⟨[],[]⟩,.bin 0 .add (.t 34) (.k (.int .i64 1))⟩,
    ⟨some 5,none,⟨[],[]⟩,.mov (.t 35)⟩] [34,35] [])) (.skip))))) (.reg false [⟨some 20,none,⟨[],[]⟩,.mov (.t 6)⟩,
    ⟨some 21,none,⟨[],[]⟩,.bin 0 .add (.t 20) (.k (.int .i64 1))⟩,
    ⟨some 6,none,⟨[],[]⟩,.mov (.t 21)⟩] [7,20,21,29] []))
def r89_2:IR :=
  .seq (.reg false [⟨some 36,none,⟨[],[]⟩,.mov (.t 0)⟩,
    ⟨some 37,none,⟨[],[]⟩,.mov (.t 5)⟩,
    ⟨some 38,none,⟨[],[]⟩,.slc (.t 36) 6 (some (.t 37)) none⟩,
    ⟨none,none,⟨[],[]⟩,.clear [.int .i64 0,.int .i64 0,.int .i64 0,.int .i64 0,.int .i64 0,.int .i64 0] (.t 38)⟩] [1,6,36,37,38] []) (.seq (.reg false [⟨some 39,none,⟨[],[]⟩,.mov (.t 0)⟩,
    ⟨some 40,none,⟨[],[]⟩,.mov (.t 5)⟩,
    ⟨some 41,none,⟨[],[]⟩,.slc (.t 39) 6 none (some (.t 40))⟩,
    ⟨some 4,none,⟨[],[]⟩,.mov (.t 41)⟩] [0,5,39,40,41] []) (.ret))
def ir89:IR :=
  .seq (.reg false [⟨some 4,none,⟨[],[]⟩,.mov (.k nilSV)⟩] [4] []) (.seq (.reg false [⟨some 8,none,⟨[],[]⟩,.mov (.t 0)⟩,
    ⟨some 9,none,⟨[],[]⟩,.mov (.t 1)⟩,
    ⟨some 10,none,⟨[],[]⟩,.call (some 4) 10 107 [.t 8,.t 9]⟩,
    ⟨some 5,none,⟨[],[]⟩,.mov (.t 10)⟩] [8,9,10] []) (.seq (.seq (.reg false [⟨some 11,none,⟨[],[]⟩,.mov (.t 5)⟩,
    ⟨some 12,none,⟨[],[]⟩,.bin 0 .eql (.t 11) (.k (.int .i64 (-1)))⟩] [11] []) (.cond (.t 12) (.seq (.reg false [⟨some 13,none,⟨[],[]⟩,.mov (.t 0)⟩,
    ⟨some 4,none,⟨[],[]⟩,.mov (.t 13)⟩] [0,1,5,12,13] []) (.ret)) (.skip))) (.seq (.seq (.reg false [⟨some 14,none,⟨[],[]⟩,.mov (.t 5)⟩,
    ⟨some 15,none,⟨[],[]⟩,.bin 0 .add (.t 14) (.k (.int .i64 1))⟩,
    ⟨some 6,none,⟨[],[]⟩,.mov (.t 15)⟩] [4,12,14,15] []) (.block 0 (.loop b89_1))) (r89_2))))
def kp89_1:List Nat:=[0,1,5,6]
def kl89_1:List Nat:=[14,15,16,17,18]
attribute [push_cast] kp89_1 kl89_1
set_option maxRecDepth 4000 in
theorem comp89:(Try.f89.body.bind fun c => compC tab isP chkAll ir89 c) = some ir89:=by kernel_rfl
structure Bd where
  lv:Int
  kd:Int
  x:Int
  y:Int
  w:Int
  h:Int
  deriving Inhabited,DecidableEq
def Bd.rc (x:Bd):List RC:=[.int .i64 x.lv,.int .i64 x.kd,.int .i64 x.x,.int .i64 x.y,.int .i64 x.w,.int .i64 x.h]
def Bd.sv (x:Bd):SV:=.agg [.int .i64 x.lv,.int .i64 x.kd,.int .i64 x.x,.int .i64 x.y,.int .i64 x.w,.int .i64 x.h]
attribute [push_cast] Bd.sv
def rdBd (l:List Bd) (i:Int):Bd:=l.getD i.toNat default
theorem recAt_Bd {l:List Bd} {i:Int} (h0:0≤i) (h1:i < l.length) (z:List RC) (e:List (List RC)):recAt i z (l.map Bd.rc++e) = (rdBd l i).rc:=by
  have h:i.toNat < l.length:=by omega
  unfold recAt rdBd
  simp [List.getD_eq_getElem?_getD,List.getElem?_append_left,h]
theorem recAt_Bd' {l:List Bd} {i:Int} (h0:0≤i) (h1:i < l.length) (z:List RC):recAt i z (l.map Bd.rc) = (rdBd l i).rc:=by
  have:=recAt_Bd h0 h1 z []
  rwa [List.append_nil] at this
theorem rdBd_nat {l:List Bd} {i:Nat} (h:i < l.length):rdBd l (i:Int) = l[i]:=by simp [rdBd,h]
theorem rdBd_mem {l:List Bd} {i:Nat} (h:i < l.length):rdBd l (i:Int) ∈ l:=by rw [rdBd_nat h]; exact List.getElem_mem h
theorem Bd.noRow (l:List Bd) (k n:Nat) (fr:Bool) (y:Addr):¬ rows (.recs n fr [] (l.map Bd.rc++List.replicate k [.int .i64 0,.int .i64 0,.int .i64 0,.int .i64 0,.int .i64 0,.int .i64 0])) y:=by
  rintro ⟨L,kk,xs,⟨r,hr,hin⟩,_⟩
  rcases List.mem_append.1 hr with h | h
  · obtain ⟨x,_,rfl⟩:=List.mem_map.1 h
    simp [Bd.rc] at hin
  · obtain ⟨_,rfl⟩:=List.mem_replicate.1 h
    simp at hin
def Bd.ok (x:Bd):Prop:=0≤x.w∧x.w≤200∧0≤x.h∧x.h≤200
def Bd.gone (x:Bd):Bool:=decide (x.w * x.h = 0)
structure Bd1 where
  x:Bd
def fs90:FS where
  A:=Bd1
  args:=fun a => [a.x.sv]
  mem:=fun _ => []
  pre:=fun a => a.x.ok
  res:=fun a _ => .bool a.x.gone
  out:=fun _ _ => []
  new:=fun _ _ => []
def inv90:List SV→Look→Option (Bd1 × List Nat)
  | [.agg [.int .i64 lv,.int .i64 kd,.int .i64 x,.int .i64 y,.int .i64 w,.int .i64 h]],look => some (⟨⟨lv,kd,x,y,w,h⟩⟩,[])
  | _,_ => none
attribute [push_cast] inv90
theorem ok90:FSOk Try.prog 90 fs90:=by
  refine ⟨⟨_,Try.func90,by kernel_rfl,by kernel_rfl⟩,fun a => ⟨by simp [fs90,push_cast,noMine,argOwn,Chunk.frArg],by simp [fs90,push_cast,outOk,Chunk.ext],fun x => .inl (by simp [fs90,push_cast,frNew,frOut,Chunk.fr])⟩,fun a hp => ?_⟩
  obtain ⟨⟨lv,kd,x,y,w,h⟩⟩:=a
  obtain ⟨h1,h2,h3,h4⟩:0≤w∧w≤200∧0≤h∧h≤200:=hp
  change Tri Try.prog 90 [(⟨lv,kd,x,y,w,h⟩:Bd).sv] [] (postF fs90 ⟨⟨lv,kd,x,y,w,h⟩⟩)
  have hm:=mul_bd h1 h2 h3 h4
  refine tri_evS (hyp (l:=[]) (lp:=[]) trivial trivial) Try.func90 comp90 (rs:=[.tmp 2]) (by rfl) Try.ntmps90 11 ?_
  simp -implicitDefEqProofs only [push_cast,zz,BEq.rfl,ite_true,ite_false,List.append_nil,reduceCtorEq,Nat.reduceAdd,Nat.reduceSub,Nat.reduceMul,Nat.reduceLeDiff,Nat.reduceLT,Nat.reduceEqDiff,Nat.reduceBEq,Nat.reduceBNe,Int.reduceNeg,Int.reduceToNat,ir90]
  intro X
  repeat (refine And.intro (by first | omega | trivial | (intros; omega)) ?_)
  refine postF.mk' (fun _ => default) [] ?_
  simp -implicitDefEqProofs only [push_cast,zz,BEq.rfl,ite_true,ite_false,List.append_nil,reduceCtorEq,Nat.reduceAdd,Nat.reduceSub,Nat.reduceMul,Nat.reduceLeDiff,Nat.reduceLT,Nat.reduceEqDiff,Nat.reduceBEq,Nat.reduceBNe,Int.reduceNeg,Int.reduceToNat,fs90,Bd.gone]
def ent90:Entry:=spOf fs90 inv90
theorem e90:EntryOk Try.prog 90 ent90:=entry_of ok90 inv90
@[push_cast] theorem ent90_app (us:List SV) (look:Look) (x:Nat→Xf.Loc) (k:Nat):ent90 us look x k = spOf fs90 inv90 us look x k:=rfl
structure Bds where
  L:Xf.Loc
  l:List Bd
def fs107:FS where
  A:=Bds
  args:=fun a => [.sl 0 a.L 6 0 a.l.length,.fn 90 []]
  mem:=fun a => [some (.ro,a.L,.recs 6 false [] (a.l.map Bd.rc))]
  pre:=fun a => a.l.length≤1000000∧∀ x ∈ a.l,x.ok
  res:=fun a _ => .int .i64 (if a.l.findIdx Bd.gone < a.l.length then (a.l.findIdx Bd.gone:Nat) else -1)
  out:=fun _ _ => []
  new:=fun _ _ => []
def getBd:List (List RC)→Option (List Bd)
  | [] => some []
  | [.int .i64 lv,.int .i64 kd,.int .i64 x,.int .i64 y,.int .i64 w,.int .i64 h] :: l => match getBd l with | some r => some (⟨lv,kd,x,y,w,h⟩ :: r) | none => none
  | _ => none
theorem getBd_map:∀ l:List Bd,getBd (l.map Bd.rc) = some l
  | [] => rfl
  | x :: l => by simp only [List.map_cons,Bd.rc,getBd,getBd_map l]
def inv107:List SV→Look→Option (Bds × List Nat)
  | [.sl c _ 6 0 _,.fn 90 []],look => match rowR (look c) with
    | some (L,6,_,r) => match getBd r with | some l => some (⟨L,l⟩,[c]) | none => none
    | _ => none
  | _,_ => none
attribute [push_cast] inv107 getBd_map
theorem ok107:FSOk Try.prog 107 fs107:=by
  refine ⟨⟨_,Try.func107,by kernel_rfl,by kernel_rfl⟩,fun a => ⟨by simp [fs107,push_cast,noMine,argOwn,Chunk.frArg],by simp [fs107,push_cast,outOk,Chunk.ext],fun x => .inl (by simp [fs107,push_cast,frNew,frOut,Chunk.fr])⟩,fun a hp => ?_⟩
  obtain ⟨L,l⟩:=a
  obtain ⟨hl,hok⟩:l.length≤1000000∧∀ x ∈ l,x.ok:=hp
  change Tri Try.prog 107 [.sl 0 L 6 0 l.length,.fn 90 []] [some (.ro,L,.recs 6 false [] (l.map Bd.rc))] (postF fs107 ⟨L,l⟩)
  refine tri_evS (hyp (l:=[(90,ent90)]) (lp:=[]) ⟨e90,trivial⟩ trivial) Try.func107 comp107 (rs:=[.tmp 4]) (by rfl) Try.ntmps107 14 ?_
  simp -implicitDefEqProofs only [push_cast,zz,BEq.rfl,ite_true,ite_false,List.append_nil,reduceCtorEq,Nat.reduceAdd,Nat.reduceSub,Nat.reduceMul,Nat.reduceLeDiff,Nat.reduceLT,Nat.reduceEqDiff,Nat.reduceBEq,Nat.reduceBNe,Int.reduceNeg,Int.reduceToNat,ir107]
  refine evS_loopU (A:=Nat) kp107_1 kl107_1 (fun i => [(8,.int .i64 i)]) (fun _ => []) (fun i => i≤l.length∧∀ j:Nat,j < i→(rdBd l j).gone = false) (fun i => l.length - i) 0 ⟨Nat.zero_le _,fun j hj => absurd hj (Nat.not_lt_zero j)⟩ (Sub.pt ?_) ?_
  · simp -implicitDefEqProofs only [push_cast,zz,BEq.rfl,ite_true,ite_false,List.append_nil,reduceCtorEq,Nat.reduceAdd,Nat.reduceSub,Nat.reduceMul,Nat.reduceLeDiff,Nat.reduceLT,Nat.reduceEqDiff,Nat.reduceBEq,Nat.reduceBNe,Int.reduceNeg,Int.reduceToNat]
  intro i ⟨hi,hj⟩ K hK
  by_cases hi':i < l.length
  · have r1:=recAt_Bd' (l:=l) (i:=(i:Int)) (by omega) (by omega) []
    have o1:=hok _ (rdBd_mem hi')
    have hlm:(l.map Bd.rc).length = l.length:=by rw [List.length_map]
    obtain ⟨x,hx⟩:∃ x,rdBd l (i:Int) = x:=⟨_,rfl⟩
    have hx':l[i] = x:=by rw [← rdBd_nat hi',hx]
    rw [hx] at r1 o1
    obtain ⟨lv,kd,x,y,w,h⟩:=x
    obtain ⟨g,hg⟩:∃ g,(⟨lv,kd,x,y,w,h⟩:Bd).gone = g:=⟨_,rfl⟩
    simp -implicitDefEqProofs only [push_cast,zz,BEq.rfl,ite_true,ite_false,List.append_nil,reduceCtorEq,Nat.reduceAdd,Nat.reduceSub,Nat.reduceMul,Nat.reduceLeDiff,Nat.reduceLT,Nat.reduceEqDiff,Nat.reduceBEq,Nat.reduceBNe,Int.reduceNeg,Int.reduceToNat,b107_1,r107_2,r1,Bd.rc,hlm,fs90,hg]
    refine ⟨fun _ => ?_,fun hl => by omega⟩
    repeat (refine And.intro (by first | omega | trivial | (intros; omega)) ?_)
    refine ⟨fun hb => ?_,fun hb => ⟨by omega,by omega,hK (i + 1) ⟨by omega,fun j h => ?_⟩ (by omega) _ _ (Sub.pt ?_)⟩⟩
    · have e:l.findIdx Bd.gone = i:=by
        rw [List.findIdx_eq hi']
        refine ⟨by rw [hx',hg]; exact hb,fun j h => ?_⟩
        have:=hj j h
        rwa [rdBd_nat (by omega)] at this
      refine postF.mk' (fun _ => default) [some 0] ?_
      simp -implicitDefEqProofs only [push_cast,zz,BEq.rfl,ite_true,ite_false,List.append_nil,reduceCtorEq,Nat.reduceAdd,Nat.reduceSub,Nat.reduceMul,Nat.reduceLeDiff,Nat.reduceLT,Nat.reduceEqDiff,Nat.reduceBEq,Nat.reduceBNe,Int.reduceNeg,Int.reduceToNat,fs107,e,hi',if_true]
    · by_cases e:j = i
      · subst e; rw [hx,hg]; exact hb
      · exact hj j (by omega)
    · simp -implicitDefEqProofs only [push_cast,zz,BEq.rfl,ite_true,ite_false,List.append_nil,reduceCtorEq,Nat.reduceAdd,Nat.reduceSub,Nat.reduceMul,Nat.reduceLeDiff,Nat.reduceLT,Nat.reduceEqDiff,Nat.reduceBEq,Nat.reduceBNe,Int.reduceNeg,Int.reduceToNat]
  · obtain rfl:i = l.length:=by omega
    clear hK
    have e:¬ l.findIdx Bd.gone < l.length:=fun h => by
      have h1:=List.findIdx_getElem (w:=h)
      have h2:=hj _ h
      rw [rdBd_nat h,h1] at h2
      cases h2
    simp -implicitDefEqProofs only [push_cast,zz,BEq.rfl,ite_true,ite_false,List.append_nil,reduceCtorEq,Nat.reduceAdd,Nat.reduceSub,Nat.reduceMul,Nat.reduceLeDiff,Nat.reduceLT,Nat.reduceEqDiff,Nat.reduceBEq,Nat.reduceBNe,Int.reduceNeg,Int.reduceToNat,b107_1,r107_2,Int.lt_irrefl,true_implies,true_and]
    refine postF.mk' (fun _ => default) [some 0] ?_
    simp -implicitDefEqProofs only [push_cast,zz,BEq.rfl,ite_true,ite_false,List.append_nil,reduceCtorEq,Nat.reduceAdd,Nat.reduceSub,Nat.reduceMul,Nat.reduceLeDiff,Nat.reduceLT,Nat.reduceEqDiff,Nat.reduceBEq,Nat.reduceBNe,Int.reduceNeg,Int.reduceToNat,fs107,e,if_false]
def ent107:Entry:=spOf fs107 inv107
theorem e107:EntryOk Try.prog 107 ent107:=entry_of ok107 inv107
@[push_cast] theorem ent107_app (us:List SV) (look:Look) (x:Nat→Xf.Loc) (k:Nat):ent107 us look x k = spOf fs107 inv107 us look x k:=rfl
def keptBd (l:List Bd):List Bd:=l.filter fun x => !x.gone
theorem keptBd_le (l:List Bd):(keptBd l).length≤l.length:=List.length_filter_le _ _
def fs89:FS where
  A:=Bds
  args:=fun a => [.sl 0 a.L 6 0 a.l.length,.fn 90 []]
  mem:=fun a => [some (.lent,a.L,.recs 6 false [] (a.l.map Bd.rc))]
  pre:=fun a => a.l.length≤1000000∧∀ x ∈ a.l,x.ok
  res:=fun a _ => .sl 0 a.L 6 0 (keptBd a.l).length
  out:=fun a _ => [some (some (.recs 6 false [] ((keptBd a.l).map Bd.rc++List.replicate (a.l.length - (keptBd a.l).length) [.int .i64 0,.int .i64 0,.int .i64 0,.int .i64 0,.int .i64 0,.int .i64 0])))]
  new:=fun _ _ => []
theorem del_step {l m:List Bd} {i j:Nat} (hij:i < j) (hj:j < l.length) (hm:m.length = l.length) (h1:m.take i = keptBd (l.take j)) (h2:m.drop j = l.drop j) :
    rdBd m j = rdBd l j∧((rdBd l j).gone = true→m.take i = keptBd (l.take (j + 1)))∧((rdBd l j).gone = false→(m.set i (rdBd l j)).take (i + 1) = keptBd (l.take (j + 1))∧(m.set i (rdBd l j)).drop (j + 1) = l.drop (j + 1))∧m.drop (j + 1) = l.drop (j + 1):=by
  have e0:m[j]'(by omega) = l[j]:=by
    have:=congrArg (fun q => q[0]?) h2
    simp only [List.getElem?_drop,Nat.add_zero] at this
    rw [List.getElem?_eq_getElem (by omega),List.getElem?_eq_getElem hj] at this
    exact Option.some.inj this
  have e1:l.take (j + 1) = l.take j++[l[j]]:=List.take_succ_eq_append_getElem hj
  have e2:m.drop (j + 1) = l.drop (j + 1):=by
    have:=congrArg (List.drop 1) h2
    simpa [List.drop_drop,Nat.add_comm] using this
  refine ⟨by rw [rdBd_nat hj,rdBd_nat (by omega),e0],fun h => ?_,fun h => ?_,e2⟩
  · rw [rdBd_nat hj] at h
    rw [h1,e1]; unfold keptBd; rw [List.filter_append]; simp [h]
  · rw [rdBd_nat hj] at h ⊢
    refine ⟨?_,by rw [List.drop_set_of_lt (by omega),e2]⟩
    rw [List.take_succ_eq_append_getElem (by simp; omega),List.take_set_of_le (Nat.le_refl i),List.getElem_set_self,h1,e1]
    unfold keptBd; rw [List.filter_append]; simp [h]
theorem kept_find {l:List Bd} (h:l.findIdx Bd.gone < l.length):l.take (l.findIdx Bd.gone) = keptBd (l.take (l.findIdx Bd.gone + 1)):=by
  rw [List.take_succ_eq_append_getElem h]
  unfold keptBd
  rw [List.filter_append,List.filter_eq_self.2 fun x hx => ?_]
  · have:=List.findIdx_getElem (w:=h); simp [this]
  · obtain ⟨j,hj,rfl⟩:=List.getElem_of_mem hx
    simp only [List.length_take] at hj
    have:=List.not_of_lt_findIdx (xs:=l) (p:=Bd.gone) (i:=j) (by omega)
    simpa using this
theorem kept_no {l:List Bd} (h:¬ l.findIdx Bd.gone < l.length):keptBd l = l:=by
  refine List.filter_eq_self.2 fun x hx => ?_
  have h1:¬ ∃ x ∈ l,x.gone = true:=fun q => h (List.findIdx_lt_length.2 q)
  simp only [Bool.not_eq_true',← Bool.not_eq_true]
  exact fun q => h1 ⟨x,hx,q⟩
theorem ok89:FSOk Try.prog 89 fs89:=by
  refine ⟨⟨_,Try.func89,by kernel_rfl,by kernel_rfl⟩,fun a => ⟨by simp [fs89,push_cast,noMine,argOwn,Chunk.frArg],by simp [fs89,push_cast,outOk,Chunk.ext],fun x => .inr ⟨fun j L ch h => ?_,fun c ch h => .inr fun y hy => ?_⟩⟩,fun a hp => ?_⟩
  · simp [fs89] at h
  · exfalso
    match c,h with
    | 0,h => simp only [fs89,lk,Option.some.injEq] at h; subst h; exact Bd.noRow _ _ _ _ _ hy
    | c + 1,h => simp [fs89,lk] at h
  obtain ⟨L,l⟩:=a
  obtain ⟨hl,hok⟩:l.length≤1000000∧∀ x ∈ l,x.ok:=hp
  change Tri Try.prog 89 [.sl 0 L 6 0 l.length,.fn 90 []] [some (.lent,L,.recs 6 false [] (l.map Bd.rc))] (postF fs89 ⟨L,l⟩)
  refine tri_evS (hyp (l:=[(107,ent107),(90,ent90)]) (lp:=[]) ⟨e107,e90,trivial⟩ trivial) Try.func89 comp89 (rs:=[.tmp 4]) (by rfl) Try.ntmps89 19 ?_
  simp -implicitDefEqProofs only [push_cast,zz,BEq.rfl,ite_true,ite_false,List.append_nil,reduceCtorEq,Nat.reduceAdd,Nat.reduceSub,Nat.reduceMul,Nat.reduceLeDiff,Nat.reduceLT,Nat.reduceEqDiff,Nat.reduceBEq,Nat.reduceBNe,Int.reduceNeg,Int.reduceToNat,ir89,fs107]
  refine ⟨hl,hok,?_⟩
  by_cases hf:l.findIdx Bd.gone < l.length
  case neg =>
    rw [if_neg hf]
    have e:=kept_no hf
    simp -implicitDefEqProofs only [push_cast,zz,BEq.rfl,ite_true,ite_false,List.append_nil,reduceCtorEq,Nat.reduceAdd,Nat.reduceSub,Nat.reduceMul,Nat.reduceLeDiff,Nat.reduceLT,Nat.reduceEqDiff,Nat.reduceBEq,Nat.reduceBNe,Int.reduceNeg,Int.reduceToNat,true_implies,true_and]
    refine postF.mk' (fun _ => default) [some 0] ?_
    simp -implicitDefEqProofs only [push_cast,zz,BEq.rfl,ite_true,ite_false,List.append_nil,reduceCtorEq,Nat.reduceAdd,Nat.reduceSub,Nat.reduceMul,Nat.reduceLeDiff,Nat.reduceLT,Nat.reduceEqDiff,Nat.reduceBEq,Nat.reduceBNe,Int.reduceNeg,Int.reduceToNat,fs89,e,Nat.sub_self,List.replicate_zero]
  rw [if_pos hf]
  have hk:=kept_find hf
  obtain ⟨f,hfe⟩:∃ f,l.findIdx Bd.gone = f:=⟨_,rfl⟩
  rw [hfe] at hf hk ⊢
  refine ⟨fun h => by omega,fun _ => ⟨by omega,by omega,?_⟩⟩
  refine evS_loopU (A:=Nat × Nat × List Bd) kp89_1 kl89_1 (fun y => [(5,.int .i64 y.1),(6,.int .i64 y.2.1)]) (fun y => [(0,.lent,L,.recs 6 false [] (y.2.2.map Bd.rc))])
    (fun y => y.1 < y.2.1∧y.2.1≤l.length∧y.2.2.length = l.length∧y.2.2.take y.1 = keptBd (l.take y.2.1)∧y.2.2.drop y.2.1 = l.drop y.2.1) (fun y => l.length - y.2.1) (f,f + 1,l) ⟨by simp only; omega,by simp only; omega,rfl,hk,rfl⟩ (Sub.pt ?_) ?_
  · simp -implicitDefEqProofs only [push_cast,zz,BEq.rfl,ite_true,ite_false,List.append_nil,reduceCtorEq,Nat.reduceAdd,Nat.reduceSub,Nat.reduceMul,Nat.reduceLeDiff,Nat.reduceLT,Nat.reduceEqDiff,Nat.reduceBEq,Nat.reduceBNe,Int.reduceNeg,Int.reduceToNat]
  rintro ⟨i,j,m⟩ ⟨h1,h2,h3,h4,h5⟩ K hK
  simp only at h1 h2 h3 h4 h5
  have hlm:(m.map Bd.rc).length = l.length:=by rw [List.length_map,h3]
  by_cases hj:j < l.length
  · obtain ⟨s1,s2,s3,s4⟩:=del_step h1 hj h3 h4 h5
    have r1:=recAt_Bd' (l:=m) (i:=(j:Int)) (by omega) (by omega) []
    have o1:=hok _ (rdBd_mem hj)
    rw [s1] at r1
    obtain ⟨x,hx⟩:∃ x,rdBd l (j:Int) = x:=⟨_,rfl⟩
    rw [hx] at r1 o1 s2 s3
    obtain ⟨lv,kd,x,y,w,h⟩:=x
    obtain ⟨g,hg⟩:∃ g,(⟨lv,kd,x,y,w,h⟩:Bd).gone = g:=⟨_,rfl⟩
    rw [hg] at s2 s3
    simp -implicitDefEqProofs only [push_cast,zz,BEq.rfl,ite_true,ite_false,List.append_nil,reduceCtorEq,Nat.reduceAdd,Nat.reduceSub,Nat.reduceMul,Nat.reduceLeDiff,Nat.reduceLT,Nat.reduceEqDiff,Nat.reduceBEq,Nat.reduceBNe,Int.reduceNeg,Int.reduceToNat,b89_1,r89_2,r1,Bd.rc,hlm,fs90,hg]
    refine ⟨fun _ => ?_,fun hl => by omega⟩
    intro X
    repeat (refine And.intro (by first | omega | trivial | (intros; omega)) ?_)
    refine ⟨fun hb => ?_,fun hb => ?_⟩
    · repeat (refine And.intro (by first | omega | trivial | (intros; omega)) ?_)
      refine hK (i + 1,j + 1,m.set i ⟨lv,kd,x,y,w,h⟩) ⟨by simp only; omega,by simp only; omega,by simp only [List.length_set]; exact h3,(s3 (by simpa using hb)).1,(s3 (by simpa using hb)).2⟩ (by simp only; omega) _ _ (Sub.pt ?_)
      have q:(m.map Bd.rc).set i [.int .i64 lv,.int .i64 kd,.int .i64 x,.int .i64 y,.int .i64 w,.int .i64 h] = (m.set i ⟨lv,kd,x,y,w,h⟩).map Bd.rc:=by rw [List.map_set]; rfl
      simp -implicitDefEqProofs only [push_cast,zz,BEq.rfl,ite_true,ite_false,List.append_nil,reduceCtorEq,Nat.reduceAdd,Nat.reduceSub,Nat.reduceMul,Nat.reduceLeDiff,Nat.reduceLT,Nat.reduceEqDiff,Nat.reduceBEq,Nat.reduceBNe,Int.reduceNeg,Int.reduceToNat,q,Int.toNat_natCast]
    · repeat (refine And.intro (by first | omega | trivial | (intros; omega)) ?_)
      refine hK (i,j + 1,m) ⟨by simp only; omega,by simp only; omega,h3,s2 (by simpa using hb),s4⟩ (by simp only; omega) _ _ (Sub.pt ?_)
      simp -implicitDefEqProofs only [push_cast,zz,BEq.rfl,ite_true,ite_false,List.append_nil,reduceCtorEq,Nat.reduceAdd,Nat.reduceSub,Nat.reduceMul,Nat.reduceLeDiff,Nat.reduceLT,Nat.reduceEqDiff,Nat.reduceBEq,Nat.reduceBNe,Int.reduceNeg,Int.reduceToNat]
  · obtain rfl:j = l.length:=by omega
    clear hK
    rw [List.take_length] at h4
    have hi:i = (keptBd l).length:=by
      have:=congrArg List.length h4
      rw [List.length_take] at this; omega
    simp -implicitDefEqProofs only [push_cast,zz,BEq.rfl,ite_true,ite_false,List.append_nil,reduceCtorEq,Nat.reduceAdd,Nat.reduceSub,Nat.reduceMul,Nat.reduceLeDiff,Nat.reduceLT,Nat.reduceEqDiff,Nat.reduceBEq,Nat.reduceBNe,Int.reduceNeg,Int.reduceToNat,b89_1,r89_2,hlm,Int.lt_irrefl,true_implies,true_and]
    repeat (refine And.intro (by first | omega | trivial | (intros; omega)) ?_)
    refine postF.mk' (fun _ => default) [some 0] ?_
    have q:(m.map Bd.rc).take i = (keptBd l).map Bd.rc:=by rw [← List.map_take,h4]
    have q2:((l.length:Int) - (i:Int)).toNat = l.length - (keptBd l).length:=by omega
    simp -implicitDefEqProofs only [push_cast,zz,BEq.rfl,ite_true,ite_false,List.append_nil,reduceCtorEq,Nat.reduceAdd,Nat.reduceSub,Nat.reduceMul,Nat.reduceLeDiff,Nat.reduceLT,Nat.reduceEqDiff,Nat.reduceBEq,Nat.reduceBNe,Int.reduceNeg,Int.reduceToNat,fs89,q,q2,← hi,Int.toNat_natCast,Int.zero_add,Int.sub_zero]
def ent89:Entry:=spOf fs89 inv107
theorem e89:EntryOk Try.prog 89 ent89:=entry_of ok89 inv107
@[push_cast] theorem ent89_app (us:List SV) (look:Look) (x:Nat→Xf.Loc) (k:Nat):ent89 us look x k = spOf fs89 inv107 us look x k:=rfl
def b54_1:IR :=
  .seq (.seq (.reg false [⟨some 56,none,⟨[],[]⟩,.mov (.t 10)⟩,
    ⟨some 57,none,⟨[],[]⟩,.bin 0 .gtr (.t 56) (.k (.int .i64 0))⟩] [56] []) (.cond (.t 57) (.skip) (.exit 0))) (.seq (.block 1 (.seq (.reg false [⟨some 60,none,⟨[],[]⟩,.mov (.t 8)⟩,
    ⟨some 61,none,⟨[],[]⟩,.mov (.t 10)⟩,
    ⟨some 62,none,⟨[],[]⟩,.bin 0 .sub (.t 61) (.k (.int .i64 1))⟩,
    ⟨some 63,none,⟨[],[]⟩,.idxS (.t 60) (.t 62) 2⟩,
    ⟨some 64,none,⟨[],[]⟩,.ld true (some 2) 0 0 (.t 63)⟩,
    ⟨some 11,none,⟨[],[]⟩,.allocI 15 .i64 2⟩,
    ⟨none,none,⟨[],[]⟩,.sto true 2 .i64 (.t 11) (.t 64)⟩] [57,60,61,62,63,64] []) (.seq (.reg false [⟨some 65,none,⟨[],[]⟩,.mov (.t 8)⟩,
    ⟨some 66,none,⟨[],[]⟩,.mov (.t 10)⟩,
    ⟨some 67,none,⟨[],[]⟩,.idxS (.t 65) (.t 66) 2⟩,
    ⟨some 68,none,⟨[],[]⟩,.ld true (some 2) 0 0 (.t 67)⟩,
    ⟨some 12,none,⟨[],[]⟩,.allocI 16 .i64 2⟩,
    ⟨none,none,⟨[],[]⟩,.sto true 2 .i64 (.t 12) (.t 68)⟩] [65,66,67,68] []) (.seq (.reg true [⟨some 69,none,⟨[],[]⟩,.idxP (.t 11) (.k (.int .i64 0)) 2 1⟩,
    ⟨some 70,none,⟨[],[]⟩,.ld true none 0 0 (.t 69)⟩,
    ⟨some 71,none,⟨[],[]⟩,.idxP (.t 12) (.k (.int .i64 0)) 2 1⟩,
    ⟨some 72,none,⟨[],[]⟩,.ld true none 0 0 (.t 71)⟩,
    ⟨some 73,none,⟨[],[]⟩,.bin 0 .sub (.t 70) (.t 72)⟩,
    ⟨some 74,none,⟨[],[]⟩,.idxP (.t 11) (.k (.int .i64 1)) 2 1⟩,
    ⟨some 75,none,⟨[],[]⟩,.ld true none 0 0 (.t 74)⟩,
    ⟨some 76,none,⟨[],[]⟩,.idxP (.t 12) (.k (.int .i64 1)) 2 1⟩,
    ⟨some 77,none,⟨[],[]⟩,.ld true none 0 0 (.t 76)⟩,
    ⟨some 78,none,⟨[],[]⟩,.bin 0 .sub (.t 75) (.t 77)⟩,
    ⟨some 13,none,⟨[],[]⟩,.mov (.t 73)⟩,
    ⟨some 14,none,⟨[],[]⟩,.mov (.t 78)⟩] [11,69,70,71,72,73,74,75,76,77,78] []) (.reg false [⟨some 79,none,⟨[],[]⟩,.mov (.t 9)⟩,
    ⟨some 80,none,⟨[],[]⟩,.mov (.t 10)⟩,
    ⟨some 81,none,⟨[],[]⟩,.idxP (.t 12) (.k (.int .i64 0)) 2 1⟩,
    ⟨some 82,none,⟨[],[]⟩,.ld true none 0 0 (.t 81)⟩,
    ⟨some 83,none,⟨[],[]⟩,.mov (.t 13)⟩,
    ⟨some 84,none,⟨[],[]⟩,.idxP (.t 12) (.k (.int .i64 1)) 2 1⟩,
    ⟨some 85,none,⟨[],[]⟩,.ld true none 0 0 (.t 84)⟩,
    ⟨some 86,none,⟨[],[]⟩,.build [.int .i64 0,.int .i64 0,.int .i64 0,.int .i64 0,.int .i64 0,.int .i64 0] [(0,1,.t 80),(1,1,.k (.int .i64 1)),(2,1,.t 82),(4,1,.t 83),(5,1,.t 85)]⟩,
    ⟨some 87,none,⟨[],[]⟩,.mov (.t 10)⟩,
    ⟨some 88,none,⟨[],[]⟩,.idxP (.t 12) (.k (.int .i64 1)) 2 1⟩,
    ⟨some 89,none,⟨[],[]⟩,.ld true none 0 0 (.t 88)⟩,
    ⟨some 90,none,⟨[],[]⟩,.idxP (.t 12) (.k (.int .i64 0)) 2 1⟩,
    ⟨some 91,none,⟨[],[]⟩,.ld true none 0 0 (.t 90)⟩,
    ⟨some 92,none,⟨[],[]⟩,.mov (.t 14)⟩,
    ⟨some 93,none,⟨[],[]⟩,.build [.int .i64 0,.int .i64 0,.int .i64 0,.int .i64 0,.int .i64 0,.int .i64 0] [(0,1,.t 87),(1,1,.k (.int .i64 2)),(3,1,.t 89),(4,1,.t 91),(5,1,.t 92)]⟩,
    ⟨some 94,none,⟨[],[]⟩,.mov (.t 10)⟩,
    ⟨some 95,none,⟨[],[]⟩,.idxP (.t 12) (.k (.int .i64 0)) 2 1⟩,
    ⟨some 96,none,⟨[],[]⟩,.ld true none 0 0 (.t 95)⟩,
    ⟨some 97,none,⟨[],[]⟩,.idxP (.t 12) (.k (.int .i64 1)) 2 1⟩,
    ⟨some 98,none,⟨[],[]⟩,.ld true none 0 0 (.t 97)⟩,
    ⟨some 99,none,⟨[],[]⟩,.mov (.t 13)⟩,
    ⟨some 100,none,⟨[],[]⟩,.mov (.t 14)⟩,
    ⟨some 101,none,⟨[],[]⟩,.build [.int .i64 0,.int .i64 0,.int .i64 0,.int .i64 0,.int .i64 0,.int .i64 0] [(0,1,.t 94),(1,1,.k (.int .i64 3)),(2,1,.t 96),(3,1,.t 98),(4,1,.t 99),(5,1,.t 100)]⟩,
    ⟨some 102,none,⟨[],[]⟩,.brecs 17 6 .i64 [.t 86,.t 93,.t 101]⟩,
    ⟨some 103,none,⟨[],[]⟩,.app 18 6 48 (.t 79) (.t 102)⟩,
    ⟨some 9,none,⟨[],[]⟩,.mov (.t 103)⟩] [12,13,14,79,80,81,82,83,84,85,86,87,88,89,90,91,92,93,94,95,96,97,98,99,100,101,102,103] []))))) (.reg false [⟨some 58,none,⟨[],[]⟩,.mov (.t 10)⟩,
    ⟨some 59,none,⟨[],[]⟩,.bin 0 .sub (.t 58) (.k (.int .i64 1))⟩,
    ⟨some 10,none,⟨[],[]⟩,.mov (.t 59)⟩] [58,59] []))
def r54_2:IR :=
  .seq (.reg false [⟨some 104,none,⟨[],[]⟩,.mov (.t 9)⟩,
    ⟨some 105,none,⟨[],[]⟩,.call none 19 89 [.t 104,.k (.fn 90 [])]⟩,
    ⟨some 6,none,⟨[],[]⟩,.mov (.t 105)⟩,
    ⟨some 7,none,⟨[],[]⟩,.mov (.k (.int .i64 0))⟩] [8,9,10,104,105] []) (.ret)
def ir54:IR :=
  .seq (.reg false [⟨some 6,none,⟨[],[]⟩,.mov (.k nilSV)⟩,
    ⟨some 7,none,⟨[],[]⟩,.mov (.k (.int .i64 0))⟩] [6,7] []) (.seq (.seq (.reg false [⟨some 15,none,⟨[],[]⟩,.mov (.t 2)⟩,
    ⟨some 16,none,⟨[],[]⟩,.bin 0 .lss (.t 15) (.k (.int .i64 0))⟩,
    ⟨some 17,none,⟨[],[]⟩,.mov (.t 16)⟩,
    ⟨some 18,some (17,false),⟨[],[]⟩,.mov (.t 2)⟩,
    ⟨some 19,some (17,false),⟨[],[]⟩,.bin 0 .gtr (.t 18) (.k (.int .i64 6))⟩,
    ⟨some 20,none,⟨[],[]⟩,.pick (.t 17) (.k (.bool true)) (.t 19)⟩,
    ⟨some 21,none,⟨[],[]⟩,.mov (.t 20)⟩,
    ⟨some 22,some (21,false),⟨[],[]⟩,.mov (.t 0)⟩,
    ⟨some 23,some (21,false),⟨[],[]⟩,.bin 0 .lss (.t 22) (.k (.int .i64 0))⟩,
    ⟨some 24,none,⟨[],[]⟩,.pick (.t 21) (.k (.bool true)) (.t 23)⟩,
    ⟨some 25,none,⟨[],[]⟩,.mov (.t 24)⟩,
    ⟨some 26,some (25,false),⟨[],[]⟩,.mov (.t 1)⟩,
    ⟨some 27,some (25,false),⟨[],[]⟩,.bin 0 .lss (.t 26) (.k (.int .i64 0))⟩,
    ⟨some 28,none,⟨[],[]⟩,.pick (.t 25) (.k (.bool true)) (.t 27)⟩,
    ⟨some 29,none,⟨[],[]⟩,.mov (.t 28)⟩,
    ⟨some 30,some (29,false),⟨[],[]⟩,.mov (.t 0)⟩,
    ⟨some 31,some (29,false),⟨[],[]⟩,.bin 0 .gtr (.t 30) (.k (.int .i64 200))⟩,
    ⟨some 32,none,⟨[],[]⟩,.pick (.t 29) (.k (.bool true)) (.t 31)⟩,
    ⟨some 33,none,⟨[],[]⟩,.mov (.t 32)⟩,
    ⟨some 34,some (33,false),⟨[],[]⟩,.mov (.t 1)⟩,
    ⟨some 35,some (33,false),⟨[],[]⟩,.bin 0 .gtr (.t 34) (.k (.int .i64 200))⟩,
    ⟨some 36,none,⟨[],[]⟩,.pick (.t 33) (.k (.bool true)) (.t 35)⟩] [15,16,17,18,19,20,21,22,23,24,25,26,27,28,29,30,31,32,33,34,35] []) (.cond (.t 36) (.seq (.reg false [⟨some 6,none,⟨[],[]⟩,.mov (.k nilSV)⟩,
    ⟨some 7,none,⟨[],[]⟩,.mov (.k (.int .i64 2))⟩] [0,1,2,36] []) (.ret)) (.skip))) (.seq (.reg false [⟨some 37,none,⟨[],[]⟩,.mov (.t 0)⟩,
    ⟨some 38,none,⟨[],[]⟩,.mov (.t 1)⟩,
    ⟨some 39,none,⟨[],[]⟩,.mov (.t 2)⟩,
    ⟨some 40,none,⟨[],[]⟩,.bin 0 .add (.t 39) (.k (.int .i64 1))⟩,
    ⟨some 41,none,⟨[],[]⟩,.call (some 4) 10 88 [.t 37,.t 38,.t 40]⟩,
    ⟨some 8,none,⟨[],[]⟩,.mov (.t 41)⟩] [0,1,6,7,36,37,38,39,40,41] []) (.seq (.reg true [⟨some 42,none,⟨[],[]⟩,.mov (.t 2)⟩,
    ⟨some 43,none,⟨[],[]⟩,.mov (.t 8)⟩,
    ⟨some 44,none,⟨[],[]⟩,.mov (.t 2)⟩,
    ⟨some 45,none,⟨[],[]⟩,.idxS (.t 43) (.t 44) 2⟩,
    ⟨some 46,none,⟨[],[]⟩,.idxP (.t 45) (.k (.int .i64 0)) 2 1⟩,
    ⟨some 47,none,⟨[],[]⟩,.ld true none 0 0 (.t 46)⟩,
    ⟨some 48,none,⟨[],[]⟩,.mov (.t 8)⟩,
    ⟨some 49,none,⟨[],[]⟩,.mov (.t 2)⟩,
    ⟨some 50,none,⟨[],[]⟩,.idxS (.t 48) (.t 49) 2⟩,
    ⟨some 51,none,⟨[],[]⟩,.idxP (.t 50) (.k (.int .i64 1)) 2 1⟩,
    ⟨some 52,none,⟨[],[]⟩,.ld true none 0 0 (.t 51)⟩,
    ⟨some 53,none,⟨[],[]⟩,.build [.int .i64 0,.int .i64 0,.int .i64 0,.int .i64 0,.int .i64 0,.int .i64 0] [(0,1,.t 42),(4,1,.t 47),(5,1,.t 52)]⟩,
    ⟨some 54,none,⟨[],[]⟩,.brecs 14 6 .i64 [.t 53]⟩,
    ⟨some 9,none,⟨[],[]⟩,.mov (.t 54)⟩] [42,43,44,45,46,47,48,49,50,51,52,53,54] []) (.seq (.seq (.reg false [⟨some 55,none,⟨[],[]⟩,.mov (.t 2)⟩,
    ⟨some 10,none,⟨[],[]⟩,.mov (.t 55)⟩] [2,55] []) (.block 0 (.loop b54_1))) (r54_2)))))
def kp54_1:List Nat:=[8,9,10]
def kl54_1:List Nat:=[15,16,17,18]
attribute [push_cast] kp54_1 kl54_1
set_option maxRecDepth 4000 in
theorem comp54:(Try.f54.body.bind fun c => compC tab isP chkAll ir54 c) = some ir54:=by kernel_rfl
def bd0 (w h n:Nat):Bd:=⟨n,0,0,0,hlf w n,hlf h n⟩
def bd3 (w h i:Nat):List Bd:=[⟨i,1,hlf w i,0,(hlf w (i - 1):Int) - hlf w i,hlf h i⟩,⟨i,2,0,hlf h i,hlf w i,(hlf h (i - 1):Int) - hlf h i⟩,⟨i,3,hlf w i,hlf h i,(hlf w (i - 1):Int) - hlf w i,(hlf h (i - 1):Int) - hlf h i⟩]
def bdD (w h n:Nat):Nat→List Bd
  | 0 => [bd0 w h n]
  | k + 1 => bdD w h n k++bd3 w h (n - k)
def bdN (k:Nat):Nat:=1 + 3 * k
theorem bdD_length (w h n:Nat):∀ k,(bdD w h n k).length = bdN k
  | 0 => rfl
  | k + 1 => by rw [bdD,List.length_append,bdD_length w h n k]; simp [bd3,bdN]; omega
theorem bdD_ok {w h n:Nat} (hw:w≤200) (hh:h≤200):∀ k,k≤n→∀ x ∈ bdD w h n k,x.ok
  | 0,_,x,hx => by
    have b1:=hlf_le w n
    have b2:=hlf_le h n
    simp only [bdD,List.mem_singleton] at hx
    subst hx
    simp only [Bd.ok,bd0]; omega
  | k + 1,hk,x,hx => by
    rw [bdD,List.mem_append] at hx
    rcases hx with hx | hx
    · exact bdD_ok hw hh k (by omega) x hx
    · obtain ⟨i,hi⟩:∃ i,n - k = i + 1:=⟨n - k - 1,by omega⟩
      rw [hi] at hx
      have b1:=hlf_le w i
      have b2:=hlf_le h i
      have b3:=hlf_mono w i
      have b4:=hlf_mono h i
      simp only [bd3,Nat.add_sub_cancel,List.mem_cons,List.not_mem_nil,or_false] at hx
      rcases hx with rfl | rfl | rfl <;> simp only [Bd.ok] <;> omega
def bnOk (w h n:Int):Prop:=0≤n∧n≤6∧0≤w∧w≤200∧0≤h∧h≤200
instance (w h n:Int):Decidable (bnOk w h n):=by unfold bnOk; infer_instance
def bnA (w h n:Int):List Bd:=if bnOk w h n then bdD w.toNat h.toNat n.toNat n.toNat else []
def bnL (w h n:Int):List Bd:=keptBd (bnA w h n)
theorem bnL_le (w h n:Int):(bnL w h n).length≤19:=by
  refine Nat.le_trans (keptBd_le _) ?_
  unfold bnA
  split
  · rename_i H; rw [bdD_length]; obtain ⟨h1,h2,_⟩:=H; unfold bdN; omega
  · exact Nat.zero_le _
structure BnA where
  w:Int
  h:Int
  n:Int
def bnZ (w h n:Int):List (List RC):=(bnL w h n).map Bd.rc++List.replicate ((bnA w h n).length - (bnL w h n).length) [.int .i64 0,.int .i64 0,.int .i64 0,.int .i64 0,.int .i64 0,.int .i64 0]
def fs54:FS where
  A:=BnA
  args:=fun a => [.int .i64 a.w,.int .i64 a.h,.int .i64 a.n]
  mem:=fun _ => []
  pre:=fun _ => True
  res:=fun a x => .tup [.sl 0 (lx (bnOk a.w a.h a.n) x 0) (if bnOk a.w a.h a.n then 6 else 1) 0 (bnL a.w a.h a.n).length,.int .i64 (if bnOk a.w a.h a.n then 0 else 2)]
  out:=fun _ _ => []
  new:=fun a x => [(lx (bnOk a.w a.h a.n) x 0,.recs 6 false [] (bnZ a.w a.h a.n))]
def inv54:List SV→Look→Option (BnA × List Nat)
  | [.int .i64 w,.int .i64 h,.int .i64 n],look => some (⟨w,h,n⟩,[])
  | _,_ => none
attribute [push_cast] inv54
theorem ok54:FSOk Try.prog 54 fs54:=by
  refine ⟨⟨_,Try.func54,by kernel_rfl,by kernel_rfl⟩,fun a => ⟨by simp [fs54,push_cast,noMine,argOwn,Chunk.frArg],by simp [fs54,push_cast,outOk,Chunk.ext],fun x => .inr ⟨fun j L ch h => .inr fun y hy => ?_,fun c ch h => ?_⟩⟩,fun a hp => ?_⟩
  · exfalso
    match j,h with
    | 0,h =>
      simp only [fs54,List.getElem?_cons_zero,Option.some.injEq,Prod.mk.injEq] at h
      obtain ⟨_,rfl⟩:=h; exact Bd.noRow _ _ _ _ _ hy
    | j + 1,h => simp [fs54] at h
  · simp [fs54,lk] at h
  obtain ⟨w,h,n⟩:=a
  change Tri Try.prog 54 [.int .i64 w,.int .i64 h,.int .i64 n] [] (postF fs54 ⟨w,h,n⟩)
  refine tri_evS (hyp (l:=[(88,ent88),(89,ent89)]) (lp:=[]) ⟨e88,e89,trivial⟩ trivial) Try.func54 comp54 (rs:=[.tmp 6,.tmp 7]) (by rfl) Try.ntmps54 23 ?_
  simp -implicitDefEqProofs only [push_cast,zz,BEq.rfl,ite_true,ite_false,List.append_nil,reduceCtorEq,Nat.reduceAdd,Nat.reduceSub,Nat.reduceMul,Nat.reduceLeDiff,Nat.reduceLT,Nat.reduceEqDiff,Nat.reduceBEq,Nat.reduceBNe,Int.reduceNeg,Int.reduceToNat,ir54]
  refine ⟨fun hb => ?_,fun hg => ?_⟩
  · have e:¬ bnOk w h n:=fun H => by obtain ⟨q1,q2,q3,q4,q5,q6⟩:=H; omega
    have e1:bnA w h n = []:=if_neg e
    have e2:bnL w h n = []:=by unfold bnL; rw [e1]; rfl
    refine postF.mk' (fun _ => default) [none] ?_
    simp -implicitDefEqProofs only [push_cast,zz,BEq.rfl,ite_true,ite_false,List.append_nil,reduceCtorEq,Nat.reduceAdd,Nat.reduceSub,Nat.reduceMul,Nat.reduceLeDiff,Nat.reduceLT,Nat.reduceEqDiff,Nat.reduceBEq,Nat.reduceBNe,Int.reduceNeg,Int.reduceToNat,fs54,bnZ,e,e1,e2,if_false,lx,List.length_nil,List.map_nil,Nat.sub_self,List.replicate_zero]
  have e:bnOk w h n:=by unfold bnOk; omega
  obtain ⟨q1,q2,q3,q4,q5,q6⟩:=id e
  obtain ⟨w,rfl⟩:∃ m:Nat,w = (m:Int):=⟨w.toNat,by omega⟩
  obtain ⟨h,rfl⟩:∃ m:Nat,h = (m:Int):=⟨h.toNat,by omega⟩
  obtain ⟨n,rfl⟩:∃ m:Nat,n = (m:Int):=⟨n.toNat,by omega⟩
  have en:((n:Int) + 1).toNat = n + 1:=by omega
  have r1:=recAt_tabR (i:=n) (n:=n + 1) (by omega) (sdR w h) []
  simp -implicitDefEqProofs only [push_cast,zz,BEq.rfl,ite_true,ite_false,List.append_nil,reduceCtorEq,Nat.reduceAdd,Nat.reduceSub,Nat.reduceMul,Nat.reduceLeDiff,Nat.reduceLT,Nat.reduceEqDiff,Nat.reduceBEq,Nat.reduceBNe,Int.reduceNeg,Int.reduceToNat,fs88,Int.toNat_natCast,en,r1,sdR,esz,tabR_length]
  intro X
  repeat (refine And.intro (by first | omega | trivial | (intros; omega)) ?_)
  intro X1
  repeat (refine And.intro (by first | omega | trivial | (intros; omega)) ?_)
  refine evS_loopU (A:=Nat × Nat × Xf.Loc) kp54_1 kl54_1 (fun y => [(9,.sl 14 y.2.2 6 0 (bdN y.1)),(10,.int .i64 y.2.1)]) (fun y => [(14,.mine,y.2.2,.recs 6 true [] ((bdD w h n y.1).map Bd.rc))]) (fun y => y.1 + y.2.1 = n) (fun y => y.2.1) (0,n,X1 12 14) (Nat.zero_add n) (Sub.pt ?_) ?_
  · simp -implicitDefEqProofs only [push_cast,zz,BEq.rfl,ite_true,ite_false,List.append_nil,reduceCtorEq,Nat.reduceAdd,Nat.reduceSub,Nat.reduceMul,Nat.reduceLeDiff,Nat.reduceLT,Nat.reduceEqDiff,Nat.reduceBEq,Nat.reduceBNe,Int.reduceNeg,Int.reduceToNat,bdD,bd0,Bd.rc,List.map_cons,List.map_nil,Nat.mul_zero,show bdN 0 = 1 from rfl]
  rintro ⟨k,lv,N⟩ (hk:k + lv = n) K hK
  have hlen:((bdD w h n k).map Bd.rc).length = bdN k:=by rw [List.length_map,bdD_length]
  have hN3:bdN k = 1 + 3 * k:=rfl
  have hN4:bdN (k + 1) = 1 + 3 * (k + 1):=rfl
  by_cases h0:0 < lv
  · obtain ⟨lv,rfl⟩:∃ i,lv = i + 1:=⟨lv - 1,by omega⟩
    have e1:((lv + 1:Nat):Int) - 1 = (lv:Int):=by omega
    have r2:=recAt_tabR (i:=lv) (n:=n + 1) (by omega) (sdR w h) []
    have r3:=recAt_tabR (i:=lv + 1) (n:=n + 1) (by omega) (sdR w h) []
    have b1:=hlf_le w lv
    have b2:=hlf_le h lv
    have b3:=hlf_mono w lv
    have b4:=hlf_mono h lv
    have e0:∀ a b:Int,rd [a,b] 0 = a:=fun _ _ => rfl
    have e2:∀ a b:Int,rd [a,b] 1 = b:=fun _ _ => rfl
    generalize hlv:((lv + 1:Nat):Int) = lvi at e1 r3
    simp -implicitDefEqProofs only [push_cast,zz,BEq.rfl,ite_true,ite_false,List.append_nil,reduceCtorEq,Nat.reduceAdd,Nat.reduceSub,Nat.reduceMul,Nat.reduceLeDiff,Nat.reduceLT,Nat.reduceEqDiff,Nat.reduceBEq,Nat.reduceBNe,Int.reduceNeg,Int.reduceToNat,b54_1,r54_2,hlv,e1,r2,r3,sdR,e0,e2,hlen,tabR_length]
    refine ⟨fun _ => ?_,fun hl => by omega⟩
    intro X2
    repeat (refine And.intro (by first | omega | trivial | (intros; omega)) ?_)
    intro X3
    repeat (refine And.intro (by first | omega | trivial | (intros; omega)) ?_)
    intro X4
    repeat (refine And.intro (by first | omega | trivial | (intros; omega)) ?_)
    have q:(bdD w h n k).map Bd.rc++[[.int .i64 lvi,.int .i64 1,.int .i64 (hlf w (lv + 1)),.int .i64 0,.int .i64 ((hlf w lv:Int) - hlf w (lv + 1)),.int .i64 (hlf h (lv + 1))],[.int .i64 lvi,.int .i64 2,.int .i64 0,.int .i64 (hlf h (lv + 1)),.int .i64 (hlf w (lv + 1)),.int .i64 ((hlf h lv:Int) - hlf h (lv + 1))],[.int .i64 lvi,.int .i64 3,.int .i64 (hlf w (lv + 1)),.int .i64 (hlf h (lv + 1)),.int .i64 ((hlf w lv:Int) - hlf w (lv + 1)),.int .i64 ((hlf h lv:Int) - hlf h (lv + 1))]] = (bdD w h n (k + 1)).map Bd.rc:=by
      rw [bdD,List.map_append,show n - k = lv + 1 by omega]
      simp [bd3,Bd.rc,← hlv]
    refine hK (k + 1,lv,X4 24 18) (show k + 1 + lv = n by omega) (show lv < lv + 1 by omega) _ _ (Sub.of (mkG 23 [(10,10),(14,18)]) ?_)
    simp -implicitDefEqProofs only [push_cast,zz,BEq.rfl,ite_true,ite_false,List.append_nil,reduceCtorEq,Nat.reduceAdd,Nat.reduceSub,Nat.reduceMul,Nat.reduceLeDiff,Nat.reduceLT,Nat.reduceEqDiff,Nat.reduceBEq,Nat.reduceBNe,Int.reduceNeg,Int.reduceToNat,q]
    omega
  · obtain rfl:lv = 0:=by omega
    obtain rfl:k = n:=by omega
    clear hK
    have hall:bnA w h k = bdD w h k k:=by unfold bnA; rw [if_pos e]; simp only [Int.toNat_natCast]
    have hg2:getBd ((bdD w h k k).map Bd.rc) = some (bdD w h k k):=getBd_map _
    have hle:=bdD_length w h k k
    have hok:=bdD_ok (w:=w) (h:=h) (n:=k) (by omega) (by omega) k (Nat.le_refl _)
    simp -implicitDefEqProofs only [push_cast,zz,BEq.rfl,ite_true,ite_false,List.append_nil,reduceCtorEq,Nat.reduceAdd,Nat.reduceSub,Nat.reduceMul,Nat.reduceLeDiff,Nat.reduceLT,Nat.reduceEqDiff,Nat.reduceBEq,Nat.reduceBNe,Int.reduceNeg,Int.reduceToNat,b54_1,r54_2,fs89,hg2,hle,Int.lt_irrefl,true_implies,true_and]
    refine ⟨by omega,hok,postF.mk' (fun _ => N) [some 14] ?_⟩
    have hL:bnL w h k = keptBd (bdD w h k k):=by unfold bnL; rw [hall]
    simp -implicitDefEqProofs only [push_cast,zz,BEq.rfl,ite_true,ite_false,List.append_nil,reduceCtorEq,Nat.reduceAdd,Nat.reduceSub,Nat.reduceMul,Nat.reduceLeDiff,Nat.reduceLT,Nat.reduceEqDiff,Nat.reduceBEq,Nat.reduceBNe,Int.reduceNeg,Int.reduceToNat,fs54,bnZ,hL,hall,hle,e,if_true,lx]
def ent54:Entry:=spOf fs54 inv54
theorem e54:EntryOk Try.prog 54 ent54:=entry_of ok54 inv54
@[push_cast] theorem ent54_app (us:List SV) (look:Look) (x:Nat→Xf.Loc) (k:Nat):ent54 us look x k = spOf fs54 inv54 us look x k:=rfl
theorem bd_keep {x:Bd} (h:x.ok):(0 < x.w∧0 < x.h)↔x.gone = false:=by
  obtain ⟨h1,h2,h3,h4⟩:=h
  unfold Bd.gone
  rw [decide_eq_false_iff_not,Int.mul_eq_zero]
  omega
theorem kept_in {w h n:Nat} (hw:w≤200) (hh:h≤200) {b:Bd} (hb:b ∈ keptBd (bdD w h n n)):0≤b.x∧0≤b.y∧1≤b.w∧1≤b.h∧b.x + b.w≤w∧b.y + b.h≤h:=by
  have hm:b ∈ bdD w h n n∧b.gone = false:=by
    unfold keptBd at hb
    rw [List.mem_filter] at hb
    exact ⟨hb.1,by simpa using hb.2⟩
  have ho:=bdD_ok hw hh n (Nat.le_refl n) b hm.1
  have hp:=(bd_keep ho).2 hm.2
  have key:∀ k,k≤n→∀ x ∈ bdD w h n k,0≤x.x∧0≤x.y∧x.x + x.w≤w∧x.y + x.h≤h:=by
    intro k
    induction k with
    | zero =>
      intro _ x hx
      have b1:=hlf_le w n
      have b2:=hlf_le h n
      simp only [bdD,List.mem_singleton] at hx
      subst hx
      simp only [bd0]; omega
    | succ k ih =>
      intro hk x hx
      rw [bdD,List.mem_append] at hx
      rcases hx with hx | hx
      · exact ih (by omega) x hx
      · obtain ⟨i,hi⟩:∃ i,n - k = i + 1:=⟨n - k - 1,by omega⟩
        rw [hi] at hx
        have b1:=hlf_le w i
        have b2:=hlf_le h i
        have b3:=hlf_mono w i
        have b4:=hlf_mono h i
        simp only [bd3,Nat.add_sub_cancel,List.mem_cons,List.not_mem_nil,or_false] at hx
        rcases hx with rfl | rfl | rfl <;> simp only <;> omega
  have:=key n (Nat.le_refl n) b hm.1
  omega
def b91_1:IR :=
  .seq (.reg false [⟨some 5,none,⟨[],[]⟩,.bin 0 .lss (.t 4) (.k (.int .i64 32))⟩] [] []) (.seq (.cond (.t 5) (.skip) (.exit 0)) (.seq (.block 1 (.seq (.reg false [⟨some 6,none,⟨[],[]⟩,.mov (.t 4)⟩,
    ⟨some 3,none,⟨[],[]⟩,.mov (.t 6)⟩] [5,6] []) (.seq (.reg false [⟨some 7,none,⟨[],[]⟩,.mov (.t 3)⟩,
    ⟨some 8,none,⟨[],[]⟩,.mov (.t 2)⟩,
    ⟨some 9,none,⟨[],[]⟩,.idxP (.t 1) (.t 7) 32 1⟩,
    ⟨none,none,⟨[],[]⟩,.sto true 1 .i64 (.t 9) (.t 8)⟩] [3,7,8,9] []) (.reg false [⟨some 10,none,⟨[],[]⟩,.mov (.t 2)⟩,
    ⟨some 11,none,⟨[],[]⟩,.mov (.t 2)⟩,
    ⟨some 12,none,⟨[],[]⟩,.bin 0 .quo (.t 11) (.k (.int .i64 8))⟩,
    ⟨some 13,none,⟨[],[]⟩,.bin 0 .sub (.t 10) (.t 12)⟩,
    ⟨some 2,none,⟨[],[]⟩,.mov (.t 13)⟩] [10,11,12,13] [])))) (.reg false [⟨some 14,none,⟨[],[]⟩,.bin 0 .add (.t 4) (.k (.int .i64 1))⟩,
    ⟨some 4,none,⟨[],[]⟩,.mov (.t 14)⟩] [14] [])))
def r91_2:IR :=
  .seq (.reg false [⟨some 15,none,⟨[],[]⟩,.ld true (some 32) 0 0 (.t 1)⟩,
    ⟨none,none,⟨[],[]⟩,.sto true 32 .i64 (.t 0) (.t 15)⟩] [1,2,4,15] []) (.ret)
def ir91:IR :=
  .seq (.reg false [⟨some 0,none,⟨[],[]⟩,.allocI 10 .i64 32⟩] [] []) (.seq (.reg false [⟨some 1,none,⟨[],[]⟩,.allocI 11 .i64 32⟩] [] []) (.seq (.reg false [⟨some 2,none,⟨[],[]⟩,.mov (.k (.int .i64 2048))⟩] [] []) (.seq (.seq (.reg false [⟨some 4,none,⟨[],[]⟩,.mov (.k (.int .i64 0))⟩] [] []) (.block 0 (.loop b91_1))) (r91_2))))
def kp91_1:List Nat:=[0,1,2,4]
def kl91_1:List Nat:=[]
attribute [push_cast] kp91_1 kl91_1
set_option maxRecDepth 4000 in
theorem comp91:(Try.f91.body.bind fun c => compC tab isP chkAll ir91 c) = some ir91:=by kernel_rfl
def ir96:IR :=
  .seq (.reg false [⟨some 3,none,⟨[],[]⟩,.box 10 (.t 0)⟩,
    ⟨some 6,none,⟨[],[]⟩,.mov (.k (.int .i64 0))⟩] [0,6] []) (.seq (.seq (.reg false [⟨some 9,none,⟨[],[]⟩,.mov (.t 1)⟩,
    ⟨some 10,none,⟨[],[]⟩,.bin 0 .eql (.t 9) (.k (.int .i64 1))⟩] [1,9] []) (.cond (.t 10) (.seq (.reg false [⟨some 11,none,⟨[],[]⟩,.mov (.t 2)⟩,
    ⟨some 12,none,⟨[],[]⟩,.bin 0 .quo (.t 11) (.k (.int .i64 256))⟩,
    ⟨some 13,none,⟨[],[]⟩,.mov (.t 2)⟩,
    ⟨some 14,none,⟨[],[]⟩,.bin 0 .rem (.t 13) (.k (.int .i64 256))⟩,
    ⟨some 7,none,⟨[],[]⟩,.mov (.t 12)⟩,
    ⟨some 8,none,⟨[],[]⟩,.mov (.t 14)⟩] [2,3,10,11,12,13,14] []) (.seq (.reg false [⟨some 15,none,⟨[],[]⟩,.mov (.t 8)⟩,
    ⟨some 16,none,⟨[],[]⟩,.bin 0 .mul (.k (.int .i64 2)) (.t 15)⟩,
    ⟨some 17,none,⟨[],[]⟩,.bin 0 .add (.t 16) (.k (.int .i64 1))⟩,
    ⟨some 18,none,⟨[],[]⟩,.bin 0 .mul (.t 17) (.k (.int .i64 4096))⟩,
    ⟨some 19,none,⟨[],[]⟩,.mov (.t 7)⟩,
    ⟨some 20,none,⟨[],[]⟩,.bin 0 .mul (.k (.int .i64 2)) (.t 19)⟩,
    ⟨some 21,none,⟨[],[]⟩,.mov (.t 8)⟩,
    ⟨some 22,none,⟨[],[]⟩,.bin 0 .mul (.k (.int .i64 2)) (.t 21)⟩,
    ⟨some 23,none,⟨[],[]⟩,.bin 0 .add (.t 20) (.t 22)⟩,
    ⟨some 24,none,⟨[],[]⟩,.bin 0 .add (.t 23) (.k (.int .i64 2))⟩,
    ⟨some 25,none,⟨[],[]⟩,.bin 0 .quo (.t 18) (.t 24)⟩,
    ⟨some 26,none,⟨[],[]⟩,.mx (.t 25) (.k (.int .i64 1))⟩,
    ⟨some 27,none,⟨[],[]⟩,.mn (.t 26) (.k (.int .i64 4095))⟩,
    ⟨some 6,none,⟨[],[]⟩,.mov (.t 27)⟩] [7,8,15,16,17,18,19,20,21,22,23,24,25,26,27] []) (.ret))) (.skip))) (.seq (.seq (.reg false [⟨some 28,none,⟨[],[]⟩,.mov (.t 2)⟩,
    ⟨some 29,none,⟨[],[]⟩,.bin 0 .geq (.t 28) (.k (.int .i64 32))⟩] [6,10,28] []) (.cond (.t 29) (.seq (.reg false [⟨some 30,none,⟨[],[]⟩,.mov (.t 2)⟩,
    ⟨some 31,none,⟨[],[]⟩,.bin 0 .sub (.t 30) (.k (.int .i64 32))⟩,
    ⟨some 32,none,⟨[],[]⟩,.idxP (.t 3) (.t 31) 32 1⟩,
    ⟨some 33,none,⟨[],[]⟩,.ld false none 0 0 (.t 32)⟩,
    ⟨some 34,none,⟨[],[]⟩,.bin 0 .sub (.k (.int .i64 4096)) (.t 33)⟩,
    ⟨some 6,none,⟨[],[]⟩,.mov (.t 34)⟩] [2,3,29,30,31,32,33,34] []) (.ret)) (.skip))) (.seq (.reg false [⟨some 35,none,⟨[],[]⟩,.mov (.t 2)⟩,
    ⟨some 36,none,⟨[],[]⟩,.idxP (.t 3) (.t 35) 32 1⟩,
    ⟨some 37,none,⟨[],[]⟩,.ld false none 0 0 (.t 36)⟩,
    ⟨some 6,none,⟨[],[]⟩,.mov (.t 37)⟩] [2,3,29,35,36,37] []) (.ret))))
set_option maxRecDepth 4000 in
theorem comp96:(Try.f96.body.bind fun c => compC tab isP chkAll ir96 c) = some ir96:=by kernel_rfl
def qs:List Int:=[2048,1792,1568,1372,1201,1051,920,805,705,617,540,473,414,363,318,279,245,215,189,166,146,128,112,98,86,76,67,59,52,46,41,36]
def qsV:List SV:=[.int .i64 2048,.int .i64 1792,.int .i64 1568,.int .i64 1372,.int .i64 1201,.int .i64 1051,.int .i64 920,.int .i64 805,.int .i64 705,.int .i64 617,.int .i64 540,.int .i64 473,.int .i64 414,.int .i64 363,.int .i64 318,.int .i64 279,.int .i64 245,.int .i64 215,.int .i64 189,.int .i64 166,.int .i64 146,.int .i64 128,.int .i64 112,.int .i64 98,.int .i64 86,.int .i64 76,.int .i64 67,.int .i64 59,.int .i64 52,.int .i64 46,.int .i64 41,.int .i64 36]
theorem qs_len:qs.length = 32:=rfl
theorem qsV_len:qsV.length = 32:=rfl
theorem qsV_ints:intsV .i64 qs 32 = qsV:=rfl
theorem qsV_as:asInts .i64 qsV = some qs:=rfl
theorem qsV_map:qsV = qs.map (fun n => .int .i64 n):=rfl
theorem qsV_get (k:Nat) (h:k < 32):getL qsV k = some (.int .i64 (rd qs (k:Nat))):=by
  rw [getL_eq,qsV_map,List.getElem?_map,List.getElem?_eq_getElem (by rw [qs_len]; exact h),rd_lt qs k (by rw [qs_len]; exact h)]
  rfl
theorem qs_bd:∀ k,k < 32→0≤rd qs (k:Nat)∧rd qs (k:Nat)≤2048∧1≤rd qs (k:Nat):=by decide +kernel
def qst:Nat→List Int × Int
  | 0 => (intsZ 32,2048)
  | k + 1 => ((qst k).1.set k (qst k).2,(qst k).2 - (qst k).2 / 8)
theorem qst_len:∀ k,(qst k).1.length = 32
  | 0 => rfl
  | k + 1 => by rw [qst,List.length_set,qst_len k]
theorem qst_bd:∀ k,0≤(qst k).2∧(qst k).2≤2048
  | 0 => by decide
  | k + 1 => by have:=qst_bd k; rw [qst]; simp only; omega
theorem qst_end:(qst 32).1 = qs:=by decide +kernel
def chancesF:EntryP
  | [] => some (True,.agg qsV)
  | _ => none
attribute [push_cast] chancesF
set_option maxRecDepth 4000 in
theorem p91:EntryPOk Try.prog 91 chancesF:=by
  refine ⟨⟨_,Try.func91,by kernel_rfl,by kernel_rfl⟩,fun us p v h hp => ?_⟩
  unfold chancesF at h
  split at h <;> cases h
  refine tri_evS (hyp (l:=[]) (lp:=[]) trivial trivial) Try.func91 comp91 (rs:=[.cell 0 (some 32)]) (by rfl) Try.ntmps91 12 ?_
  simp -implicitDefEqProofs only [push_cast,zz,BEq.rfl,ite_true,ite_false,List.append_nil,reduceCtorEq,Nat.reduceAdd,Nat.reduceSub,Nat.reduceMul,Nat.reduceLeDiff,Nat.reduceLT,Nat.reduceEqDiff,Nat.reduceBEq,Nat.reduceBNe,Int.reduceNeg,Int.reduceToNat,ir91]
  intro X X1
  refine evS_loopU (A:=Nat) kp91_1 kl91_1 (fun k => [(4,.int .i64 k),(2,.int .i64 (qst k).2)]) (fun k => [(11,.mine,⟨(X1 0 11).b,(X1 0 11).o,false,32⟩,.ints .i64 (qst k).1)]) (fun k => k≤32) (fun k => 32 - k) 0 (Nat.zero_le _) (Sub.pt ?_) ?_
  · have e0:qst 0 = (intsZ 32,2048):=rfl
    simp -implicitDefEqProofs only [push_cast,zz,BEq.rfl,ite_true,ite_false,List.append_nil,reduceCtorEq,Nat.reduceAdd,Nat.reduceSub,Nat.reduceMul,Nat.reduceLeDiff,Nat.reduceLT,Nat.reduceEqDiff,Nat.reduceBEq,Nat.reduceBNe,Int.reduceNeg,Int.reduceToNat,e0]
  intro k hk K hK
  have hk:k≤32:=hk
  have hb:=qst_bd k
  have hl:=qst_len k
  by_cases hk':k < 32
  · have e1:qst (k + 1) = ((qst k).1.set k (qst k).2,(qst k).2 - (qst k).2 / 8):=rfl
    obtain ⟨⟨x,q⟩,hx⟩:∃ x,qst k = x:=⟨_,rfl⟩
    rw [hx] at e1 hb hl
    simp only at e1 hb hl
    have hki:(k:Int) < 32:=by omega
    simp -implicitDefEqProofs only [push_cast,zz,BEq.rfl,ite_true,ite_false,List.append_nil,reduceCtorEq,Nat.reduceAdd,Nat.reduceSub,Nat.reduceMul,Nat.reduceLeDiff,Nat.reduceLT,Nat.reduceEqDiff,Nat.reduceBEq,Nat.reduceBNe,Int.reduceNeg,Int.reduceToNat,b91_1,hx,hl,Int.toNat_natCast,hki]
    repeat (refine And.intro (by first | omega | trivial | (intros; omega)) ?_)
    refine hK (k + 1) (show k + 1≤32 by omega) (show 32 - (k + 1) < 32 - k by omega) _ _ (Sub.pt ?_)
    simp -implicitDefEqProofs only [push_cast,zz,BEq.rfl,ite_true,ite_false,List.append_nil,reduceCtorEq,Nat.reduceAdd,Nat.reduceSub,Nat.reduceMul,Nat.reduceLeDiff,Nat.reduceLT,Nat.reduceEqDiff,Nat.reduceBEq,Nat.reduceBNe,Int.reduceNeg,Int.reduceToNat,e1]
  · have hk2:k = 32:=by omega
    have hq:(qst k).1 = qs:=by rw [hk2,qst_end]
    have hki:¬ (k:Int) < 32:=by omega
    clear hK
    simp -implicitDefEqProofs only [push_cast,zz,BEq.rfl,ite_true,ite_false,List.append_nil,reduceCtorEq,Nat.reduceAdd,Nat.reduceSub,Nat.reduceMul,Nat.reduceLeDiff,Nat.reduceLT,Nat.reduceEqDiff,Nat.reduceBEq,Nat.reduceBNe,Int.reduceNeg,Int.reduceToNat,b91_1,hq,hki,qsV_ints,qsV_as,qs_len,r91_2]
    rfl
def chP (kind s:Int):Int :=
  if kind = 1 then min (max ((2 * (s % 256) + 1) * 4096 / (2 * (s / 256) + 2 * (s % 256) + 2)) 1) 4095
  else if 32≤s then 4096 - rd qs (s - 32) else rd qs s
def nxP (kind s bit:Int):Int :=
  if kind = 1 then
    (if bit = 0 then (if s / 256 = 255 then 256 * (s / 256 / 2 + 1) + s % 256 / 2 else 256 * (s / 256 + 1) + s % 256)
     else (if s % 256 = 255 then 256 * (s / 256 / 2) + (s % 256 / 2 + 1) else 256 * (s / 256) + (s % 256 + 1)))
  else if bit = s / 32 then 32 * (s / 32) + min (s % 32 + 1) 31
  else if s % 32 = 0 then 32 * bit + s % 32
  else 32 * (s / 32) + (s % 32 - (1 + s % 32 / 4))
def sttOk (kind s:Int):Prop:=0≤s∧(kind = 1→s < 65536)∧(kind ≠ 1→s < 64)
theorem chP_bd {kind s:Int} (h:sttOk kind s):1≤chP kind s∧chP kind s≤4095:=by
  obtain ⟨h0,h1,h2⟩:=h
  unfold chP
  split
  · omega
  rename_i hk
  have h2:=h2 hk
  split
  · obtain ⟨k,hk⟩:∃ k:Nat,s - 32 = k:=⟨(s - 32).toNat,by omega⟩
    rw [hk]
    have:=qs_bd k (by omega)
    omega
  · obtain ⟨k,rfl⟩:∃ k:Nat,s = k:=⟨s.toNat,by omega⟩
    have:=qs_bd k (by omega)
    omega
theorem nxP_ok {kind s bit:Int} (h:sttOk kind s) (hb:bit = 0∨bit = 1):sttOk kind (nxP kind s bit):=by
  obtain ⟨h0,h1,h2⟩:=h
  unfold nxP sttOk
  by_cases hk:kind = 1
  · have h1:=h1 hk
    simp only [hk,if_true]
    refine ⟨?_,fun _ => ?_,fun h => absurd rfl h⟩ <;> (repeat' split) <;> omega
  · have h2:=h2 hk
    simp only [hk,if_false]
    refine ⟨?_,fun h => h.elim,fun h => ?_⟩ <;> (repeat' split) <;> omega
def chanceF:EntryP
  | [.agg cs,.int .i64 kind,.int .i64 s] => some (cs = qsV∧sttOk kind s,.int .i64 (chP kind s))
  | _ => none
def nextF:EntryP
  | [.int .i64 kind,.int .i64 s,.int .i64 bit] => some (sttOk kind s∧(bit = 0∨bit = 1),.int .i64 (nxP kind s bit))
  | _ => none
attribute [push_cast] chanceF nextF
theorem p96:EntryPOk Try.prog 96 chanceF:=by
  refine ⟨⟨_,Try.func96,by kernel_rfl,by kernel_rfl⟩,fun us p v h hp => ?_⟩
  unfold chanceF at h
  split at h <;> cases h
  rename_i cs kind s
  obtain ⟨rfl,h0,h1,h2⟩:=hp
  refine tri_evS (hyp (l:=[]) (lp:=[]) trivial trivial) Try.func96 comp96 (rs:=[.tmp 6]) (by rfl) Try.ntmps96 11 ?_
  by_cases hk:kind = 1
  · subst hk
    have h1:=h1 rfl
    have e:chP 1 s = min (max ((2 * (s % 256) + 1) * 4096 / (2 * (s / 256) + 2 * (s % 256) + 2)) 1) 4095:=by unfold chP; rw [if_pos rfl]
    have hd1:0≤(2 * (s % 256) + 1) * 4096 / (2 * (s / 256) + 2 * (s % 256) + 2):=Int.ediv_nonneg (by omega) (by omega)
    have hd2:(2 * (s % 256) + 1) * 4096 / (2 * (s / 256) + 2 * (s % 256) + 2)≤(2 * (s % 256) + 1) * 4096:=Int.ediv_le_self _ (by omega)
    simp -implicitDefEqProofs only [push_cast,zz,BEq.rfl,ite_true,ite_false,List.append_nil,reduceCtorEq,Nat.reduceAdd,Nat.reduceSub,Nat.reduceMul,Nat.reduceLeDiff,Nat.reduceLT,Nat.reduceEqDiff,Nat.reduceBEq,Nat.reduceBNe,Int.reduceNeg,Int.reduceToNat,ir96,e]
    refine ⟨by omega,by omega,by omega,by omega,by omega,by omega,by omega,by omega,by omega,by omega,by omega,by omega,by omega,by omega,by omega,by omega,by omega,by omega,?_⟩
    omega
  have h2:=h2 hk
  by_cases h32:32≤s
  · have e:chP kind s = 4096 - rd qs (s - 32):=by unfold chP; rw [if_neg hk,if_pos h32]
    have hg:getL qsV (s - 32).toNat = some (.int .i64 (rd qs (s - 32))):=by
      obtain ⟨k,hk⟩:∃ k:Nat,s - 32 = k:=⟨(s - 32).toNat,by omega⟩
      rw [hk,Int.toNat_natCast]
      exact qsV_get k (by omega)
    have hb:0≤rd qs (s - 32)∧rd qs (s - 32)≤2048:=by
      obtain ⟨k,hk⟩:∃ k:Nat,s - 32 = k:=⟨(s - 32).toNat,by omega⟩
      rw [hk]
      have:=qs_bd k (by omega)
      omega
    simp -implicitDefEqProofs only [push_cast,zz,BEq.rfl,ite_true,ite_false,List.append_nil,reduceCtorEq,Nat.reduceAdd,Nat.reduceSub,Nat.reduceMul,Nat.reduceLeDiff,Nat.reduceLT,Nat.reduceEqDiff,Nat.reduceBEq,Nat.reduceBNe,Int.reduceNeg,Int.reduceToNat,ir96,e,hk,h32,hg,Nat.mul_one]
    omega
  · have e:chP kind s = rd qs s:=by unfold chP; rw [if_neg hk,if_neg h32]
    have hg:getL qsV s.toNat = some (.int .i64 (rd qs s)):=by
      obtain ⟨k,rfl⟩:∃ k:Nat,s = k:=⟨s.toNat,by omega⟩
      rw [Int.toNat_natCast]
      exact qsV_get k (by omega)
    simp -implicitDefEqProofs only [push_cast,zz,BEq.rfl,ite_true,ite_false,List.append_nil,reduceCtorEq,Nat.reduceAdd,Nat.reduceSub,Nat.reduceMul,Nat.reduceLeDiff,Nat.reduceLT,Nat.reduceEqDiff,Nat.reduceBEq,Nat.reduceBNe,Int.reduceNeg,Int.reduceToNat,ir96,e,hk,h32,hg,Nat.mul_one]
    omega
def ir97:IR :=
  .seq (.reg false [⟨some 6,none,⟨[],[]⟩,.mov (.k (.int .i64 0))⟩] [6] []) (.seq (.seq (.reg false [⟨some 10,none,⟨[],[]⟩,.mov (.t 0)⟩,
    ⟨some 11,none,⟨[],[]⟩,.bin 0 .eql (.t 10) (.k (.int .i64 1))⟩] [0,10] []) (.cond (.t 11) (.seq (.reg false [⟨some 12,none,⟨[],[]⟩,.mov (.t 1)⟩,
    ⟨some 13,none,⟨[],[]⟩,.bin 0 .quo (.t 12) (.k (.int .i64 256))⟩,
    ⟨some 14,none,⟨[],[]⟩,.mov (.t 1)⟩,
    ⟨some 15,none,⟨[],[]⟩,.bin 0 .rem (.t 14) (.k (.int .i64 256))⟩,
    ⟨some 16,none,⟨[],[]⟩,.build [.int .i64 0,.int .i64 0] [(0,1,.t 13),(1,1,.t 15)]⟩,
    ⟨some 7,none,⟨[],[]⟩,.allocI 10 .i64 2⟩,
    ⟨none,none,⟨[],[]⟩,.sto true 2 .i64 (.t 7) (.t 16)⟩] [1,11,12,13,14,15,16] []) (.seq (.seq (.reg false [⟨some 17,none,⟨[],[]⟩,.mov (.t 2)⟩,
    ⟨some 18,none,⟨[],[]⟩,.idxP (.t 7) (.t 17) 2 1⟩,
    ⟨some 19,none,⟨[],[]⟩,.ld true none 0 0 (.t 18)⟩,
    ⟨some 20,none,⟨[],[]⟩,.bin 0 .eql (.t 19) (.k (.int .i64 255))⟩] [17,18,19] []) (.cond (.t 20) (.reg false [⟨some 21,none,⟨[],[]⟩,.idxP (.t 7) (.k (.int .i64 0)) 2 1⟩,
    ⟨some 22,none,⟨[],[]⟩,.ld true none 0 0 (.t 21)⟩,
    ⟨some 23,none,⟨[],[]⟩,.bin 0 .quo (.t 22) (.k (.int .i64 2))⟩,
    ⟨some 24,none,⟨[],[]⟩,.idxP (.t 7) (.k (.int .i64 1)) 2 1⟩,
    ⟨some 25,none,⟨[],[]⟩,.ld true none 0 0 (.t 24)⟩,
    ⟨some 26,none,⟨[],[]⟩,.bin 0 .quo (.t 25) (.k (.int .i64 2))⟩,
    ⟨some 27,none,⟨[],[]⟩,.idxP (.t 7) (.k (.int .i64 0)) 2 1⟩,
    ⟨none,none,⟨[],[]⟩,.sto true 1 .i64 (.t 27) (.t 23)⟩,
    ⟨some 28,none,⟨[],[]⟩,.idxP (.t 7) (.k (.int .i64 1)) 2 1⟩,
    ⟨none,none,⟨[],[]⟩,.sto true 1 .i64 (.t 28) (.t 26)⟩] [20,21,22,23,24,25,26,27,28] []) (.skip))) (.seq (.reg false [⟨some 29,none,⟨[],[]⟩,.mov (.t 2)⟩,
    ⟨some 30,none,⟨[],[]⟩,.idxP (.t 7) (.t 29) 2 1⟩,
    ⟨some 31,none,⟨[],[]⟩,.ld true none 0 0 (.t 30)⟩,
    ⟨some 32,none,⟨[],[]⟩,.bin 0 .add (.t 31) (.k (.int .i64 1))⟩,
    ⟨some 33,none,⟨[],[]⟩,.idxP (.t 7) (.t 29) 2 1⟩,
    ⟨none,none,⟨[],[]⟩,.sto true 1 .i64 (.t 33) (.t 32)⟩] [2,20,29,30,31,32,33] []) (.seq (.reg false [⟨some 34,none,⟨[],[]⟩,.idxP (.t 7) (.k (.int .i64 0)) 2 1⟩,
    ⟨some 35,none,⟨[],[]⟩,.ld true none 0 0 (.t 34)⟩,
    ⟨some 36,none,⟨[],[]⟩,.bin 0 .mul (.k (.int .i64 256)) (.t 35)⟩,
    ⟨some 37,none,⟨[],[]⟩,.idxP (.t 7) (.k (.int .i64 1)) 2 1⟩,
    ⟨some 38,none,⟨[],[]⟩,.ld true none 0 0 (.t 37)⟩,
    ⟨some 39,none,⟨[],[]⟩,.bin 0 .add (.t 36) (.t 38)⟩,
    ⟨some 6,none,⟨[],[]⟩,.mov (.t 39)⟩] [7,34,35,36,37,38,39] []) (.ret))))) (.skip))) (.seq (.reg false [⟨some 40,none,⟨[],[]⟩,.mov (.t 1)⟩,
    ⟨some 41,none,⟨[],[]⟩,.bin 0 .quo (.t 40) (.k (.int .i64 32))⟩,
    ⟨some 42,none,⟨[],[]⟩,.mov (.t 1)⟩,
    ⟨some 43,none,⟨[],[]⟩,.bin 0 .rem (.t 42) (.k (.int .i64 32))⟩,
    ⟨some 8,none,⟨[],[]⟩,.mov (.t 41)⟩,
    ⟨some 9,none,⟨[],[]⟩,.mov (.t 43)⟩] [1,6,11,40,41,42,43] []) (.seq (.block 0 (.seq (.reg false [⟨some 50,none,⟨[],[]⟩,.mov (.t 2)⟩,
    ⟨some 51,none,⟨[],[]⟩,.mov (.t 8)⟩,
    ⟨some 52,none,⟨[],[]⟩,.bin 0 .eql (.t 50) (.t 51)⟩,
    ⟨some 49,none,⟨[],[]⟩,.mov (.t 52)⟩] [50,51,52] []) (.cond (.t 49) (.reg false [⟨some 53,none,⟨[],[]⟩,.mov (.t 9)⟩,
    ⟨some 54,none,⟨[],[]⟩,.bin 0 .add (.t 53) (.k (.int .i64 1))⟩,
    ⟨some 55,none,⟨[],[]⟩,.mn (.t 54) (.k (.int .i64 31))⟩,
    ⟨some 9,none,⟨[],[]⟩,.mov (.t 55)⟩] [2,49,53,54,55] []) (.seq (.reg false [⟨some 57,none,⟨[],[]⟩,.mov (.t 9)⟩,
    ⟨some 58,none,⟨[],[]⟩,.bin 0 .eql (.t 57) (.k (.int .i64 0))⟩,
    ⟨some 56,none,⟨[],[]⟩,.mov (.t 58)⟩] [49,57,58] []) (.cond (.t 56) (.reg false [⟨some 59,none,⟨[],[]⟩,.mov (.t 2)⟩,
    ⟨some 8,none,⟨[],[]⟩,.mov (.t 59)⟩] [2,56,59] []) (.reg false [⟨some 44,none,⟨[],[]⟩,.mov (.t 9)⟩,
    ⟨some 45,none,⟨[],[]⟩,.mov (.t 9)⟩,
    ⟨some 46,none,⟨[],[]⟩,.bin 0 .quo (.t 45) (.k (.int .i64 4))⟩,
    ⟨some 47,none,⟨[],[]⟩,.bin 0 .add (.k (.int .i64 1)) (.t 46)⟩,
    ⟨some 48,none,⟨[],[]⟩,.bin 0 .sub (.t 44) (.t 47)⟩,
    ⟨some 9,none,⟨[],[]⟩,.mov (.t 48)⟩] [2,44,45,46,47,48,56] [])))))) (.seq (.reg false [⟨some 60,none,⟨[],[]⟩,.mov (.t 8)⟩,
    ⟨some 61,none,⟨[],[]⟩,.bin 0 .mul (.k (.int .i64 32)) (.t 60)⟩,
    ⟨some 62,none,⟨[],[]⟩,.mov (.t 9)⟩,
    ⟨some 63,none,⟨[],[]⟩,.bin 0 .add (.t 61) (.t 62)⟩,
    ⟨some 6,none,⟨[],[]⟩,.mov (.t 63)⟩] [8,9,60,61,62,63] []) (.ret)))))
set_option maxRecDepth 4000 in
theorem comp97:(Try.f97.body.bind fun c => compC tab isP chkAll ir97 c) = some ir97:=by kernel_rfl
def ir105:IR :=
  .seq (.reg false [⟨some 2,none,⟨[],[]⟩,.mov (.k (.int .i64 0))⟩] [] []) (.seq (.seq (.reg false [⟨some 3,none,⟨[],[]⟩,.mov (.t 0)⟩,
    ⟨some 4,none,⟨[],[]⟩,.bin 0 .geq (.t 3) (.k (.int .u64 4294967296))⟩] [3] []) (.cond (.t 4) (.seq (.reg false [⟨some 5,none,⟨[],[]⟩,.mov (.t 0)⟩,
    ⟨some 6,none,⟨[],[]⟩,.bin 0 .shr (.t 5) (.k (.int .u64 32))⟩,
    ⟨some 0,none,⟨[],[]⟩,.mov (.t 6)⟩] [2,4,5,6] []) (.reg false [⟨some 2,none,⟨[],[]⟩,.mov (.k (.int .i64 32))⟩] [] [])) (.skip))) (.seq (.seq (.reg false [⟨some 7,none,⟨[],[]⟩,.mov (.t 0)⟩,
    ⟨some 8,none,⟨[],[]⟩,.bin 0 .geq (.t 7) (.k (.int .u64 65536))⟩] [4,7] []) (.cond (.t 8) (.seq (.reg false [⟨some 9,none,⟨[],[]⟩,.mov (.t 0)⟩,
    ⟨some 10,none,⟨[],[]⟩,.bin 0 .shr (.t 9) (.k (.int .u64 16))⟩,
    ⟨some 0,none,⟨[],[]⟩,.mov (.t 10)⟩] [8,9,10] []) (.reg false [⟨some 11,none,⟨[],[]⟩,.mov (.t 2)⟩,
    ⟨some 12,none,⟨[],[]⟩,.bin 0 .add (.t 11) (.k (.int .i64 16))⟩,
    ⟨some 2,none,⟨[],[]⟩,.mov (.t 12)⟩] [11,12] [])) (.skip))) (.seq (.seq (.reg false [⟨some 13,none,⟨[],[]⟩,.mov (.t 0)⟩,
    ⟨some 14,none,⟨[],[]⟩,.bin 0 .geq (.t 13) (.k (.int .u64 256))⟩] [8,13] []) (.cond (.t 14) (.seq (.reg false [⟨some 15,none,⟨[],[]⟩,.mov (.t 0)⟩,
    ⟨some 16,none,⟨[],[]⟩,.bin 0 .shr (.t 15) (.k (.int .u64 8))⟩,
    ⟨some 0,none,⟨[],[]⟩,.mov (.t 16)⟩] [14,15,16] []) (.reg false [⟨some 17,none,⟨[],[]⟩,.mov (.t 2)⟩,
    ⟨some 18,none,⟨[],[]⟩,.bin 0 .add (.t 17) (.k (.int .i64 8))⟩,
    ⟨some 2,none,⟨[],[]⟩,.mov (.t 18)⟩] [17,18] [])) (.skip))) (.seq (.reg false [⟨some 19,none,⟨[],[]⟩,.mov (.t 2)⟩,
    ⟨some 20,none,⟨[],[]⟩,.mov (.t 0)⟩,
    ⟨some 21,none,⟨[],[]⟩,.cvt 0 .u8 (.t 20)⟩,
    ⟨some 22,none,⟨[],[]⟩,.tabI len8L (.t 21)⟩,
    ⟨some 23,none,⟨[],[]⟩,.cvt 0 .i64 (.t 22)⟩,
    ⟨some 24,none,⟨[],[]⟩,.bin 0 .add (.t 19) (.t 23)⟩,
    ⟨some 2,none,⟨[],[]⟩,.mov (.t 24)⟩] [0,14,19,20,21,22,23,24] []) (.ret)))))
set_option maxRecDepth 4000 in
theorem comp105:(Try.f105.body.bind fun c => compC tab isP chkAll ir105 c) = some ir105:=by kernel_rfl
def ir80:IR :=
  .seq (.reg false [⟨some 2,none,⟨[],[]⟩,.mov (.k (.int .i64 0))⟩] [2] []) (.seq (.cond (.k (.bool false)) (.seq (.reg false [⟨some 3,none,⟨[],[]⟩,.mov (.t 0)⟩,
    ⟨some 4,none,⟨[],[]⟩,.cvt 0 .u32 (.t 3)⟩,
    ⟨some 5,none,⟨[],[]⟩,.call (some 4) 10 104 [.t 4]⟩,
    ⟨some 2,none,⟨[],[]⟩,.mov (.t 5)⟩] [0,3,4,5] []) (.ret)) (.skip)) (.seq (.reg false [⟨some 6,none,⟨[],[]⟩,.mov (.t 0)⟩,
    ⟨some 7,none,⟨[],[]⟩,.callp 105 [.t 6]⟩,
    ⟨some 2,none,⟨[],[]⟩,.mov (.t 7)⟩] [0,6,7] []) (.ret)))
set_option maxRecDepth 4000 in
theorem comp80:(Try.f80.body.bind fun c => compC tab isP chkAll ir80 c) = some ir80:=by kernel_rfl
def ir51:IR :=
  .seq (.reg false [⟨some 2,none,⟨[],[]⟩,.mov (.k (.int .i64 0))⟩] [2] []) (.seq (.reg false [⟨some 3,none,⟨[],[]⟩,.mov (.t 0)⟩,
    ⟨some 4,none,⟨[],[]⟩,.mov (.t 0)⟩,
    ⟨some 5,none,⟨[],[]⟩,.neg 0 (.t 4)⟩,
    ⟨some 6,none,⟨[],[]⟩,.mx (.t 3) (.t 5)⟩,
    ⟨some 2,none,⟨[],[]⟩,.mov (.t 6)⟩] [0,3,4,5,6] []) (.ret))
set_option maxRecDepth 4000 in
theorem comp51:(Try.f51.body.bind fun c => compC tab isP chkAll ir51 c) = some ir51:=by kernel_rfl
def ir24:IR :=
  .seq (.reg false [⟨some 4,none,⟨[],[]⟩,.mov (.k (.bool false))⟩] [4] []) (.seq (.reg false [⟨some 5,none,⟨[],[]⟩,.mov (.t 0)⟩,
    ⟨some 6,none,⟨[],[]⟩,.bin 0 .geq (.t 5) (.k (.int .i64 0))⟩,
    ⟨some 7,none,⟨[],[]⟩,.mov (.t 6)⟩,
    ⟨some 8,some (7,true),⟨[],[]⟩,.mov (.t 0)⟩,
    ⟨some 9,some (7,true),⟨[],[]⟩,.bin 0 .leq (.t 8) (.k (.int .i64 6))⟩,
    ⟨some 10,none,⟨[],[]⟩,.pick (.t 7) (.t 9) (.k (.bool false))⟩,
    ⟨some 11,none,⟨[],[]⟩,.mov (.t 10)⟩,
    ⟨some 12,some (11,true),⟨[],[]⟩,.mov (.t 1)⟩,
    ⟨some 13,some (11,true),⟨[],[]⟩,.bin 0 .eql (.t 12) (.k (.int .i64 0))⟩,
    ⟨some 14,some (11,true),⟨[],[]⟩,.mov (.t 13)⟩,
    ⟨some 15,some (14,false),⟨[],[]⟩,.mov (.t 1)⟩,
    ⟨some 16,some (14,false),⟨[],[]⟩,.bin 0 .eql (.t 15) (.k (.int .i64 1))⟩,
    ⟨some 17,some (11,true),⟨[],[]⟩,.pick (.t 14) (.k (.bool true)) (.t 16)⟩,
    ⟨some 18,none,⟨[],[]⟩,.pick (.t 11) (.t 17) (.k (.bool false))⟩,
    ⟨some 4,none,⟨[],[]⟩,.mov (.t 18)⟩] [0,1,5,6,7,8,9,10,11,12,13,14,15,16,17,18] []) (.ret))
set_option maxRecDepth 4000 in
theorem comp24:(Try.f24.body.bind fun c => compC tab isP chkAll ir24 c) = some ir24:=by kernel_rfl
theorem rd2_0 (a b:Int):rd [a,b] 0 = a:=rfl
theorem rd2_1 (a b:Int):rd [a,b] 1 = b:=rfl
theorem set2_0 (a b c:Int):[a,b].set 0 c = [c,b]:=rfl
theorem set2_1 (a b c:Int):[a,b].set 1 c = [a,c]:=rfl
theorem i0:Int.toNat 0 = 0:=rfl
theorem i1:Int.toNat 1 = 1:=rfl
set_option maxRecDepth 4000 in
theorem p97:EntryPOk Try.prog 97 nextF:=by
  refine ⟨⟨_,Try.func97,by kernel_rfl,by kernel_rfl⟩,fun us p v h hp => ?_⟩
  unfold nextF at h
  split at h <;> cases h
  rename_i kind s bit
  obtain ⟨⟨h0,h1,h2⟩,hb⟩:=hp
  refine tri_evS (hyp (l:=[]) (lp:=[]) trivial trivial) Try.func97 comp97 (rs:=[.tmp 6]) (by rfl) Try.ntmps97 11 ?_
  by_cases hk:kind = 1
  · subst hk
    have h1:=h1 rfl
    rcases hb with rfl | rfl
    · have e:nxP 1 s 0 = if s / 256 = 255 then 256 * (s / 256 / 2 + 1) + s % 256 / 2 else 256 * (s / 256 + 1) + s % 256:=by unfold nxP; rw [if_pos rfl,if_pos rfl]
      by_cases hn:s / 256 = 255
      · rw [if_pos hn] at e
        simp -implicitDefEqProofs only [push_cast,zz,BEq.rfl,ite_true,ite_false,List.append_nil,reduceCtorEq,Nat.reduceAdd,Nat.reduceSub,Nat.reduceMul,Nat.reduceLeDiff,Nat.reduceLT,Nat.reduceEqDiff,Nat.reduceBEq,Nat.reduceBNe,Int.reduceNeg,Int.reduceToNat,ir97,e,rd2_0,rd2_1,set2_0,set2_1,i0,i1,hn]
        omega
      · rw [if_neg hn] at e
        simp -implicitDefEqProofs only [push_cast,zz,BEq.rfl,ite_true,ite_false,List.append_nil,reduceCtorEq,Nat.reduceAdd,Nat.reduceSub,Nat.reduceMul,Nat.reduceLeDiff,Nat.reduceLT,Nat.reduceEqDiff,Nat.reduceBEq,Nat.reduceBNe,Int.reduceNeg,Int.reduceToNat,ir97,e,rd2_0,rd2_1,set2_0,set2_1,i0,i1,hn]
        omega
    · have e:nxP 1 s 1 = if s % 256 = 255 then 256 * (s / 256 / 2) + (s % 256 / 2 + 1) else 256 * (s / 256) + (s % 256 + 1):=by unfold nxP; rw [if_pos rfl,if_neg (by decide)]
      by_cases hn:s % 256 = 255
      · rw [if_pos hn] at e
        simp -implicitDefEqProofs only [push_cast,zz,BEq.rfl,ite_true,ite_false,List.append_nil,reduceCtorEq,Nat.reduceAdd,Nat.reduceSub,Nat.reduceMul,Nat.reduceLeDiff,Nat.reduceLT,Nat.reduceEqDiff,Nat.reduceBEq,Nat.reduceBNe,Int.reduceNeg,Int.reduceToNat,ir97,e,rd2_0,rd2_1,set2_0,set2_1,i0,i1,hn]
        omega
      · rw [if_neg hn] at e
        simp -implicitDefEqProofs only [push_cast,zz,BEq.rfl,ite_true,ite_false,List.append_nil,reduceCtorEq,Nat.reduceAdd,Nat.reduceSub,Nat.reduceMul,Nat.reduceLeDiff,Nat.reduceLT,Nat.reduceEqDiff,Nat.reduceBEq,Nat.reduceBNe,Int.reduceNeg,Int.reduceToNat,ir97,e,rd2_0,rd2_1,set2_0,set2_1,i0,i1,hn]
        omega
  have h2:=h2 hk
  have e:nxP kind s bit = if bit = s / 32 then 32 * (s / 32) + min (s % 32 + 1) 31 else if s % 32 = 0 then 32 * bit + s % 32 else 32 * (s / 32) + (s % 32 - (1 + s % 32 / 4)):=by unfold nxP; rw [if_neg hk]
  by_cases hm:bit = s / 32
  · rw [if_pos hm] at e
    subst hm
    simp -implicitDefEqProofs only [push_cast,zz,BEq.rfl,ite_true,ite_false,List.append_nil,reduceCtorEq,Nat.reduceAdd,Nat.reduceSub,Nat.reduceMul,Nat.reduceLeDiff,Nat.reduceLT,Nat.reduceEqDiff,Nat.reduceBEq,Nat.reduceBNe,Int.reduceNeg,Int.reduceToNat,ir97,e,hk]
    omega
  rw [if_neg hm] at e
  by_cases hz:s % 32 = 0
  · rw [if_pos hz] at e
    simp -implicitDefEqProofs only [push_cast,zz,BEq.rfl,ite_true,ite_false,List.append_nil,reduceCtorEq,Nat.reduceAdd,Nat.reduceSub,Nat.reduceMul,Nat.reduceLeDiff,Nat.reduceLT,Nat.reduceEqDiff,Nat.reduceBEq,Nat.reduceBNe,Int.reduceNeg,Int.reduceToNat,ir97,e,hk,hm,hz]
    omega
  · rw [if_neg hz] at e
    simp -implicitDefEqProofs only [push_cast,zz,BEq.rfl,ite_true,ite_false,List.append_nil,reduceCtorEq,Nat.reduceAdd,Nat.reduceSub,Nat.reduceMul,Nat.reduceLeDiff,Nat.reduceLT,Nat.reduceEqDiff,Nat.reduceBEq,Nat.reduceBNe,Int.reduceNeg,Int.reduceToNat,ir97,e,hk,hm,hz]
    omega
def lenN (n:Nat):Nat:=if n = 0 then 0 else Nat.log2 n + 1
theorem lenN_half {n:Nat} (h:1≤n):lenN n = lenN (n / 2) + 1:=by
  unfold lenN
  rw [if_neg (by omega)]
  by_cases h2:2≤n
  · rw [if_neg (by omega),Nat.log2_def n,if_pos h2]
  · have:n = 1:=by omega
    subst this
    rfl
theorem lenN_256 {n:Nat} (h:256≤n):lenN n = lenN (n / 256) + 8:=by
  rw [lenN_half (by omega),lenN_half (n:=n / 2) (by omega),lenN_half (n:=n / 2 / 2) (by omega),lenN_half (n:=n / 2 / 2 / 2) (by omega),lenN_half (n:=n / 2 / 2 / 2 / 2) (by omega),lenN_half (n:=n / 2 / 2 / 2 / 2 / 2) (by omega),
    lenN_half (n:=n / 2 / 2 / 2 / 2 / 2 / 2) (by omega),lenN_half (n:=n / 2 / 2 / 2 / 2 / 2 / 2 / 2) (by omega)]
  simp only [Nat.div_div_eq_div_mul]
theorem lenN_bd:∀ n:Nat,n < 2 ^ lenN n∧(1≤n→2 ^ (lenN n - 1)≤n):=by
  intro n
  induction n using Nat.strongRecOn with
  | ind n ih =>
    by_cases h:1≤n
    · rw [lenN_half h]
      obtain ⟨a,b⟩:=ih (n / 2) (by omega)
      rw [Nat.add_sub_cancel,Nat.pow_succ]
      refine ⟨by omega,fun _ => ?_⟩
      by_cases h2:1≤n / 2
      · have b:=b h2
        have hp:lenN (n / 2) = lenN (n / 2) - 1 + 1:=by rw [lenN_half h2]; omega
        rw [hp,Nat.pow_succ]; omega
      · have:n / 2 = 0:=by omega
        rw [this]; exact h
    · have:n = 0:=by omega
      subst this
      exact ⟨by decide,fun h => absurd h (by decide)⟩
set_option maxRecDepth 4000 in
theorem len8_eq:∀ k,k < 256→rd len8L (k:Nat) = lenN k:=by decide +kernel
set_option maxRecDepth 4000 in
theorem len8_len:((len8L.length:Nat):Int) = 256:=by decide +kernel
def lenP (x:Int):Int:=lenN x.toNat
theorem lenP_8 {x:Int} (h0:0≤x) (h:x < 256):rd len8L x = lenP x:=by
  obtain ⟨k,rfl⟩:∃ k:Nat,x = k:=⟨x.toNat,by omega⟩
  unfold lenP
  rw [Int.toNat_natCast]
  exact len8_eq k (by omega)
theorem lenP_256 {x:Int} (h:256≤x):lenP x = lenP (x / 256) + 8:=by
  obtain ⟨k,rfl⟩:∃ k:Nat,x = k:=⟨x.toNat,by omega⟩
  unfold lenP
  rw [show ((k:Int) / 256).toNat = k / 256 by omega,Int.toNat_natCast,lenN_256 (by omega)]
  rfl
theorem lenP_bd {x:Int} (h0:0≤x) (h:x < 256):0≤lenP x∧lenP x≤8:=by
  have:∀ k,k < 256→lenN k≤8:=by decide +kernel
  have:=this x.toNat (by omega)
  unfold lenP
  omega
def lenF:EntryP
  | [.int .u64 x] => some (0≤x∧x < 4294967296,.int .i64 (lenP x))
  | _ => none
attribute [push_cast] lenF
theorem pw8:(2:Int) ^ 8 = 256:=rfl
theorem pw16:(2:Int) ^ 16 = 65536:=rfl
theorem pw24:(2:Int) ^ 24 = 16777216:=rfl
theorem bits64:((IntKind.u64.bits:Nat):Int) = 64:=rfl
theorem p105:EntryPOk Try.prog 105 lenF:=by
  refine ⟨⟨_,Try.func105,by kernel_rfl,by kernel_rfl⟩,fun us p v h hp => ?_⟩
  unfold lenF at h
  split at h <;> cases h
  rename_i x
  obtain ⟨h0,h1⟩:=hp
  refine tri_evS (hyp (l:=[]) (lp:=[]) trivial trivial) Try.func105 comp105 (rs:=[.tmp 2]) (by rfl) Try.ntmps105 10 ?_
  have hlt:¬ 4294967296≤x:=by omega
  have hl:=len8_len
  have hb64:=bits64
  by_cases h16:65536≤x
  · have e1:lenP x = lenP (x / 65536) + 16:=by
      rw [lenP_256 (by omega),lenP_256 (x:=x / 256) (by omega),show x / 256 / 256 = x / 65536 by omega]
      omega
    by_cases h8:256≤x / 65536
    · have e2:=lenP_256 h8
      have e3:=lenP_8 (x:=x / 65536 / 256) (by omega) (by omega)
      have b:=lenP_bd (x:=x / 65536 / 256) (by omega) (by omega)
      rw [e2] at e1
      simp -implicitDefEqProofs only [push_cast,zz,BEq.rfl,ite_true,ite_false,List.append_nil,reduceCtorEq,Nat.reduceAdd,Nat.reduceSub,Nat.reduceMul,Nat.reduceLeDiff,Nat.reduceLT,Nat.reduceEqDiff,Nat.reduceBEq,Nat.reduceBNe,Int.reduceNeg,Int.reduceToNat,ir105,hlt,h16,h8,pw16,pw8,hl,e3]
      simp only [SV.int.injEq,true_and]
      omega
    · have e3:=lenP_8 (x:=x / 65536) (by omega) (by omega)
      have b:=lenP_bd (x:=x / 65536) (by omega) (by omega)
      simp -implicitDefEqProofs only [push_cast,zz,BEq.rfl,ite_true,ite_false,List.append_nil,reduceCtorEq,Nat.reduceAdd,Nat.reduceSub,Nat.reduceMul,Nat.reduceLeDiff,Nat.reduceLT,Nat.reduceEqDiff,Nat.reduceBEq,Nat.reduceBNe,Int.reduceNeg,Int.reduceToNat,ir105,hlt,h16,h8,pw16,pw8,hl,e3]
      simp only [SV.int.injEq,true_and]
      omega
  · by_cases h8:256≤x
    · have e2:=lenP_256 h8
      have e3:=lenP_8 (x:=x / 256) (by omega) (by omega)
      have b:=lenP_bd (x:=x / 256) (by omega) (by omega)
      simp -implicitDefEqProofs only [push_cast,zz,BEq.rfl,ite_true,ite_false,List.append_nil,reduceCtorEq,Nat.reduceAdd,Nat.reduceSub,Nat.reduceMul,Nat.reduceLeDiff,Nat.reduceLT,Nat.reduceEqDiff,Nat.reduceBEq,Nat.reduceBNe,Int.reduceNeg,Int.reduceToNat,ir105,hlt,h16,h8,pw16,pw8,hl,e3]
      simp only [SV.int.injEq,true_and]
      omega
    · have e3:=lenP_8 (x:=x) (by omega) (by omega)
      have b:=lenP_bd (x:=x) (by omega) (by omega)
      simp -implicitDefEqProofs only [push_cast,zz,BEq.rfl,ite_true,ite_false,List.append_nil,reduceCtorEq,Nat.reduceAdd,Nat.reduceSub,Nat.reduceMul,Nat.reduceLeDiff,Nat.reduceLT,Nat.reduceEqDiff,Nat.reduceBEq,Nat.reduceBNe,Int.reduceNeg,Int.reduceToNat,ir105,hlt,h16,h8,pw16,pw8,hl,e3]
      omega
theorem p80:EntryPOk Try.prog 80 lenF:=by
  refine ⟨⟨_,Try.func80,by kernel_rfl,by kernel_rfl⟩,fun us p v h hp => ?_⟩
  unfold lenF at h
  split at h <;> cases h
  rename_i x
  obtain ⟨h0,h1⟩:=hp
  refine tri_evS (hyp (l:=[]) (lp:=[(105,lenF)]) trivial ⟨p105,trivial⟩) Try.func80 comp80 (rs:=[.tmp 2]) (by rfl) Try.ntmps80 14 ?_
  simp -implicitDefEqProofs only [push_cast,zz,BEq.rfl,ite_true,ite_false,List.append_nil,reduceCtorEq,Nat.reduceAdd,Nat.reduceSub,Nat.reduceMul,Nat.reduceLeDiff,Nat.reduceLT,Nat.reduceEqDiff,Nat.reduceBEq,Nat.reduceBNe,Int.reduceNeg,Int.reduceToNat,ir80]
  omega
def absF:EntryP
  | [.int .i64 n] => some (-1000000000000≤n∧n≤1000000000000,.int .i64 (max n (-n)))
  | _ => none
def argsOk (levels kind:Int):Prop:=0≤levels∧levels≤6∧(kind = 0∨kind = 1)
instance argsOk_dec (levels kind:Int):Decidable (argsOk levels kind):=by unfold argsOk; infer_instance
def rightF:EntryP
  | [.int .i64 l,.int .i64 k] => some (True,.bool (decide (argsOk l k)))
  | _ => none
attribute [push_cast] absF rightF
theorem p51:EntryPOk Try.prog 51 absF:=by
  refine ⟨⟨_,Try.func51,by kernel_rfl,by kernel_rfl⟩,fun us p v h hp => ?_⟩
  unfold absF at h
  split at h <;> cases h
  rename_i x
  refine tri_evS (hyp (l:=[]) (lp:=[]) trivial trivial) Try.func51 comp51 (rs:=[.tmp 2]) (by rfl) Try.ntmps51 10 ?_
  simp -implicitDefEqProofs only [push_cast,zz,BEq.rfl,ite_true,ite_false,List.append_nil,reduceCtorEq,Nat.reduceAdd,Nat.reduceSub,Nat.reduceMul,Nat.reduceLeDiff,Nat.reduceLT,Nat.reduceEqDiff,Nat.reduceBEq,Nat.reduceBNe,Int.reduceNeg,Int.reduceToNat,ir51]
  omega
theorem p24:EntryPOk Try.prog 24 rightF:=by
  refine ⟨⟨_,Try.func24,by kernel_rfl,by kernel_rfl⟩,fun us p v h hp => ?_⟩
  unfold rightF at h
  split at h <;> cases h
  rename_i l k
  refine tri_evS (hyp (l:=[]) (lp:=[]) trivial trivial) Try.func24 comp24 (rs:=[.tmp 4]) (by rfl) Try.ntmps24 10 ?_
  simp -implicitDefEqProofs only [push_cast,zz,BEq.rfl,ite_true,ite_false,List.append_nil,reduceCtorEq,Nat.reduceAdd,Nat.reduceSub,Nat.reduceMul,Nat.reduceLeDiff,Nat.reduceLT,Nat.reduceEqDiff,Nat.reduceBEq,Nat.reduceBNe,Int.reduceNeg,Int.reduceToNat,ir24]
  exact ⟨fun h => ⟨h.1,h.2,fun hk => ⟨h.1,h.2,hk⟩⟩,Iff.rfl⟩
def ir66:IR :=
  .seq (.reg false [⟨some 4,none,⟨[],[]⟩,.mov (.k (.int .u64 0))⟩] [4] []) (.seq (.reg true [⟨some 7,none,⟨[],[]⟩,.mov (.t 0)⟩,
    ⟨some 8,none,⟨[],[]⟩,.nilc (.t 7)⟩,
    ⟨some 9,none,⟨[],[]⟩,.fld (.t 8) 35⟩,
    ⟨some 10,none,⟨[],[]⟩,.ld false none 0 0 (.t 9)⟩,
    ⟨some 11,none,⟨[],[]⟩,.mov (.t 0)⟩,
    ⟨some 12,none,⟨[],[]⟩,.nilc (.t 11)⟩,
    ⟨some 13,none,⟨[],[]⟩,.fld (.t 12) 34⟩,
    ⟨some 14,none,⟨[],[]⟩,.ld false none 0 0 (.t 13)⟩,
    ⟨some 15,none,⟨[],[]⟩,.bin 0 .sub (.t 10) (.t 14)⟩,
    ⟨some 16,none,⟨[],[]⟩,.mov (.t 0)⟩,
    ⟨some 17,none,⟨[],[]⟩,.nilc (.t 16)⟩,
    ⟨some 18,none,⟨[],[]⟩,.fld (.t 17) 2⟩,
    ⟨some 19,none,⟨[],[]⟩,.ld false (some 32) 0 0 (.t 18)⟩,
    ⟨some 20,none,⟨[],[]⟩,.mov (.t 0)⟩,
    ⟨some 21,none,⟨[],[]⟩,.nilc (.t 20)⟩,
    ⟨some 22,none,⟨[],[]⟩,.fld (.t 21) 0⟩,
    ⟨some 23,none,⟨[],[]⟩,.fld (.t 22) 0⟩,
    ⟨some 24,none,⟨[],[]⟩,.ld false none 0 0 (.t 23)⟩,
    ⟨some 25,none,⟨[],[]⟩,.mov (.t 0)⟩,
    ⟨some 26,none,⟨[],[]⟩,.nilc (.t 25)⟩,
    ⟨some 27,none,⟨[],[]⟩,.fld (.t 26) 0⟩,
    ⟨some 28,none,⟨[],[]⟩,.fld (.t 27) 1⟩,
    ⟨some 29,none,⟨[],[]⟩,.ld false none 0 0 (.t 28)⟩,
    ⟨some 30,none,⟨[],[]⟩,.mov (.t 1)⟩,
    ⟨some 31,none,⟨[],[]⟩,.idxS (.t 29) (.t 30) 1⟩,
    ⟨some 32,none,⟨[],[]⟩,.ld true none 0 0 (.t 31)⟩,
    ⟨some 33,none,⟨[],[]⟩,.callp 96 [.t 19,.t 24,.t 32]⟩,
    ⟨some 34,none,⟨[],[]⟩,.cvt 0 .u64 (.t 33)⟩,
    ⟨some 5,none,⟨[],[]⟩,.mov (.t 15)⟩,
    ⟨some 6,none,⟨[],[]⟩,.mov (.t 34)⟩] [1,7,8,9,10,11,12,13,14,15,16,17,18,19,20,21,22,23,24,25,26,27,28,29,30,31,32,33,34] []) (.seq (.reg false [⟨some 35,none,⟨[],[]⟩,.mov (.t 0)⟩,
    ⟨some 36,none,⟨[],[]⟩,.nilc (.t 35)⟩,
    ⟨some 37,none,⟨[],[]⟩,.fld (.t 36) 34⟩,
    ⟨some 38,none,⟨[],[]⟩,.ld false none 0 0 (.t 37)⟩,
    ⟨some 39,none,⟨[],[]⟩,.mov (.t 5)⟩,
    ⟨some 40,none,⟨[],[]⟩,.bin 0 .quo (.t 39) (.k (.int .u64 4096))⟩,
    ⟨some 41,none,⟨[],[]⟩,.mov (.t 6)⟩,
    ⟨some 42,none,⟨[],[]⟩,.bin 0 .mul (.t 40) (.t 41)⟩,
    ⟨some 43,none,⟨[],[]⟩,.bin 0 .add (.t 38) (.t 42)⟩,
    ⟨some 44,none,⟨[],[]⟩,.mov (.t 5)⟩,
    ⟨some 45,none,⟨[],[]⟩,.bin 0 .rem (.t 44) (.k (.int .u64 4096))⟩,
    ⟨some 46,none,⟨[],[]⟩,.mov (.t 6)⟩,
    ⟨some 47,none,⟨[],[]⟩,.bin 0 .mul (.t 45) (.t 46)⟩,
    ⟨some 48,none,⟨[],[]⟩,.bin 0 .quo (.t 47) (.k (.int .u64 4096))⟩,
    ⟨some 49,none,⟨[],[]⟩,.bin 0 .add (.t 43) (.t 48)⟩,
    ⟨some 4,none,⟨[],[]⟩,.mov (.t 49)⟩] [0,5,6,35,36,37,38,39,40,41,42,43,44,45,46,47,48,49] []) (.ret)))
set_option maxRecDepth 4000 in
theorem comp66:(Try.f66.body.bind fun c => compC tab isP chkAll ir66 c) = some ir66:=by kernel_rfl
def ir68:IR :=
  .seq (.reg false [⟨some 2,none,⟨[],[]⟩,.mov (.k (.bool false))⟩] [2] []) (.seq (.reg true [⟨some 3,none,⟨[],[]⟩,.mov (.t 0)⟩,
    ⟨some 4,none,⟨[],[]⟩,.nilc (.t 3)⟩,
    ⟨some 5,none,⟨[],[]⟩,.fld (.t 4) 34⟩,
    ⟨some 6,none,⟨[],[]⟩,.ld false none 0 0 (.t 5)⟩,
    ⟨some 7,none,⟨[],[]⟩,.bin 0 .shr (.t 6) (.k (.int .u64 24))⟩,
    ⟨some 8,none,⟨[],[]⟩,.mov (.t 0)⟩,
    ⟨some 9,none,⟨[],[]⟩,.nilc (.t 8)⟩,
    ⟨some 10,none,⟨[],[]⟩,.fld (.t 9) 35⟩,
    ⟨some 11,none,⟨[],[]⟩,.ld false none 0 0 (.t 10)⟩,
    ⟨some 12,none,⟨[],[]⟩,.bin 0 .shr (.t 11) (.k (.int .u64 24))⟩,
    ⟨some 13,none,⟨[],[]⟩,.bin 0 .eql (.t 7) (.t 12)⟩,
    ⟨some 2,none,⟨[],[]⟩,.mov (.t 13)⟩] [0,3,4,5,6,7,8,9,10,11,12,13] []) (.ret))
set_option maxRecDepth 4000 in
theorem comp68:(Try.f68.body.bind fun c => compC tab isP chkAll ir68 c) = some ir68:=by kernel_rfl
def ir69:IR :=
  .seq (.reg false [⟨some 2,none,⟨[],[]⟩,.mov (.k (.int .u8 0))⟩] [2] []) (.seq (.reg false [⟨some 4,none,⟨[],[]⟩,.mov (.t 0)⟩,
    ⟨some 5,none,⟨[],[]⟩,.nilc (.t 4)⟩,
    ⟨some 6,none,⟨[],[]⟩,.fld (.t 5) 34⟩,
    ⟨some 7,none,⟨[],[]⟩,.ld false none 0 0 (.t 6)⟩,
    ⟨some 8,none,⟨[],[]⟩,.bin 0 .shr (.t 7) (.k (.int .u64 24))⟩,
    ⟨some 9,none,⟨[],[]⟩,.cvt 0 .u8 (.t 8)⟩,
    ⟨some 3,none,⟨[],[]⟩,.mov (.t 9)⟩] [4,5,6,7,8,9] []) (.seq (.reg false [⟨some 10,none,⟨[],[]⟩,.mov (.t 0)⟩,
    ⟨some 11,none,⟨[],[]⟩,.mov (.t 0)⟩,
    ⟨some 12,none,⟨[],[]⟩,.nilc (.t 11)⟩,
    ⟨some 13,none,⟨[],[]⟩,.fld (.t 12) 34⟩,
    ⟨some 14,none,⟨[],[]⟩,.ld false none 0 0 (.t 13)⟩,
    ⟨some 15,none,⟨[],[]⟩,.bin 0 .shl (.t 14) (.k (.int .u64 8))⟩,
    ⟨some 16,none,⟨[],[]⟩,.bin 0 .and (.t 15) (.k (.int .u64 4294967295))⟩,
    ⟨some 17,none,⟨[],[]⟩,.nilc (.t 10)⟩,
    ⟨some 18,none,⟨[],[]⟩,.fld (.t 17) 34⟩,
    ⟨none,none,⟨[],[]⟩,.sto false 1 .i64 (.t 18) (.t 16)⟩] [10,11,12,13,14,15,16,17,18] []) (.seq (.reg false [⟨some 19,none,⟨[],[]⟩,.mov (.t 0)⟩,
    ⟨some 20,none,⟨[],[]⟩,.mov (.t 0)⟩,
    ⟨some 21,none,⟨[],[]⟩,.nilc (.t 20)⟩,
    ⟨some 22,none,⟨[],[]⟩,.fld (.t 21) 35⟩,
    ⟨some 23,none,⟨[],[]⟩,.ld false none 0 0 (.t 22)⟩,
    ⟨some 24,none,⟨[],[]⟩,.bin 0 .shl (.t 23) (.k (.int .u64 8))⟩,
    ⟨some 25,none,⟨[],[]⟩,.bin 0 .and (.t 24) (.k (.int .u64 4294967295))⟩,
    ⟨some 26,none,⟨[],[]⟩,.bin 0 .or (.t 25) (.k (.int .u64 255))⟩,
    ⟨some 27,none,⟨[],[]⟩,.nilc (.t 19)⟩,
    ⟨some 28,none,⟨[],[]⟩,.fld (.t 27) 35⟩,
    ⟨none,none,⟨[],[]⟩,.sto false 1 .i64 (.t 28) (.t 26)⟩] [0,19,20,21,22,23,24,25,26,27,28] []) (.seq (.reg false [⟨some 29,none,⟨[],[]⟩,.mov (.t 3)⟩,
    ⟨some 2,none,⟨[],[]⟩,.mov (.t 29)⟩] [3,29] []) (.ret)))))
set_option maxRecDepth 4000 in
theorem comp69:(Try.f69.body.bind fun c => compC tab isP chkAll ir69 c) = some ir69:=by kernel_rfl
def ir67:IR :=
  .seq (.seq (.reg false [⟨some 8,none,⟨[],[]⟩,.mov (.t 2)⟩,
    ⟨some 9,none,⟨[],[]⟩,.bin 0 .eql (.t 8) (.k (.int .i64 1))⟩] [8] []) (.cond (.t 9) (.reg false [⟨some 10,none,⟨[],[]⟩,.mov (.t 0)⟩,
    ⟨some 11,none,⟨[],[]⟩,.mov (.t 3)⟩,
    ⟨some 12,none,⟨[],[]⟩,.nilc (.t 10)⟩,
    ⟨some 13,none,⟨[],[]⟩,.fld (.t 12) 35⟩,
    ⟨none,none,⟨[],[]⟩,.sto false 1 .i64 (.t 13) (.t 11)⟩] [3,9,10,11,12,13] []) (.reg false [⟨some 14,none,⟨[],[]⟩,.mov (.t 0)⟩,
    ⟨some 15,none,⟨[],[]⟩,.mov (.t 3)⟩,
    ⟨some 16,none,⟨[],[]⟩,.bin 0 .add (.t 15) (.k (.int .u64 1))⟩,
    ⟨some 17,none,⟨[],[]⟩,.nilc (.t 14)⟩,
    ⟨some 18,none,⟨[],[]⟩,.fld (.t 17) 34⟩,
    ⟨none,none,⟨[],[]⟩,.sto false 1 .i64 (.t 18) (.t 16)⟩] [3,9,14,15,16,17,18] []))) (.reg true [⟨some 19,none,⟨[],[]⟩,.mov (.t 0)⟩,
    ⟨some 20,none,⟨[],[]⟩,.nilc (.t 19)⟩,
    ⟨some 21,none,⟨[],[]⟩,.fld (.t 20) 0⟩,
    ⟨some 22,none,⟨[],[]⟩,.fld (.t 21) 1⟩,
    ⟨some 23,none,⟨[],[]⟩,.ld false none 0 0 (.t 22)⟩,
    ⟨some 24,none,⟨[],[]⟩,.mov (.t 1)⟩,
    ⟨some 25,none,⟨[],[]⟩,.mov (.t 0)⟩,
    ⟨some 26,none,⟨[],[]⟩,.nilc (.t 25)⟩,
    ⟨some 27,none,⟨[],[]⟩,.fld (.t 26) 0⟩,
    ⟨some 28,none,⟨[],[]⟩,.fld (.t 27) 0⟩,
    ⟨some 29,none,⟨[],[]⟩,.ld false none 0 0 (.t 28)⟩,
    ⟨some 30,none,⟨[],[]⟩,.mov (.t 0)⟩,
    ⟨some 31,none,⟨[],[]⟩,.nilc (.t 30)⟩,
    ⟨some 32,none,⟨[],[]⟩,.fld (.t 31) 0⟩,
    ⟨some 33,none,⟨[],[]⟩,.fld (.t 32) 1⟩,
    ⟨some 34,none,⟨[],[]⟩,.ld false none 0 0 (.t 33)⟩,
    ⟨some 35,none,⟨[],[]⟩,.mov (.t 1)⟩,
    ⟨some 36,none,⟨[],[]⟩,.idxS (.t 34) (.t 35) 1⟩,
    ⟨some 37,none,⟨[],[]⟩,.ld true none 0 0 (.t 36)⟩,
    ⟨some 38,none,⟨[],[]⟩,.mov (.t 2)⟩,
    ⟨some 39,none,⟨[],[]⟩,.callp 97 [.t 29,.t 37,.t 38]⟩,
    ⟨some 40,none,⟨[],[]⟩,.idxS (.t 23) (.t 24) 1⟩,
    ⟨none,none,⟨[],[]⟩,.sto true 1 .i64 (.t 40) (.t 39)⟩] [0,1,2,19,20,21,22,23,24,25,26,27,28,29,30,31,32,33,34,35,36,37,38,39,40] [])
set_option maxRecDepth 4000 in
theorem comp67:(Try.f67.body.bind fun c => compC tab isP chkAll ir67 c) = some ir67:=by kernel_rfl
section
variable (r:List SV) (v:SV)
@[push_cast] theorem gq32:getL (qsV++r) 32 = getL r 0:=rfl
@[push_cast] theorem gq33:getL (qsV++r) 33 = getL r 1:=rfl
@[push_cast] theorem gq34:getL (qsV++r) 34 = getL r 2:=rfl
@[push_cast] theorem gq35:getL (qsV++r) 35 = getL r 3:=rfl
@[push_cast] theorem gq36:getL (qsV++r) 36 = getL r 4:=rfl
@[push_cast] theorem gq37:getL (qsV++r) 37 = getL r 5:=rfl
@[push_cast] theorem gq38:getL (qsV++r) 38 = getL r 6:=rfl
@[push_cast] theorem gq39:getL (qsV++r) 39 = getL r 7:=rfl
@[push_cast] theorem sq32:setL (qsV++r) 32 v = qsV++setL r 0 v:=rfl
@[push_cast] theorem sq33:setL (qsV++r) 33 v = qsV++setL r 1 v:=rfl
@[push_cast] theorem sq34:setL (qsV++r) 34 v = qsV++setL r 2 v:=rfl
@[push_cast] theorem sq35:setL (qsV++r) 35 v = qsV++setL r 3 v:=rfl
@[push_cast] theorem sq36:setL (qsV++r) 36 v = qsV++setL r 4 v:=rfl
@[push_cast] theorem sq37:setL (qsV++r) 37 v = qsV++setL r 5 v:=rfl
@[push_cast] theorem sq38:setL (qsV++r) 38 v = qsV++setL r 6 v:=rfl
@[push_cast] theorem sq39:setL (qsV++r) 39 v = qsV++setL r 7 v:=rfl
@[push_cast] theorem tq32:takeL (qsV++r) 32 = some qsV:=by simp [qsV,takeL]
@[push_cast] theorem dq32:dropL (qsV++r) 32 = r:=by simp [qsV,dropL]
@[push_cast] theorem rq (f:Nat→Nat):relabs f (qsV++r) = qsV++relabs f r:=rfl
@[push_cast] theorem eqvs_q (s:List SV):eqvs (qsV++r) (qsV++s) = eqvs r s:=by simp [qsV,eqvs,eqv]
end
mutual
theorem eqv_rfl:∀ v,eqv v v
  | .int k n => by simp only [eqv]
  | .bool b => by simp only [eqv]
  | .ptr c L i s f => by simp only [eqv,and_self]
  | .sl c L s lo n => by simp only [eqv,and_self]
  | .agg cs => by simp only [eqv]; exact eqvs_rfl cs
  | .tup cs => by simp only [eqv]; exact eqvs_rfl cs
  | .fn f cs => by simp only [eqv,true_and]; exact eqvs_rfl cs
  | .val v => by simp only [eqv]
theorem eqvs_rfl:∀ cs,eqvs cs cs
  | [] => by simp only [eqvs]
  | c :: cs => by simp only [eqvs]; exact ⟨eqv_rfl c,eqvs_rfl cs⟩
end
@[push_cast] theorem eqv_rfl' (v:SV):eqv v v = True:=eq_true (eqv_rfl v)
@[push_cast] theorem eqvs_rfl' (cs:List SV):eqvs cs cs = True:=eq_true (eqvs_rfl cs)
def ivV (kind:Int) (LS:Xf.Loc) (n low high:Int) (rest:List SV):List SV:=.int .i64 kind :: .sl 1 LS 1 0 n :: (qsV++.int .u64 low :: .int .u64 high :: rest)
def stsOk (kind:Int) (st:List Int):Prop:=(kind = 0∨kind = 1)∧∀ s ∈ st,sttOk kind s
theorem stsOk.at {kind:Int} {st:List Int} (h:stsOk kind st) {i:Int} (h0:0≤i) (h1:i < st.length):sttOk kind (rd st i):=by
  obtain ⟨k,rfl⟩:∃ k:Nat,i = k:=⟨i.toNat,by omega⟩
  rw [rd_lt st k (by omega)]
  exact h.2 _ (List.getElem_mem _)
theorem stsOk.set {kind:Int} {st:List Int} (h:stsOk kind st) {i:Nat} {s:Int} (hs:sttOk kind s):stsOk kind (st.set i s):=by
  refine ⟨h.1,fun x hx => ?_⟩
  rcases List.mem_or_eq_of_mem_set hx with h1 | h1
  · exact h.2 x h1
  · rw [h1]; exact hs
def midP (low high p:Int):Int:=low + (high - low) / 4096 * p + (high - low) % 4096 * p / 4096
theorem midP_bd {low high p:Int} (h0:0≤low) (h1:low≤high) (h2:high < 4294967296) (hp0:1≤p) (hp1:p≤4095) :
    0≤(high - low) / 4096 * p∧(high - low) / 4096 * p≤4294967296∧0≤(high - low) % 4096 * p∧(high - low) % 4096 * p≤16777216∧low≤midP low high p∧midP low high p≤high∧(low < high→midP low high p < high):=by
  unfold midP
  obtain ⟨r,hr⟩:∃ r,high - low = r:=⟨_,rfl⟩
  rw [hr]
  have hr0:0≤r:=by omega
  obtain ⟨a,ha⟩:∃ a,r / 4096 = a:=⟨_,rfl⟩
  obtain ⟨b,hb⟩:∃ b,r % 4096 = b:=⟨_,rfl⟩
  rw [ha,hb]
  have hab:r = 4096 * a + b:=by omega
  have ha0:0≤a:=by omega
  have ha1:a≤1048576:=by omega
  have hb0:0≤b:=by omega
  have hb1:b < 4096:=by omega
  have m1:=mul_bd ha0 ha1 (show 0≤p by omega) hp1
  have m2:=mul_bd hb0 (show b≤4095 by omega) (show 0≤p by omega) hp1
  have m3:a * p≤a * 4095:=Int.mul_le_mul_of_nonneg_left hp1 ha0
  have m4:b * p≤b * 4095:=Int.mul_le_mul_of_nonneg_left hp1 hb0
  refine ⟨m1.1,by omega,m2.1,by omega,by omega,by omega,by omega⟩
structure IvA where
  L:Xf.Loc
  LS:Xf.Loc
  kind:Int
  st:List Int
  low:Int
  high:Int
  rest:List SV
  ctx:Int
  bit:Int
def IvA.ok (a:IvA):Prop:=stsOk a.kind a.st∧a.st.length≤1000000∧0≤a.low∧a.low < a.high∧a.high < 4294967296
def restR:List SV→Option (List SV × Nat)
  | .sl d L s lo n :: r => some (.sl 2 L s lo n :: r,d)
  | _ => none
def invIv:List SV→Look→Option (IvA × List Nat)
  | .ptr c _ 0 0 0 :: us,look => match rowC (look c) with
    | some (L,.int .i64 kind :: .sl d LS 1 0 _ :: r) => match dropL r 32,rowI (look d) with
      | .int .u64 low :: .int .u64 high :: r,some (_,.i64,st) => match restR r with
        | some (rest,e) => match us with
          | [] => some (⟨L,LS,kind,st,low,high,rest,0,0⟩,[c,d,e])
          | [.int .i64 ctx] => some (⟨L,LS,kind,st,low,high,rest,ctx,0⟩,[c,d,e])
          | [.int .i64 ctx,.int .i64 bit,_] => some (⟨L,LS,kind,st,low,high,rest,ctx,bit⟩,[c,d,e])
          | _ => none
        | none => none
      | _,_ => none
    | _ => none
  | _,_ => none
attribute [push_cast] restR invIv
def fs66:FS where
  A:=IvA
  args:=fun a => [.ptr 0 a.L 0 0 0,.int .i64 a.ctx]
  mem:=fun a => [some (.ro,a.L,.cells (ivV a.kind a.LS a.st.length a.low a.high a.rest)),some (.ro,a.LS,.ints .i64 a.st),none]
  pre:=fun a => a.ok∧0≤a.ctx∧a.ctx < a.st.length
  res:=fun a _ => .int .u64 (midP a.low a.high (chP a.kind (rd a.st a.ctx)))
  out:=fun _ _ => []
  new:=fun _ _ => []
theorem ok66:FSOk Try.prog 66 fs66:=by
  refine ⟨⟨_,Try.func66,by kernel_rfl,by kernel_rfl⟩,fun a => ⟨by simp [fs66,push_cast,noMine,argOwn,Chunk.frArg],by simp [fs66,push_cast,outOk,Chunk.ext],fun x => .inl (by simp [fs66,push_cast,frNew,frOut,Chunk.fr])⟩,fun a hp => ?_⟩
  obtain ⟨L,LS,kind,st,low,high,rest,ctx,bit⟩:=a
  obtain ⟨⟨h1,h2,h3,h4,h5⟩,h6,h7⟩:(stsOk kind st∧st.length≤1000000∧0≤low∧low < high∧high < 4294967296)∧0≤ctx∧ctx < st.length:=hp
  have hs:=h1.at h6 h7
  have hc:=chP_bd hs
  change Tri Try.prog 66 [.ptr 0 L 0 0 0,.int .i64 ctx] [some (.ro,L,.cells (ivV kind LS st.length low high rest)),some (.ro,LS,.ints .i64 st),none] (postF fs66 ⟨L,LS,kind,st,low,high,rest,ctx,bit⟩)
  refine tri_evS (hyp (l:=[]) (lp:=[(96,chanceF)]) trivial ⟨p96,trivial⟩) Try.func66 comp66 (rs:=[.tmp 4]) (by rfl) Try.ntmps66 10 ?_
  obtain ⟨s,hss⟩:∃ s,rd st ctx = s:=⟨_,rfl⟩
  rw [hss] at hs hc
  obtain ⟨p,hpp⟩:∃ p,chP kind s = p:=⟨_,rfl⟩
  rw [hpp] at hc
  have hb:=midP_bd h3 (Int.le_of_lt h4) h5 hc.1 hc.2
  unfold midP at hb
  simp -implicitDefEqProofs only [push_cast,zz,BEq.rfl,ite_true,ite_false,List.append_nil,reduceCtorEq,Nat.reduceAdd,Nat.reduceSub,Nat.reduceMul,Nat.reduceLeDiff,Nat.reduceLT,Nat.reduceEqDiff,Nat.reduceBEq,Nat.reduceBNe,Int.reduceNeg,Int.reduceToNat,ir66,ivV,hss,hpp,hs]
  repeat (refine And.intro (by first | omega | trivial | (intros; omega)) ?_)
  refine postF.mk' (fun _ => default) [some 0,some 1,none] ?_
  simp -implicitDefEqProofs only [push_cast,zz,BEq.rfl,ite_true,ite_false,List.append_nil,reduceCtorEq,Nat.reduceAdd,Nat.reduceSub,Nat.reduceMul,Nat.reduceLeDiff,Nat.reduceLT,Nat.reduceEqDiff,Nat.reduceBEq,Nat.reduceBNe,Int.reduceNeg,Int.reduceToNat,fs66,ivV,hss,hpp,midP]
def ent66:Entry:=spOf fs66 invIv
theorem e66:EntryOk Try.prog 66 ent66:=entry_of ok66 invIv
@[push_cast] theorem ent66_app (us:List SV) (look:Look) (x:Nat→Xf.Loc) (k:Nat):ent66 us look x k = spOf fs66 invIv us look x k:=rfl
def fs68:FS where
  A:=IvA
  args:=fun a => [.ptr 0 a.L 0 0 0]
  mem:=fun a => [some (.ro,a.L,.cells (ivV a.kind a.LS a.st.length a.low a.high a.rest)),none,none]
  pre:=fun a => True
  res:=fun a _ => .bool (decide (a.low / 16777216 = a.high / 16777216))
  out:=fun _ _ => []
  new:=fun _ _ => []
theorem ok68:FSOk Try.prog 68 fs68:=by
  refine ⟨⟨_,Try.func68,by kernel_rfl,by kernel_rfl⟩,fun a => ⟨by simp [fs68,push_cast,noMine,argOwn,Chunk.frArg],by simp [fs68,push_cast,outOk,Chunk.ext],fun x => .inl (by simp [fs68,push_cast,frNew,frOut,Chunk.fr])⟩,fun a hp => ?_⟩
  obtain ⟨L,LS,kind,st,low,high,rest,ctx,bit⟩:=a
  change Tri Try.prog 68 [.ptr 0 L 0 0 0] [some (.ro,L,.cells (ivV kind LS st.length low high rest)),none,none] (postF fs68 ⟨L,LS,kind,st,low,high,rest,ctx,bit⟩)
  refine tri_evS (hyp (l:=[]) (lp:=[]) trivial trivial) Try.func68 comp68 (rs:=[.tmp 2]) (by rfl) Try.ntmps68 10 ?_
  have hb64:=bits64
  simp -implicitDefEqProofs only [push_cast,zz,BEq.rfl,ite_true,ite_false,List.append_nil,reduceCtorEq,Nat.reduceAdd,Nat.reduceSub,Nat.reduceMul,Nat.reduceLeDiff,Nat.reduceLT,Nat.reduceEqDiff,Nat.reduceBEq,Nat.reduceBNe,Int.reduceNeg,Int.reduceToNat,ir68,ivV,pw24]
  repeat (refine And.intro (by first | omega | trivial | (intros; omega)) ?_)
  refine postF.mk' (fun _ => default) [some 0,none,none] ?_
  simp -implicitDefEqProofs only [push_cast,zz,BEq.rfl,ite_true,ite_false,List.append_nil,reduceCtorEq,Nat.reduceAdd,Nat.reduceSub,Nat.reduceMul,Nat.reduceLeDiff,Nat.reduceLT,Nat.reduceEqDiff,Nat.reduceBEq,Nat.reduceBNe,Int.reduceNeg,Int.reduceToNat,fs68,ivV]
def ent68:Entry:=spOf fs68 invIv
theorem e68:EntryOk Try.prog 68 ent68:=entry_of ok68 invIv
@[push_cast] theorem ent68_app (us:List SV) (look:Look) (x:Nat→Xf.Loc) (k:Nat):ent68 us look x k = spOf fs68 invIv us look x k:=rfl
theorem wrap64 (x:Nat) (h:x < 18446744073709551616):IntKind.u64.wrap x = x:=inR_wrap (k:=.u64) (by simp only [inR,push_cast]; omega)
theorem and_top {x:Int} (h0:0≤x) (h1:x < 18446744073709551616):bitop .and .u64 x 4294967295 = x % 4294967296:=by
  obtain ⟨k,rfl⟩:∃ k:Nat,x = k:=⟨x.toNat,by omega⟩
  have e:((BitVec.ofInt 64 (k:Int)) &&& (BitVec.ofInt 64 4294967295)).toNat = k % 4294967296:=by
    rw [BitVec.toNat_and,BitVec.toNat_ofInt,BitVec.toNat_ofInt]
    rw [show (((4294967295:Int) % ((2 ^ 64:Nat):Int)).toNat) = 2 ^ 32 - 1 by decide,Nat.and_two_pow_sub_one_eq_mod]
    omega
  show IntKind.u64.wrap _ = _
  have e':(BitVec.toNat ((BitVec.ofInt IntKind.u64.bits (k:Int)) &&& (BitVec.ofInt IntKind.u64.bits 4294967295))) = k % 4294967296:=e
  simp only [e']
  rw [wrap64 _ (by omega)]
  omega
theorem or_255 {x:Int} (h0:0≤x) (h1:x < 18446744073709551616) (h2:x % 256 = 0):bitop .or .u64 x 255 = x + 255:=by
  obtain ⟨k,rfl⟩:∃ k:Nat,x = k:=⟨x.toNat,by omega⟩
  have e:((BitVec.ofInt 64 (k:Int)) ||| (BitVec.ofInt 64 255)).toNat = k + 255:=by
    rw [BitVec.toNat_or,BitVec.toNat_ofInt,BitVec.toNat_ofInt]
    rw [show (((255:Int) % ((2 ^ 64:Nat):Int)).toNat) = 255 by decide]
    rw [show (((k:Int) % ((2 ^ 64:Nat):Int)).toNat) = 2 ^ 8 * (k / 256) by omega]
    rw [← Nat.two_pow_add_eq_or_of_lt (by decide)]
    omega
  show IntKind.u64.wrap _ = _
  have e':(BitVec.toNat ((BitVec.ofInt IntKind.u64.bits (k:Int)) ||| (BitVec.ofInt IntKind.u64.bits 255))) = k + 255:=e
  simp only [e']
  rw [wrap64 _ (by omega)]
  omega
def fs69:FS where
  A:=IvA
  args:=fun a => [.ptr 0 a.L 0 0 0]
  mem:=fun a => [some (.lent,a.L,.cells (ivV a.kind a.LS a.st.length a.low a.high a.rest)),none,none]
  pre:=fun a => 0≤a.low∧a.low < 4294967296∧0≤a.high∧a.high < 4294967296
  res:=fun a _ => .int .u8 (a.low / 16777216)
  out:=fun a _ => [some (some (.cells (ivV a.kind a.LS a.st.length (a.low % 16777216 * 256) (a.high % 16777216 * 256 + 255) a.rest)))]
  new:=fun _ _ => []
theorem ok69:FSOk Try.prog 69 fs69:=by
  refine ⟨⟨_,Try.func69,by kernel_rfl,by kernel_rfl⟩,fun a => ⟨by simp [fs69,ivV,push_cast,noMine,argOwn,Chunk.frArg],by simp [fs69,ivV,push_cast,outOk,Chunk.ext],fun x => .inl (by simp [fs69,ivV,push_cast,frNew,frOut,Chunk.fr])⟩,fun a hp => ?_⟩
  obtain ⟨L,LS,kind,st,low,high,rest,ctx,bit⟩:=a
  obtain ⟨h0,h1,h2,h3⟩:0≤low∧low < 4294967296∧0≤high∧high < 4294967296:=hp
  change Tri Try.prog 69 [.ptr 0 L 0 0 0] [some (.lent,L,.cells (ivV kind LS st.length low high rest)),none,none] (postF fs69 ⟨L,LS,kind,st,low,high,rest,ctx,bit⟩)
  refine tri_evS (hyp (l:=[]) (lp:=[]) trivial trivial) Try.func69 comp69 (rs:=[.tmp 2]) (by rfl) Try.ntmps69 10 ?_
  have hb64:=bits64
  have e1:=and_top (x:=low * 256) (by omega) (by omega)
  have e2:=and_top (x:=high * 256) (by omega) (by omega)
  have e3:=or_255 (x:=high * 256 % 4294967296) (by omega) (by omega) (by omega)
  have e4:low * 256 % 4294967296 = low % 16777216 * 256:=by omega
  have e5:high * 256 % 4294967296 = high % 16777216 * 256:=by omega
  rw [e4] at e1
  rw [e5] at e2 e3
  simp -implicitDefEqProofs only [push_cast,zz,BEq.rfl,ite_true,ite_false,List.append_nil,reduceCtorEq,Nat.reduceAdd,Nat.reduceSub,Nat.reduceMul,Nat.reduceLeDiff,Nat.reduceLT,Nat.reduceEqDiff,Nat.reduceBEq,Nat.reduceBNe,Int.reduceNeg,Int.reduceToNat,ir69,ivV,pw24,pw8,e1,e2,e3]
  repeat (refine And.intro (by first | omega | trivial | (intros; omega)) ?_)
  refine postF.mk' (fun _ => default) [some 0,none,none] ?_
  simp -implicitDefEqProofs only [push_cast,zz,BEq.rfl,ite_true,ite_false,List.append_nil,reduceCtorEq,Nat.reduceAdd,Nat.reduceSub,Nat.reduceMul,Nat.reduceLeDiff,Nat.reduceLT,Nat.reduceEqDiff,Nat.reduceBEq,Nat.reduceBNe,Int.reduceNeg,Int.reduceToNat,fs69,ivV]
def ent69:Entry:=spOf fs69 invIv
theorem e69:EntryOk Try.prog 69 ent69:=entry_of ok69 invIv
@[push_cast] theorem ent69_app (us:List SV) (look:Look) (x:Nat→Xf.Loc) (k:Nat):ent69 us look x k = spOf fs69 invIv us look x k:=rfl
def fs67:FS where
  A:=IvA
  args:=fun a => [.ptr 0 a.L 0 0 0,.int .i64 a.ctx,.int .i64 a.bit,.int .u64 (midP a.low a.high (chP a.kind (rd a.st a.ctx)))]
  mem:=fun a => [some (.lent,a.L,.cells (ivV a.kind a.LS a.st.length a.low a.high a.rest)),some (.lent,a.LS,.ints .i64 a.st),none]
  pre:=fun a => a.ok∧0≤a.ctx∧a.ctx < a.st.length∧(a.bit = 0∨a.bit = 1)
  res:=fun a _ => .tup []
  out:=fun a _ => [some (some (.cells (ivV a.kind a.LS a.st.length (if a.bit = 1 then a.low else midP a.low a.high (chP a.kind (rd a.st a.ctx)) + 1) (if a.bit = 1 then midP a.low a.high (chP a.kind (rd a.st a.ctx)) else a.high) a.rest))),
    some (some (.ints .i64 (a.st.set a.ctx.toNat (nxP a.kind (rd a.st a.ctx) a.bit))))]
  new:=fun _ _ => []
theorem ok67:FSOk Try.prog 67 fs67:=by
  refine ⟨⟨_,Try.func67,by kernel_rfl,by kernel_rfl⟩,fun a => ⟨by simp [fs67,ivV,push_cast,noMine,argOwn,Chunk.frArg],by simp [fs67,ivV,push_cast,outOk,Chunk.ext],fun x => .inl (by simp [fs67,ivV,push_cast,frNew,frOut,Chunk.fr])⟩,fun a hp => ?_⟩
  obtain ⟨L,LS,kind,st,low,high,rest,ctx,bit⟩:=a
  obtain ⟨⟨h1,h2,h3,h4,h5⟩,h6,h7,h8⟩:(stsOk kind st∧st.length≤1000000∧0≤low∧low < high∧high < 4294967296)∧0≤ctx∧ctx < st.length∧(bit = 0∨bit = 1):=hp
  have hs:=h1.at h6 h7
  have hc:=chP_bd hs
  have hb:=midP_bd h3 (Int.le_of_lt h4) h5 hc.1 hc.2
  change Tri Try.prog 67 [.ptr 0 L 0 0 0,.int .i64 ctx,.int .i64 bit,.int .u64 (midP low high (chP kind (rd st ctx)))] [some (.lent,L,.cells (ivV kind LS st.length low high rest)),some (.lent,LS,.ints .i64 st),none] (postF fs67 ⟨L,LS,kind,st,low,high,rest,ctx,bit⟩)
  refine tri_evS (hyp (l:=[]) (lp:=[(97,nextF)]) trivial ⟨p97,trivial⟩) Try.func67 comp67 (rs:=[]) (by rfl) Try.ntmps67 10 ?_
  obtain ⟨m,hm⟩:∃ m,midP low high (chP kind (rd st ctx)) = m:=⟨_,rfl⟩
  obtain ⟨s,hss⟩:∃ s,rd st ctx = s:=⟨_,rfl⟩
  rw [hss] at hs
  rw [hm] at hb ⊢
  rw [hss] at hm
  have h01:¬ (0:Int) = 1:=by decide
  by_cases hbit:bit = 1
  · subst hbit
    simp -implicitDefEqProofs only [push_cast,zz,BEq.rfl,ite_true,ite_false,List.append_nil,reduceCtorEq,Nat.reduceAdd,Nat.reduceSub,Nat.reduceMul,Nat.reduceLeDiff,Nat.reduceLT,Nat.reduceEqDiff,Nat.reduceBEq,Nat.reduceBNe,Int.reduceNeg,Int.reduceToNat,ir67,ivV,hss,hs]
    repeat (refine And.intro (by first | omega | trivial | (intros; omega)) ?_)
    refine postF.mk' (fun _ => default) [some 0,some 1,none] ?_
    simp -implicitDefEqProofs only [push_cast,zz,BEq.rfl,ite_true,ite_false,List.append_nil,reduceCtorEq,Nat.reduceAdd,Nat.reduceSub,Nat.reduceMul,Nat.reduceLeDiff,Nat.reduceLT,Nat.reduceEqDiff,Nat.reduceBEq,Nat.reduceBNe,Int.reduceNeg,Int.reduceToNat,fs67,ivV,hm,hss,List.length_set]
  · obtain rfl:bit = 0:=by omega
    simp -implicitDefEqProofs only [push_cast,zz,BEq.rfl,ite_true,ite_false,List.append_nil,reduceCtorEq,Nat.reduceAdd,Nat.reduceSub,Nat.reduceMul,Nat.reduceLeDiff,Nat.reduceLT,Nat.reduceEqDiff,Nat.reduceBEq,Nat.reduceBNe,Int.reduceNeg,Int.reduceToNat,ir67,ivV,hss,hs,h01]
    repeat (refine And.intro (by first | omega | trivial | (intros; omega)) ?_)
    refine postF.mk' (fun _ => default) [some 0,some 1,none] ?_
    simp -implicitDefEqProofs only [push_cast,zz,BEq.rfl,ite_true,ite_false,List.append_nil,reduceCtorEq,Nat.reduceAdd,Nat.reduceSub,Nat.reduceMul,Nat.reduceLeDiff,Nat.reduceLT,Nat.reduceEqDiff,Nat.reduceBEq,Nat.reduceBNe,Int.reduceNeg,Int.reduceToNat,fs67,ivV,hm,hss,List.length_set,h01]
def ent67:Entry:=spOf fs67 invIv
theorem e67:EntryOk Try.prog 67 ent67:=entry_of ok67 invIv
@[push_cast] theorem ent67_app (us:List SV) (look:Look) (x:Nat→Xf.Loc) (k:Nat):ent67 us look x k = spOf fs67 invIv us look x k:=rfl
def ir81:IR :=
  .seq (.reg false [⟨some 2,none,⟨[],[]⟩,.mov (.k (.bool false))⟩] [2] []) (.seq (.reg false [⟨some 3,none,⟨[],[]⟩,.mov (.t 0)⟩,
    ⟨some 4,none,⟨[],[]⟩,.binN .eql (.t 3) (.k nilP)⟩,
    ⟨some 5,none,⟨[],[]⟩,.mov (.t 4)⟩,
    ⟨some 6,some (5,false),⟨[],[]⟩,.mov (.t 0)⟩,
    ⟨some 7,some (5,false),⟨[],[]⟩,.nilc (.t 6)⟩,
    ⟨some 8,some (5,false),⟨[],[]⟩,.fld (.t 7) 37⟩,
    ⟨some 9,some (5,false),⟨[],[]⟩,.ld false none 0 0 (.t 8)⟩,
    ⟨some 10,some (5,false),⟨[],[]⟩,.not (.t 9)⟩,
    ⟨some 11,none,⟨[],[]⟩,.pick (.t 5) (.k (.bool true)) (.t 10)⟩,
    ⟨some 2,none,⟨[],[]⟩,.mov (.t 11)⟩] [0,3,4,5,6,7,8,9,10,11] []) (.ret))
set_option maxRecDepth 4000 in
theorem comp81:(Try.f81.body.bind fun c => compC tab isP chkAll ir81 c) = some ir81:=by kernel_rfl
def b43_1:IR :=
  .seq (.seq (.reg false [⟨some 43,none,⟨[],[]⟩,.mov (.t 0)⟩,
    ⟨some 44,none,⟨[],[]⟩,.nilc (.t 43)⟩,
    ⟨some 45,none,⟨[],[]⟩,.fld (.t 44) 0⟩,
    ⟨some 46,none,⟨[],[]⟩,.call (some 4) 22 68 [.t 45]⟩] [43,44,45] []) (.cond (.t 46) (.skip) (.exit 1))) (.block 2 (.regT (.split 4 8 (.leaf [0,1,2,3,4,5,6,7,8,9,10,11,12,13]) (.leaf [0,1,2,3,5,6,7,8,4,9,10,11,12,13])) [⟨some 47,none,⟨[],[]⟩,.mov (.t 0)⟩,
    ⟨some 48,none,⟨[],[]⟩,.mov (.t 0)⟩,
    ⟨some 49,none,⟨[],[]⟩,.nilc (.t 48)⟩,
    ⟨some 50,none,⟨[],[]⟩,.fld (.t 49) 36⟩,
    ⟨some 51,none,⟨[26,27,28,29,30],[]⟩,.ld false none 0 0 (.t 50)⟩,
    ⟨some 52,none,⟨[],[]⟩,.mov (.t 0)⟩,
    ⟨some 53,none,⟨[],[]⟩,.nilc (.t 52)⟩,
    ⟨some 54,none,⟨[],[]⟩,.fld (.t 53) 0⟩,
    ⟨some 55,none,⟨[],[]⟩,.call none 26 69 [.t 54]⟩,
    ⟨some 56,none,⟨[],[]⟩,.bslice 30 [.t 55]⟩,
    ⟨some 57,none,⟨[],[]⟩,.app 31 1 1 (.t 51) (.t 56)⟩,
    ⟨some 58,none,⟨[],[]⟩,.nilc (.t 47)⟩,
    ⟨some 59,none,⟨[],[]⟩,.fld (.t 58) 36⟩,
    ⟨none,none,⟨[],[]⟩,.sto false 1 .u8 (.t 59) (.t 57)⟩] [46,47,48,49,50,51,52,53,54,55,56,57,58,59] []))
def r43_2:IR :=
  .seq (.reg false [⟨some 6,none,⟨[],[]⟩,.mov (.k (.int .i64 0))⟩] [0] []) (.ret)
def ir43:IR :=
  .seq (.reg false [⟨some 6,none,⟨[],[]⟩,.mov (.k (.int .i64 0))⟩] [6] []) (.seq (.block 0 (.seq (.reg false [⟨some 8,none,⟨[],[]⟩,.mov (.t 0)⟩,
    ⟨some 9,none,⟨[],[]⟩,.call (some 4) 10 81 [.t 8]⟩,
    ⟨some 7,none,⟨[],[]⟩,.mov (.t 9)⟩] [8,9] []) (.cond (.t 7) (.seq (.reg false [⟨some 6,none,⟨[],[]⟩,.mov (.k (.int .i64 7))⟩] [0,1,2,7] []) (.ret)) (.seq (.reg false [⟨some 11,none,⟨[],[]⟩,.mov (.t 1)⟩,
    ⟨some 12,none,⟨[],[]⟩,.bin 0 .lss (.t 11) (.k (.int .i64 0))⟩,
    ⟨some 13,none,⟨[],[]⟩,.mov (.t 12)⟩,
    ⟨some 14,some (13,false),⟨[],[]⟩,.mov (.t 1)⟩,
    ⟨some 15,some (13,false),⟨[],[]⟩,.mov (.t 0)⟩,
    ⟨some 16,some (13,false),⟨[],[]⟩,.nilc (.t 15)⟩,
    ⟨some 17,some (13,false),⟨[],[]⟩,.fld (.t 16) 0⟩,
    ⟨some 18,some (13,false),⟨[],[]⟩,.fld (.t 17) 0⟩,
    ⟨some 19,some (13,false),⟨[],[]⟩,.fld (.t 18) 1⟩,
    ⟨some 20,some (13,false),⟨[],[]⟩,.ld false none 0 0 (.t 19)⟩,
    ⟨some 21,some (13,false),⟨[],[]⟩,.len (.t 20)⟩,
    ⟨some 22,some (13,false),⟨[],[]⟩,.bin 0 .geq (.t 14) (.t 21)⟩,
    ⟨some 23,none,⟨[],[]⟩,.pick (.t 13) (.k (.bool true)) (.t 22)⟩,
    ⟨some 24,none,⟨[],[]⟩,.mov (.t 23)⟩,
    ⟨some 25,some (24,false),⟨[],[]⟩,.mov (.t 2)⟩,
    ⟨some 26,some (24,false),⟨[],[]⟩,.bin 0 .neq (.t 25) (.k (.int .i64 0))⟩,
    ⟨some 27,some (24,false),⟨[],[]⟩,.mov (.t 26)⟩,
    ⟨some 28,some (27,true),⟨[],[]⟩,.mov (.t 2)⟩,
    ⟨some 29,some (27,true),⟨[],[]⟩,.bin 0 .neq (.t 28) (.k (.int .i64 1))⟩,
    ⟨some 30,some (24,false),⟨[],[]⟩,.pick (.t 27) (.t 29) (.k (.bool false))⟩,
    ⟨some 31,none,⟨[],[]⟩,.pick (.t 24) (.k (.bool true)) (.t 30)⟩,
    ⟨some 10,none,⟨[],[]⟩,.mov (.t 31)⟩] [7,11,12,13,14,15,16,17,18,19,20,21,22,23,24,25,26,27,28,29,30,31] []) (.cond (.t 10) (.seq (.reg false [⟨some 6,none,⟨[],[]⟩,.mov (.k (.int .i64 2))⟩] [0,1,2,10] []) (.ret)) (.skip)))))) (.seq (.reg true [⟨some 32,none,⟨[],[]⟩,.mov (.t 0)⟩,
    ⟨some 33,none,⟨[],[]⟩,.nilc (.t 32)⟩,
    ⟨some 34,none,⟨[],[]⟩,.fld (.t 33) 0⟩,
    ⟨some 35,none,⟨[],[]⟩,.mov (.t 1)⟩,
    ⟨some 36,none,⟨[],[]⟩,.mov (.t 2)⟩,
    ⟨some 37,none,⟨[],[]⟩,.mov (.t 0)⟩,
    ⟨some 38,none,⟨[],[]⟩,.nilc (.t 37)⟩,
    ⟨some 39,none,⟨[],[]⟩,.fld (.t 38) 0⟩,
    ⟨some 40,none,⟨[],[]⟩,.mov (.t 1)⟩,
    ⟨some 41,none,⟨[],[]⟩,.call (some 4) 14 66 [.t 39,.t 40]⟩,
    ⟨some 42,none,⟨[],[]⟩,.call none 18 67 [.t 34,.t 35,.t 36,.t 41]⟩] [1,2,6,10,32,33,34,35,36,37,38,39,40,41,42] []) (.seq (.block 1 (.loop b43_1)) (r43_2))))
def kp43_1:List Nat:=[0]
def kl43_1:List Nat:=[22,23,24,25,26,27,28,29,30,31]
attribute [push_cast] kp43_1 kl43_1
set_option maxRecDepth 4000 in
theorem comp43:(Try.f43.body.bind fun c => compC tab isP chkAll ir43 c) = some ir43:=by kernel_rfl
def normP:Nat→Int→Int→List Int × Int × Int
  | 0,l,h => ([],l,h)
  | n + 1,l,h => if l / 16777216 = h / 16777216 then (l / 16777216 :: (normP n (l % 16777216 * 256) (h % 16777216 * 256 + 255)).1,(normP n (l % 16777216 * 256) (h % 16777216 * 256 + 255)).2) else ([],l,h)
def pw256:Nat→Int
  | 0 => 4294967296
  | 1 => 16777216
  | 2 => 65536
  | 3 => 256
  | _ => 1
def nrm (n:Nat) (l h:Int):Prop:=n≤4∧0≤l∧l≤h∧h < 4294967296∧l % pw256 n = 0∧h % pw256 n = pw256 n - 1
theorem nrm_0 {l h:Int} (H:nrm 0 l h):¬ l / 16777216 = h / 16777216:=by
  obtain ⟨_,h1,h2,h3,h4,h5⟩:=H
  simp only [pw256] at h4 h5
  omega
theorem nrm_step {n:Nat} {l h:Int} (H:nrm (n + 1) l h) (e:l / 16777216 = h / 16777216):nrm n (l % 16777216 * 256) (h % 16777216 * 256 + 255):=by
  obtain ⟨h0,h1,h2,h3,h4,h5⟩:=H
  have hn:n = 0∨n = 1∨n = 2∨n = 3:=by omega
  rcases hn with rfl | rfl | rfl | rfl <;> simp only [pw256,nrm] at h4 h5 ⊢ <;> omega
theorem nrm_4 {l h:Int} (h0:0≤l) (h1:l≤h) (h2:h < 4294967296):nrm 4 l h:=⟨by omega,h0,h1,h2,by simp only [pw256]; omega,by simp only [pw256]; omega⟩
theorem norm_no (n:Nat) {l h:Int} (e:¬ l / 16777216 = h / 16777216):normP n l h = ([],l,h):=by
  cases n with
  | zero => rfl
  | succ n => rw [normP,if_neg e]
theorem norm_yes {n:Nat} {l h:Int} (e:l / 16777216 = h / 16777216):normP (n + 1) l h = (l / 16777216 :: (normP n (l % 16777216 * 256) (h % 16777216 * 256 + 255)).1,(normP n (l % 16777216 * 256) (h % 16777216 * 256 + 255)).2):=by
  rw [normP,if_pos e]
theorem norm_bd:∀ (n:Nat) {l h:Int},nrm n l h→(normP n l h).1.length≤n∧0≤(normP n l h).2.1∧(normP n l h).2.1 < (normP n l h).2.2∧(normP n l h).2.2 < 4294967296∧¬ (normP n l h).2.1 / 16777216 = (normP n l h).2.2 / 16777216
  | n,l,h,H => by
    by_cases e:l / 16777216 = h / 16777216
    · cases n with
      | zero => exact absurd e (nrm_0 H)
      | succ n =>
        have ih:=norm_bd n (nrm_step H e)
        rw [norm_yes e]
        simp only [List.length_cons]
        exact ⟨by omega,ih.2⟩
    · rw [norm_no n e]
      obtain ⟨h0,h1,h2,h3,h4,h5⟩:=H
      simp only [List.length_nil]
      refine ⟨by omega,h1,by omega,h3,e⟩
structure EnS where
  kind:Int
  st:List Int
  low:Int
  high:Int
  out:List Int
def ivOk2 (kind:Int) (st:List Int) (low high:Int):Prop:=stsOk kind st∧st.length≤1000000∧0≤low∧low < high∧high < 4294967296∧¬ low / 16777216 = high / 16777216
def EnS.ok (e:EnS):Prop:=ivOk2 e.kind e.st e.low e.high
def lowP (kind:Int) (st:List Int) (low high ctx bit:Int):Int:=if bit = 1 then low else midP low high (chP kind (rd st ctx)) + 1
def highP (kind:Int) (st:List Int) (low high ctx bit:Int):Int:=if bit = 1 then midP low high (chP kind (rd st ctx)) else high
theorem nrm_part {kind:Int} {st:List Int} {low high ctx bit:Int} (H:ivOk2 kind st low high) (h0:0≤ctx) (h1:ctx < st.length):nrm 4 (lowP kind st low high ctx bit) (highP kind st low high ctx bit):=by
  obtain ⟨a1,a2,a3,a4,a5,a6⟩:=H
  have hc:=chP_bd (a1.at h0 h1)
  have hb:=midP_bd a3 (Int.le_of_lt a4) a5 hc.1 hc.2
  unfold lowP highP
  split
  · exact nrm_4 a3 (by omega) (by omega)
  · exact nrm_4 (by omega) (by omega) a5
def putP (e:EnS) (ctx bit:Int):EnS :=
  ⟨e.kind,e.st.set ctx.toNat (nxP e.kind (rd e.st ctx) bit),(normP 4 (lowP e.kind e.st e.low e.high ctx bit) (highP e.kind e.st e.low e.high ctx bit)).2.1,(normP 4 (lowP e.kind e.st e.low e.high ctx bit) (highP e.kind e.st e.low e.high ctx bit)).2.2,e.out++(normP 4 (lowP e.kind e.st e.low e.high ctx bit) (highP e.kind e.st e.low e.high ctx bit)).1⟩
theorem putP_ok {e:EnS} {ctx bit:Int} (H:e.ok) (h0:0≤ctx) (h1:ctx < e.st.length) (hb:bit = 0∨bit = 1):(putP e ctx bit).ok∧(putP e ctx bit).out.length≤e.out.length + 4∧(putP e ctx bit).st.length = e.st.length∧(putP e ctx bit).kind = e.kind:=by
  have hn:=norm_bd 4 (nrm_part (bit:=bit) H h0 h1)
  obtain ⟨a1,a2,a3,a4,a5,a6⟩:=H
  unfold putP EnS.ok ivOk2
  simp only [List.length_set,List.length_append]
  exact ⟨⟨a1.set (nxP_ok (a1.at h0 h1) hb),a2,hn.2.1,hn.2.2.1,hn.2.2.2.1,hn.2.2.2.2⟩,by omega,trivial,trivial⟩
structure EnA where
  L:Xf.Loc
  LS:Xf.Loc
  LO:Xf.Loc
  e:EnS
  ctx:Int
  bit:Int
def enV (LS:Xf.Loc) (e:EnS) (d:Nat) (LO:Xf.Loc):List SV:=ivV e.kind LS e.st.length e.low e.high [.sl d LO 1 0 e.out.length,.bool true]
def enM (a:EnA):Mem:=[some (.ro,a.L,.cells (enV a.LS a.e 2 a.LO)),some (.ro,a.LS,.ints .i64 a.e.st),some (.ro,a.LO,.ints .u8 a.e.out)]
def rowO (look:Look) (e:Nat):Option (Xf.Loc × List Int) :=
  bif e == 4096 then some (nilLoc,[]) else match rowI (look e) with
    | some (L,.u8,xs) => some (L,xs)
    | _ => none
def invEn:List SV→Look→Option (EnA × List Nat)
  | .ptr c _ 0 0 0 :: us,look => match rowC (look c) with
    | some (L,.int .i64 kind :: .sl d LS 1 0 _ :: r) => match dropL r 32,rowI (look d) with
      | [.int .u64 low,.int .u64 high,.sl e _ 1 0 _,.bool true],some (_,.i64,st) => match rowO look e with
        | some (LO,out) => match us with
          | [] => some (⟨L,LS,LO,⟨kind,st,low,high,out⟩,0,0⟩,[c,d,e])
          | [.int .i64 ctx,.int .i64 bit] => some (⟨L,LS,LO,⟨kind,st,low,high,out⟩,ctx,bit⟩,[c,d,e])
          | _ => none
        | none => none
      | _,_ => none
    | _ => none
  | _,_ => none
attribute [push_cast] rowO invEn
def fs81:FS where
  A:=EnA
  args:=fun a => [.ptr 0 a.L 0 0 0]
  mem:=fun a => enM a
  pre:=fun a => True
  res:=fun a _ => .bool false
  out:=fun _ _ => []
  new:=fun _ _ => []
theorem ok81:FSOk Try.prog 81 fs81:=by
  refine ⟨⟨_,Try.func81,by kernel_rfl,by kernel_rfl⟩,fun a => ⟨by simp [fs81,enM,push_cast,noMine,argOwn,Chunk.frArg],by simp [fs81,enM,push_cast,outOk,Chunk.ext],fun x => .inl (by simp [fs81,enM,push_cast,frNew,frOut,Chunk.fr])⟩,fun a hp => ?_⟩
  obtain ⟨L,LS,LO,⟨kind,st,low,high,out⟩,ctx,bit⟩:=a
  change Tri Try.prog 81 [.ptr 0 L 0 0 0] (enM ⟨L,LS,LO,⟨kind,st,low,high,out⟩,ctx,bit⟩) (postF fs81 ⟨L,LS,LO,⟨kind,st,low,high,out⟩,ctx,bit⟩)
  refine tri_evS (hyp (l:=[]) (lp:=[]) trivial trivial) Try.func81 comp81 (rs:=[.tmp 2]) (by rfl) Try.ntmps81 10 ?_
  simp -implicitDefEqProofs only [push_cast,zz,BEq.rfl,ite_true,ite_false,List.append_nil,reduceCtorEq,Nat.reduceAdd,Nat.reduceSub,Nat.reduceMul,Nat.reduceLeDiff,Nat.reduceLT,Nat.reduceEqDiff,Nat.reduceBEq,Nat.reduceBNe,Int.reduceNeg,Int.reduceToNat,ir81,enM,enV,ivV]
  repeat (refine And.intro (by first | omega | trivial | (intros; omega)) ?_)
  refine postF.mk' (fun _ => default) [some 0,some 1,some 2] ?_
  simp -implicitDefEqProofs only [push_cast,zz,BEq.rfl,ite_true,ite_false,List.append_nil,reduceCtorEq,Nat.reduceAdd,Nat.reduceSub,Nat.reduceMul,Nat.reduceLeDiff,Nat.reduceLT,Nat.reduceEqDiff,Nat.reduceBEq,Nat.reduceBNe,Int.reduceNeg,Int.reduceToNat,fs81,enM,enV,ivV]
def ent81:Entry:=spOf fs81 invEn
theorem e81:EntryOk Try.prog 81 ent81:=entry_of ok81 invEn
@[push_cast] theorem ent81_app (us:List SV) (look:Look) (x:Nat→Xf.Loc) (k:Nat):ent81 us look x k = spOf fs81 invEn us look x k:=rfl
def fs43:FS where
  A:=EnA
  args:=fun a => [.ptr 0 a.L 0 0 0,.int .i64 a.ctx,.int .i64 a.bit]
  mem:=fun a => [some (.lent,a.L,.cells (enV a.LS a.e 2 a.LO)),some (.lent,a.LS,.ints .i64 a.e.st),some (.lent,a.LO,.ints .u8 a.e.out)]
  pre:=fun a => a.e.ok∧0≤a.ctx∧a.ctx < a.e.st.length∧(a.bit = 0∨a.bit = 1)∧a.e.out.length≤100000000
  res:=fun a _ => .int .i64 0
  out:=fun a x => [some (some (.cells (enV a.LS (putP a.e a.ctx a.bit) 3 (x 0)))),some (some (.ints .i64 (putP a.e a.ctx a.bit).st)),some none]
  new:=fun a x => [(x 0,.ints .u8 (putP a.e a.ctx a.bit).out)]
  newGot:=true
set_option maxHeartbeats 1000000 in
theorem ok43:FSOk Try.prog 43 fs43:=by
  refine ⟨⟨_,Try.func43,by kernel_rfl,by kernel_rfl⟩,fun a => ⟨by simp [fs43,enV,ivV,push_cast,noMine,argOwn,Chunk.frArg],by simp [fs43,enV,ivV,push_cast,outOk,Chunk.ext],fun x => .inl (by simp [fs43,enV,ivV,push_cast,frNew,frOut,Chunk.fr])⟩,fun a hp => ?_⟩
  obtain ⟨L,LS,LO,⟨kind,st,low,high,out⟩,ctx,bit⟩:=a
  obtain ⟨h1,h2,h3,h4,h5⟩:ivOk2 kind st low high∧0≤ctx∧ctx < st.length∧(bit = 0∨bit = 1)∧out.length≤100000000:=hp
  have hn:=nrm_part (bit:=bit) h1 h2 h3
  obtain ⟨E,hE⟩:∃ E,putP ⟨kind,st,low,high,out⟩ ctx bit = E:=⟨_,rfl⟩
  have hE1:E.kind = kind:=by rw [← hE]; rfl
  have hE2:E.st = st.set ctx.toNat (nxP kind (rd st ctx) bit):=by rw [← hE]; rfl
  have hE3:(out++(normP 4 (lowP kind st low high ctx bit) (highP kind st low high ctx bit)).1,(normP 4 (lowP kind st low high ctx bit) (highP kind st low high ctx bit)).2) = (E.out,E.low,E.high):=by rw [← hE]; rfl
  have hl0:(if bit = 1 then low else midP low high (chP kind (rd st ctx)) + 1) = lowP kind st low high ctx bit:=rfl
  have hh0:(if bit = 1 then midP low high (chP kind (rd st ctx)) else high) = highP kind st low high ctx bit:=rfl
  have hok:(⟨L,LS,kind,st,low,high,[.sl 2 LO 1 0 out.length,.bool true],ctx,bit⟩:IvA).ok:=⟨h1.1,h1.2.1,h1.2.2.1,h1.2.2.2.1,h1.2.2.2.2.1⟩
  simp only [IvA.ok] at hok
  change Tri Try.prog 43 [.ptr 0 L 0 0 0,.int .i64 ctx,.int .i64 bit] [some (.lent,L,.cells (enV LS ⟨kind,st,low,high,out⟩ 2 LO)),some (.lent,LS,.ints .i64 st),some (.lent,LO,.ints .u8 out)] (postF fs43 ⟨L,LS,LO,⟨kind,st,low,high,out⟩,ctx,bit⟩)
  refine tri_evS (hyp (l:=[(81,ent81),(66,ent66),(67,ent67),(68,ent68),(69,ent69)]) (lp:=[]) ⟨e81,e66,e67,e68,e69,trivial⟩ trivial) Try.func43 comp43 (rs:=[.tmp 6]) (by rfl) Try.ntmps43 32 ?_
  have c1:¬ ctx < 0:=by omega
  have c2:¬ (st.length:Int)≤ctx:=by omega
  have c3:¬ (¬ bit = 0∧¬ bit = 1):=by omega
  simp -implicitDefEqProofs only [push_cast,zz,BEq.rfl,ite_true,ite_false,List.append_nil,reduceCtorEq,Nat.reduceAdd,Nat.reduceSub,Nat.reduceMul,Nat.reduceLeDiff,Nat.reduceLT,Nat.reduceEqDiff,Nat.reduceBEq,Nat.reduceBNe,Int.reduceNeg,Int.reduceToNat,ir43,enV,ivV,fs81,fs66,fs67,enM,c1,c2,c3,h2,h3,h4,IvA.ok,hok,hl0,hh0]
  obtain ⟨l0,hll⟩:∃ l,lowP kind st low high ctx bit = l:=⟨_,rfl⟩
  obtain ⟨g0,hgg⟩:∃ l,highP kind st low high ctx bit = l:=⟨_,rfl⟩
  obtain ⟨S,hSS⟩:∃ l,st.set ctx.toNat (nxP kind (rd st ctx) bit) = l:=⟨_,rfl⟩
  have hSl:S.length = st.length:=by rw [← hSS,List.length_set]
  rw [hll,hgg] at hn hE3 ⊢
  rw [hSS] at hE2 ⊢
  refine evS_loopU (A:=Nat × Xf.Loc × Int × Int × List Int) kp43_1 kl43_1 (fun y => []) (fun y => [(0,.lent,L,.cells (ivV kind LS st.length y.2.2.1 y.2.2.2.1 [.sl 2 y.2.1 1 0 y.2.2.2.2.length,.bool true])),(2,.got,y.2.1,.ints .u8 y.2.2.2.2)])
    (fun y => nrm y.1 y.2.2.1 y.2.2.2.1∧(y.2.2.2.2++(normP y.1 y.2.2.1 y.2.2.2.1).1,(normP y.1 y.2.2.1 y.2.2.2.1).2) = (E.out,E.low,E.high)∧y.2.2.2.2.length + y.1≤100000004) (fun y => y.1) (4,LO,l0,g0,out) ⟨hn,hE3,by simp only; omega⟩ (Sub.pt ?_) ?_
  · simp -implicitDefEqProofs only [push_cast,zz,BEq.rfl,ite_true,ite_false,List.append_nil,reduceCtorEq,Nat.reduceAdd,Nat.reduceSub,Nat.reduceMul,Nat.reduceLeDiff,Nat.reduceLT,Nat.reduceEqDiff,Nat.reduceBEq,Nat.reduceBNe,Int.reduceNeg,Int.reduceToNat,ivV]
  intro ⟨n,M,l,g,o⟩ ⟨(hn:nrm n l g),(he:(o++(normP n l g).1,(normP n l g).2) = (E.out,E.low,E.high)),(ho:o.length + n≤100000004)⟩ K hK
  obtain ⟨n0,n1,n2,n3,n4,n5⟩:=id hn
  by_cases e:l / 16777216 = g / 16777216
  · cases n with
    | zero => exact absurd e (nrm_0 hn)
    | succ n =>
      have hs:=nrm_step hn e
      rw [norm_yes e] at he
      have he':((o++[l / 16777216])++(normP n (l % 16777216 * 256) (g % 16777216 * 256 + 255)).1,(normP n (l % 16777216 * 256) (g % 16777216 * 256 + 255)).2) = (E.out,E.low,E.high):=by
        rw [← he,List.append_assoc]; rfl
      have hb:0≤l∧l < 4294967296∧0≤g∧g < 4294967296:=by omega
      rw [e] at he'
      simp -implicitDefEqProofs only [push_cast,zz,BEq.rfl,ite_true,ite_false,List.append_nil,reduceCtorEq,Nat.reduceAdd,Nat.reduceSub,Nat.reduceMul,Nat.reduceLeDiff,Nat.reduceLT,Nat.reduceEqDiff,Nat.reduceBEq,Nat.reduceBNe,Int.reduceNeg,Int.reduceToNat,b43_1,ivV,fs68,fs69,e,hb,hSl]
      intro X
      repeat (refine And.intro (by first | omega | trivial | (intros; omega)) ?_)
      refine hK (n,X 10 31,l % 16777216 * 256,g % 16777216 * 256 + 255,o++[g / 16777216]) ⟨hs,he',by simp only [List.length_append,List.length_singleton]; omega⟩ (Nat.lt_succ_self n) _ _ (Sub.of (mkG 40 [(0,0),(1,1),(2,31)]) ?_)
      simp -implicitDefEqProofs only [push_cast,zz,BEq.rfl,ite_true,ite_false,List.append_nil,reduceCtorEq,Nat.reduceAdd,Nat.reduceSub,Nat.reduceMul,Nat.reduceLeDiff,Nat.reduceLT,Nat.reduceEqDiff,Nat.reduceBEq,Nat.reduceBNe,Int.reduceNeg,Int.reduceToNat,ivV,List.length_append]
  · rw [norm_no n e,List.append_nil] at he
    have e1:E.out = o:=(congrArg Prod.fst he).symm
    have e2:E.low = l:=(congrArg (fun x => x.2.1) he).symm
    have e3:E.high = g:=(congrArg (fun x => x.2.2) he).symm
    clear hK
    simp -implicitDefEqProofs only [push_cast,zz,BEq.rfl,ite_true,ite_false,List.append_nil,reduceCtorEq,Nat.reduceAdd,Nat.reduceSub,Nat.reduceMul,Nat.reduceLeDiff,Nat.reduceLT,Nat.reduceEqDiff,Nat.reduceBEq,Nat.reduceBNe,Int.reduceNeg,Int.reduceToNat,b43_1,r43_2,ivV,fs68,e,hSl]
    refine postF.mk' (fun _ => M) [some 0,some 1,none,some 2] ?_
    simp -implicitDefEqProofs only [push_cast,zz,BEq.rfl,ite_true,ite_false,List.append_nil,reduceCtorEq,Nat.reduceAdd,Nat.reduceSub,Nat.reduceMul,Nat.reduceLeDiff,Nat.reduceLT,Nat.reduceEqDiff,Nat.reduceBEq,Nat.reduceBNe,Int.reduceNeg,Int.reduceToNat,fs43,enV,ivV,hE,hE1,hE2,e1,e2,e3,hSl]
def ent43:Entry:=spOf fs43 invEn
theorem e43:EntryOk Try.prog 43 ent43:=entry_of ok43 invEn
@[push_cast] theorem ent43_app (us:List SV) (look:Look) (x:Nat→Xf.Loc) (k:Nat):ent43 us look x k = spOf fs43 invEn us look x k:=rfl
def ir70:IR :=
  .seq (.reg false [⟨some 1,none,⟨[],[]⟩,.box 10 (.t 0)⟩,
    ⟨some 2,none,⟨[],[]⟩,.alloc 11 [.int .i64 0,nilSV]⟩] [0] []) (.seq (.reg true [⟨some 3,none,⟨[],[]⟩,.fld (.t 1) 0⟩,
    ⟨some 4,none,⟨[12,13],[]⟩,.ld false none 0 0 (.t 3)⟩,
    ⟨some 5,none,⟨[],[]⟩,.bslice 12 []⟩,
    ⟨some 6,none,⟨[],[]⟩,.fld (.t 1) 1⟩,
    ⟨some 7,none,⟨[12],[]⟩,.ld false none 0 0 (.t 6)⟩,
    ⟨some 8,none,⟨[],[]⟩,.app 13 1 8 (.t 5) (.t 7)⟩,
    ⟨some 9,none,⟨[],[]⟩,.build [.int .i64 0,nilSV] [(0,1,.t 4),(1,1,.t 8)]⟩,
    ⟨none,none,⟨[],[]⟩,.sto false 2 .i64 (.t 2) (.t 9)⟩] [1,3,4,5,6,7,8,9] []) (.ret))
set_option maxRecDepth 4000 in
theorem comp70:(Try.f70.body.bind fun c => compC tab isP chkAll ir70 c) = some ir70:=by kernel_rfl
def b55_1:IR :=
  .seq (.reg false [⟨some 27,none,⟨[],[]⟩,.bin 0 .lss (.t 26) (.t 25)⟩] [] []) (.seq (.cond (.t 27) (.skip) (.exit 0)) (.seq (.block 1 (.seq (.reg false [⟨some 28,none,⟨[],[]⟩,.idxS (.t 24) (.t 26) 1⟩,
    ⟨some 29,none,⟨[],[]⟩,.ld true none 0 0 (.t 28)⟩,
    ⟨some 5,none,⟨[],[]⟩,.mov (.t 29)⟩] [27,28,29] []) (.seq (.reg false [⟨some 30,none,⟨[],[]⟩,.mov (.t 5)⟩,
    ⟨some 31,none,⟨[],[]⟩,.bin 0 .lss (.t 30) (.k (.int .i64 0))⟩,
    ⟨some 32,none,⟨[],[]⟩,.mov (.t 31)⟩,
    ⟨some 33,some (32,false),⟨[],[]⟩,.mov (.t 5)⟩,
    ⟨some 34,some (32,false),⟨[],[]⟩,.mov (.t 3)⟩,
    ⟨some 35,some (32,false),⟨[],[]⟩,.bin 0 .geq (.t 33) (.t 34)⟩,
    ⟨some 36,none,⟨[],[]⟩,.pick (.t 32) (.k (.bool true)) (.t 35)⟩] [5,30,31,32,33,34,35] []) (.cond (.t 36) (.seq (.reg false [⟨some 2,none,⟨[],[]⟩,.mov (.k (.bool false))⟩] [3,24,25,26,36] []) (.ret)) (.skip))))) (.reg false [⟨some 37,none,⟨[],[]⟩,.bin 0 .add (.t 26) (.k (.int .i64 1))⟩,
    ⟨some 26,none,⟨[],[]⟩,.mov (.t 37)⟩] [2,36,37] [])))
def r55_2:IR :=
  .seq (.reg false [⟨some 2,none,⟨[],[]⟩,.mov (.k (.bool true))⟩] [3,24,25,26] []) (.ret)
def ir55:IR :=
  .seq (.reg false [⟨some 1,none,⟨[],[]⟩,.box 10 (.t 0)⟩,
    ⟨some 2,none,⟨[],[]⟩,.mov (.k (.bool false))⟩] [0,2] []) (.seq (.seq (.reg false [⟨some 6,none,⟨[],[]⟩,.fld (.t 1) 0⟩,
    ⟨some 7,none,⟨[],[]⟩,.ld false none 0 0 (.t 6)⟩,
    ⟨some 8,none,⟨[],[]⟩,.bin 0 .neq (.t 7) (.k (.int .i64 0))⟩,
    ⟨some 9,none,⟨[],[]⟩,.mov (.t 8)⟩,
    ⟨some 10,some (9,true),⟨[],[]⟩,.fld (.t 1) 0⟩,
    ⟨some 11,some (9,true),⟨[],[]⟩,.ld false none 0 0 (.t 10)⟩,
    ⟨some 12,some (9,true),⟨[],[]⟩,.bin 0 .neq (.t 11) (.k (.int .i64 1))⟩,
    ⟨some 13,none,⟨[],[]⟩,.pick (.t 9) (.t 12) (.k (.bool false))⟩,
    ⟨some 14,none,⟨[],[]⟩,.mov (.t 13)⟩,
    ⟨some 15,some (14,false),⟨[],[]⟩,.fld (.t 1) 1⟩,
    ⟨some 16,some (14,false),⟨[],[]⟩,.ld false none 0 0 (.t 15)⟩,
    ⟨some 17,some (14,false),⟨[],[]⟩,.len (.t 16)⟩,
    ⟨some 18,some (14,false),⟨[],[]⟩,.bin 0 .gtr (.t 17) (.k (.int .i64 8192))⟩,
    ⟨some 19,none,⟨[],[]⟩,.pick (.t 14) (.k (.bool true)) (.t 18)⟩] [6,7,8,9,10,11,12,13,14,15,16,17,18] []) (.cond (.t 19) (.seq (.reg false [⟨some 2,none,⟨[],[]⟩,.mov (.k (.bool false))⟩] [1,19] []) (.ret)) (.skip))) (.seq (.reg false [⟨some 3,none,⟨[],[]⟩,.mov (.k (.int .i64 64))⟩] [2,19] []) (.seq (.seq (.reg false [⟨some 20,none,⟨[],[]⟩,.fld (.t 1) 0⟩,
    ⟨some 21,none,⟨[],[]⟩,.ld false none 0 0 (.t 20)⟩,
    ⟨some 22,none,⟨[],[]⟩,.bin 0 .eql (.t 21) (.k (.int .i64 1))⟩] [20,21] []) (.cond (.t 22) (.reg false [⟨some 3,none,⟨[],[]⟩,.mov (.k (.int .i64 65536))⟩] [22] []) (.skip))) (.seq (.seq (.reg false [⟨some 23,none,⟨[],[]⟩,.fld (.t 1) 1⟩,
    ⟨some 24,none,⟨[],[]⟩,.ld false none 0 0 (.t 23)⟩,
    ⟨some 25,none,⟨[],[]⟩,.len (.t 24)⟩,
    ⟨some 26,none,⟨[],[]⟩,.mov (.k (.int .i64 0))⟩] [1,22,23] []) (.block 0 (.loop b55_1))) (r55_2)))))
def kp55_1:List Nat:=[3,24,25,26]
def kl55_1:List Nat:=[]
attribute [push_cast] kp55_1 kl55_1
set_option maxRecDepth 4000 in
theorem comp55:(Try.f55.body.bind fun c => compC tab isP chkAll ir55 c) = some ir55:=by kernel_rfl
def ir56:IR :=
  .seq (.reg false [⟨some 1,none,⟨[],[]⟩,.box 10 (.t 0)⟩,
    ⟨some 2,none,⟨[],[]⟩,.alloc 11 [.int .i64 0,nilSV,.int .i64 0,.int .i64 0,.int .i64 0,.int .i64 0,.int .i64 0,.int .i64 0,.int .i64 0,.int .i64 0,.int .i64 0,.int .i64 0,.int .i64 0,.int .i64 0,.int .i64 0,.int .i64 0,.int .i64 0,.int .i64 0,.int .i64 0,.int .i64 0,.int .i64 0,.int .i64 0,.int .i64 0,.int .i64 0,.int .i64 0,.int .i64 0,.int .i64 0,.int .i64 0,.int .i64 0,.int .i64 0,.int .i64 0,.int .i64 0,.int .i64 0,.int .i64 0,.int .u64 0,.int .u64 0]⟩] [0] []) (.seq (.reg false [⟨some 3,none,⟨[],[]⟩,.ld false (some 2) 0 0 (.t 1)⟩,
    ⟨some 4,none,⟨[],[]⟩,.call (some 4) 12 70 [.t 3]⟩,
    ⟨some 5,none,⟨[],[]⟩,.callp 91 []⟩,
    ⟨some 6,none,⟨[],[]⟩,.build [.int .i64 0,nilSV,.int .i64 0,.int .i64 0,.int .i64 0,.int .i64 0,.int .i64 0,.int .i64 0,.int .i64 0,.int .i64 0,.int .i64 0,.int .i64 0,.int .i64 0,.int .i64 0,.int .i64 0,.int .i64 0,.int .i64 0,.int .i64 0,.int .i64 0,.int .i64 0,.int .i64 0,.int .i64 0,.int .i64 0,.int .i64 0,.int .i64 0,.int .i64 0,.int .i64 0,.int .i64 0,.int .i64 0,.int .i64 0,.int .i64 0,.int .i64 0,.int .i64 0,.int .i64 0,.int .u64 0,.int .u64 0] [(0,2,.t 4),(2,32,.t 5),(35,1,.k (.int .u64 4294967295))]⟩,
    ⟨none,none,⟨[],[]⟩,.sto false 36 .i64 (.t 2) (.t 6)⟩] [1,3,4,5,6] []) (.ret))
set_option maxRecDepth 4000 in
theorem comp56:(Try.f56.body.bind fun c => compC tab isP chkAll ir56 c) = some ir56:=by kernel_rfl
def ir41:IR :=
  .seq (.reg false [⟨some 1,none,⟨[],[]⟩,.box 10 (.t 0)⟩,
    ⟨some 2,none,⟨[],[]⟩,.mov (.k nilP)⟩,
    ⟨some 3,none,⟨[],[]⟩,.mov (.k (.int .i64 0))⟩] [0,2,3] []) (.seq (.seq (.reg false [⟨some 4,none,⟨[],[]⟩,.ld false (some 2) 0 0 (.t 1)⟩,
    ⟨some 5,none,⟨[],[]⟩,.call (some 4) 11 55 [.t 4]⟩,
    ⟨some 6,none,⟨[],[]⟩,.not (.t 5)⟩] [4,5] []) (.cond (.t 6) (.seq (.reg false [⟨some 2,none,⟨[],[]⟩,.mov (.k nilP)⟩,
    ⟨some 3,none,⟨[],[]⟩,.mov (.k (.int .i64 10))⟩] [1,6] []) (.ret)) (.skip))) (.seq (.reg false [⟨some 7,none,⟨[],[]⟩,.ld false (some 2) 0 0 (.t 1)⟩,
    ⟨some 8,none,⟨[],[]⟩,.call (some 4) 15 56 [.t 7]⟩,
    ⟨some 9,none,⟨[],[]⟩,.build [.int .i64 0,nilSV,.int .i64 0,.int .i64 0,.int .i64 0,.int .i64 0,.int .i64 0,.int .i64 0,.int .i64 0,.int .i64 0,.int .i64 0,.int .i64 0,.int .i64 0,.int .i64 0,.int .i64 0,.int .i64 0,.int .i64 0,.int .i64 0,.int .i64 0,.int .i64 0,.int .i64 0,.int .i64 0,.int .i64 0,.int .i64 0,.int .i64 0,.int .i64 0,.int .i64 0,.int .i64 0,.int .i64 0,.int .i64 0,.int .i64 0,.int .i64 0,.int .i64 0,.int .i64 0,.int .u64 0,.int .u64 0,nilSV,.bool false] [(0,36,.t 8),(37,1,.k (.bool true))]⟩,
    ⟨some 10,none,⟨[],[]⟩,.box 19 (.t 9)⟩,
    ⟨some 2,none,⟨[],[]⟩,.mov (.t 10)⟩,
    ⟨some 3,none,⟨[],[]⟩,.mov (.k (.int .i64 0))⟩] [1,6,7,8,9,10] []) (.ret)))
set_option maxRecDepth 4000 in
theorem comp41:(Try.f41.body.bind fun c => compC tab isP chkAll ir41 c) = some ir41:=by kernel_rfl
def ir44:IR :=
  .seq (.reg false [⟨some 2,none,⟨[],[]⟩,.alloc 10 [.int .i64 0,nilSV]⟩] [] []) (.seq (.seq (.reg false [⟨some 3,none,⟨[],[]⟩,.mov (.t 0)⟩,
    ⟨some 4,none,⟨[],[]⟩,.call (some 4) 11 81 [.t 3]⟩] [3] []) (.cond (.t 4) (.seq (.reg false [⟨some 5,none,⟨[],[]⟩,.build [.int .i64 0,nilSV] []⟩,
    ⟨none,none,⟨[],[]⟩,.sto false 2 .i64 (.t 2) (.t 5)⟩] [0,4,5] []) (.ret)) (.skip))) (.seq (.reg false [⟨some 6,none,⟨[],[]⟩,.mov (.t 0)⟩,
    ⟨some 7,none,⟨[],[]⟩,.nilc (.t 6)⟩,
    ⟨some 8,none,⟨[],[]⟩,.fld (.t 7) 0⟩,
    ⟨some 9,none,⟨[],[]⟩,.fld (.t 8) 0⟩,
    ⟨some 10,none,⟨[],[]⟩,.ld false (some 2) 0 0 (.t 9)⟩,
    ⟨some 11,none,⟨[],[]⟩,.call (some 4) 15 70 [.t 10]⟩,
    ⟨none,none,⟨[],[]⟩,.sto false 2 .i64 (.t 2) (.t 11)⟩] [0,4,6,7,8,9,10,11] []) (.ret)))
set_option maxRecDepth 4000 in
theorem comp44:(Try.f44.body.bind fun c => compC tab isP chkAll ir44 c) = some ir44:=by kernel_rfl
def b45_2:IR :=
  .seq (.reg false [⟨some 39,none,⟨[],[]⟩,.bin 0 .lss (.t 38) (.t 37)⟩] [] []) (.seq (.cond (.t 39) (.skip) (.exit 2)) (.seq (.block 3 (.seq (.reg false [⟨some 40,none,⟨[],[]⟩,.mov (.t 38)⟩,
    ⟨some 6,none,⟨[],[]⟩,.mov (.t 40)⟩] [39,40] []) (.reg false [⟨some 41,none,⟨[],[]⟩,.mov (.t 3)⟩,
    ⟨some 42,none,⟨[],[]⟩,.mov (.t 0)⟩,
    ⟨some 43,none,⟨[],[]⟩,.nilc (.t 42)⟩,
    ⟨some 44,none,⟨[],[]⟩,.fld (.t 43) 0⟩,
    ⟨some 45,none,⟨[],[]⟩,.fld (.t 44) 35⟩,
    ⟨some 46,none,⟨[],[]⟩,.ld false none 0 0 (.t 45)⟩,
    ⟨some 47,none,⟨[],[]⟩,.mov (.t 6)⟩,
    ⟨some 48,none,⟨[],[]⟩,.bin 0 .mul (.k (.int .i64 8)) (.t 47)⟩,
    ⟨some 49,none,⟨[],[]⟩,.bin 0 .sub (.k (.int .i64 24)) (.t 48)⟩,
    ⟨some 50,none,⟨[],[]⟩,.bin 0 .shr (.t 46) (.t 49)⟩,
    ⟨some 51,none,⟨[],[]⟩,.cvt 1 .u8 (.t 50)⟩,
    ⟨some 52,none,⟨[],[]⟩,.bslice 16 [.t 51]⟩,
    ⟨some 53,none,⟨[],[]⟩,.app 17 1 1 (.t 41) (.t 52)⟩,
    ⟨some 3,none,⟨[],[]⟩,.mov (.t 53)⟩] [6,41,42,43,44,45,46,47,48,49,50,51,52,53] []))) (.reg false [⟨some 54,none,⟨[],[]⟩,.bin 0 .add (.t 38) (.k (.int .i64 1))⟩,
    ⟨some 38,none,⟨[],[]⟩,.mov (.t 54)⟩] [54] [])))
def r45_3:IR :=
  .seq (.reg false [⟨some 55,none,⟨[],[]⟩,.mov (.t 3)⟩,
    ⟨some 2,none,⟨[],[]⟩,.mov (.t 55)⟩] [0,3,37,38,55] []) (.ret)
def r45_4:IR :=
  .reg false [⟨some 56,none,⟨[],[]⟩,.bin 0 .add (.t 15) (.k (.int .i64 1))⟩,
    ⟨some 15,none,⟨[],[]⟩,.mov (.t 56)⟩] [2,4,36,56] []
def b45_1:IR :=
  .seq (.reg false [⟨some 16,none,⟨[],[]⟩,.bin 0 .lss (.t 15) (.k (.int .i64 5))⟩] [] []) (.seq (.cond (.t 16) (.skip) (.exit 0)) (.seq (.block 1 (.seq (.reg false [⟨some 17,none,⟨[],[]⟩,.mov (.t 15)⟩,
    ⟨some 4,none,⟨[],[]⟩,.mov (.t 17)⟩] [16,17] []) (.seq (.reg false [⟨some 18,none,⟨[],[]⟩,.mov (.t 4)⟩,
    ⟨some 19,none,⟨[],[]⟩,.bin 0 .mul (.k (.int .i64 8)) (.t 18)⟩,
    ⟨some 20,none,⟨[],[]⟩,.bin 0 .sub (.k (.int .i64 32)) (.t 19)⟩,
    ⟨some 21,none,⟨[],[]⟩,.cvt 0 .u64 (.t 20)⟩,
    ⟨some 5,none,⟨[],[]⟩,.mov (.t 21)⟩] [18,19,20,21] []) (.seq (.reg true [⟨some 22,none,⟨[],[]⟩,.mov (.t 0)⟩,
    ⟨some 23,none,⟨[],[]⟩,.nilc (.t 22)⟩,
    ⟨some 24,none,⟨[],[]⟩,.fld (.t 23) 0⟩,
    ⟨some 25,none,⟨[],[]⟩,.fld (.t 24) 35⟩,
    ⟨some 26,none,⟨[],[]⟩,.ld false none 0 0 (.t 25)⟩,
    ⟨some 27,none,⟨[],[]⟩,.mov (.t 5)⟩,
    ⟨some 28,none,⟨[],[]⟩,.bin 0 .shr (.t 26) (.t 27)⟩,
    ⟨some 29,none,⟨[],[]⟩,.mov (.t 5)⟩,
    ⟨some 30,none,⟨[],[]⟩,.bin 0 .shl (.t 28) (.t 29)⟩,
    ⟨some 31,none,⟨[],[]⟩,.mov (.t 0)⟩,
    ⟨some 32,none,⟨[],[]⟩,.nilc (.t 31)⟩,
    ⟨some 33,none,⟨[],[]⟩,.fld (.t 32) 0⟩,
    ⟨some 34,none,⟨[],[]⟩,.fld (.t 33) 34⟩,
    ⟨some 35,none,⟨[],[]⟩,.ld false none 0 0 (.t 34)⟩,
    ⟨some 36,none,⟨[],[]⟩,.bin 0 .geq (.t 30) (.t 35)⟩] [5,22,23,24,25,26,27,28,29,30,31,32,33,34,35] []) (.cond (.t 36) (.seq (.seq (.reg false [⟨some 37,none,⟨[],[]⟩,.mov (.t 4)⟩,
    ⟨some 38,none,⟨[],[]⟩,.mov (.k (.int .i64 0))⟩] [4,15,36] []) (.block 2 (.loop b45_2))) (r45_3)) (.skip)))))) (r45_4)))
def r45_5:IR :=
  .seq (.reg false [⟨some 57,none,⟨[],[]⟩,.mov (.t 3)⟩,
    ⟨some 2,none,⟨[],[]⟩,.mov (.t 57)⟩] [0,3,15,57] []) (.ret)
def ir45:IR :=
  .seq (.reg false [⟨some 2,none,⟨[],[]⟩,.mov (.k nilSV)⟩] [2] []) (.seq (.seq (.reg false [⟨some 7,none,⟨[],[]⟩,.mov (.t 0)⟩,
    ⟨some 8,none,⟨[],[]⟩,.call (some 4) 10 81 [.t 7]⟩] [7] []) (.cond (.t 8) (.seq (.reg false [⟨some 2,none,⟨[],[]⟩,.mov (.k nilSV)⟩] [0,8] []) (.ret)) (.skip))) (.seq (.reg false [⟨some 9,none,⟨[],[]⟩,.bslice 14 []⟩,
    ⟨some 10,none,⟨[],[]⟩,.mov (.t 0)⟩,
    ⟨some 11,none,⟨[],[]⟩,.nilc (.t 10)⟩,
    ⟨some 12,none,⟨[],[]⟩,.fld (.t 11) 36⟩,
    ⟨some 13,none,⟨[],[]⟩,.ld false none 0 0 (.t 12)⟩,
    ⟨some 14,none,⟨[],[]⟩,.app 15 1 1 (.t 9) (.t 13)⟩,
    ⟨some 3,none,⟨[],[]⟩,.mov (.t 14)⟩] [2,8,9,10,11,12,13,14] []) (.seq (.seq (.reg false [⟨some 15,none,⟨[],[]⟩,.mov (.k (.int .i64 0))⟩] [] []) (.block 0 (.loop b45_1))) (r45_5))))
def kp45_2:List Nat:=[0,3,37,38]
def kl45_2:List Nat:=[16,17]
attribute [push_cast] kp45_2 kl45_2
def kp45_1:List Nat:=[0,3,15]
def kl45_1:List Nat:=[16,17]
attribute [push_cast] kp45_1 kl45_1
set_option maxRecDepth 4000 in
theorem comp45:(Try.f45.body.bind fun c => compC tab isP chkAll ir45 c) = some ir45:=by kernel_rfl
structure MdA where
  L:Xf.Loc
  kind:Int
  st:List Int
def mdM (a:MdA):Mem:=[some (.ro,a.L,.ints .i64 a.st)]
def invMd:List SV→Look→Option (MdA × List Nat)
  | .agg [.int .i64 kind,.sl c _ 1 0 _] :: _,look => match rowI (look c) with
    | some (L,.i64,st) => some (⟨L,kind,st⟩,[c])
    | _ => none
  | _,_ => none
attribute [push_cast] invMd
def mdOk (kind:Int) (st:List Int):Prop:=stsOk kind st∧st.length≤8192
def fs70:FS where
  A:=MdA
  args:=fun a => [.agg [.int .i64 a.kind,.sl 0 a.L 1 0 a.st.length]]
  mem:=mdM
  pre:=fun a => a.st.length≤1000000
  res:=fun a x => .agg [.int .i64 a.kind,.sl 1 (x 0) 1 0 a.st.length]
  out:=fun _ _ => []
  new:=fun a x => [(x 0,.ints .i64 a.st)]
theorem ok70:FSOk Try.prog 70 fs70:=by
  refine ⟨⟨_,Try.func70,by kernel_rfl,by kernel_rfl⟩,fun a => ⟨by simp [fs70,mdM,push_cast,noMine,argOwn,Chunk.frArg],by simp [fs70,mdM,push_cast,outOk,Chunk.ext],fun x => .inl (by simp [fs70,mdM,push_cast,frNew,frOut,Chunk.fr])⟩,fun a hp => ?_⟩
  obtain ⟨L,kind,st⟩:=a
  have hp:st.length≤1000000:=hp
  change Tri Try.prog 70 [.agg [.int .i64 kind,.sl 0 L 1 0 st.length]] [some (.ro,L,.ints .i64 st)] (postF fs70 ⟨L,kind,st⟩)
  refine tri_evS (hyp (l:=[]) (lp:=[]) trivial trivial) Try.func70 comp70 (rs:=[.cell 2 (some 2)]) (by rfl) Try.ntmps70 14 ?_
  simp -implicitDefEqProofs only [push_cast,zz,BEq.rfl,ite_true,ite_false,List.append_nil,reduceCtorEq,Nat.reduceAdd,Nat.reduceSub,Nat.reduceMul,Nat.reduceLeDiff,Nat.reduceLT,Nat.reduceEqDiff,Nat.reduceBEq,Nat.reduceBNe,Int.reduceNeg,Int.reduceToNat,ir70]
  intro X X1
  repeat (refine And.intro (by first | omega | trivial | (intros; omega)) ?_)
  refine postF.mk' (fun _ => X1 5 13) [some 0,some 13] ?_
  simp -implicitDefEqProofs only [push_cast,zz,BEq.rfl,ite_true,ite_false,List.append_nil,reduceCtorEq,Nat.reduceAdd,Nat.reduceSub,Nat.reduceMul,Nat.reduceLeDiff,Nat.reduceLT,Nat.reduceEqDiff,Nat.reduceBEq,Nat.reduceBNe,Int.reduceNeg,Int.reduceToNat,fs70,mdM]
def ent70:Entry:=spOf fs70 invMd
theorem e70:EntryOk Try.prog 70 ent70:=entry_of ok70 invMd
@[push_cast] theorem ent70_app (us:List SV) (look:Look) (x:Nat→Xf.Loc) (k:Nat):ent70 us look x k = spOf fs70 invMd us look x k:=rfl
def fs55:FS where
  A:=MdA
  args:=fun a => [.agg [.int .i64 a.kind,.sl 0 a.L 1 0 a.st.length]]
  mem:=mdM
  pre:=fun a => mdOk a.kind a.st
  res:=fun a _ => .bool true
  out:=fun _ _ => []
  new:=fun _ _ => []
theorem ok55:FSOk Try.prog 55 fs55:=by
  refine ⟨⟨_,Try.func55,by kernel_rfl,by kernel_rfl⟩,fun a => ⟨by simp [fs55,mdM,push_cast,noMine,argOwn,Chunk.frArg],by simp [fs55,mdM,push_cast,outOk,Chunk.ext],fun x => .inl (by simp [fs55,mdM,push_cast,frNew,frOut,Chunk.fr])⟩,fun a hp => ?_⟩
  obtain ⟨L,kind,st⟩:=a
  obtain ⟨⟨h1,h2⟩,h3⟩:((kind = 0∨kind = 1)∧∀ s ∈ st,sttOk kind s)∧st.length≤8192:=hp
  change Tri Try.prog 55 [.agg [.int .i64 kind,.sl 0 L 1 0 st.length]] [some (.ro,L,.ints .i64 st)] (postF fs55 ⟨L,kind,st⟩)
  refine tri_evS (hyp (l:=[]) (lp:=[]) trivial trivial) Try.func55 comp55 (rs:=[.tmp 2]) (by rfl) Try.ntmps55 11 ?_
  have c1:¬ (¬ kind = 0∧¬ kind = 1):=by omega
  have c2:¬ (8192:Int) < st.length:=by omega
  obtain ⟨e,he⟩:∃ e:Int,e = if kind = 1 then 65536 else 64:=⟨_,rfl⟩
  have hall:∀ i:Nat,i < st.length→0≤rd st i∧rd st i < e:=fun i hi => by
    rw [rd_lt st i hi]
    obtain ⟨a,b,c⟩:=h2 _ (List.getElem_mem hi)
    rw [he]
    split
    · exact ⟨a,b (by assumption)⟩
    · exact ⟨a,c (by assumption)⟩
  have loop:∀ (X:Xf.Loc),evS (spList []) (spPList []) (retK [RV.tmp 2] (postF fs55 ⟨L,kind,st⟩)) [Xf.Item.code (IR.loop b55_1),Xf.Item.blk 0,Xf.Item.code r55_2] (upS (List.replicate 38 none) [(3,.int .i64 e),(24,.sl 0 L 1 0 st.length),(25,.int .i64 st.length),(26,.int .i64 0)])
      [some (.ro,L,.ints .i64 st),none,none,none,none,none,none,none,none,none,some (.mine,X,.cells [.int .i64 kind,.sl 0 L 1 0 st.length]),none]:=fun X => by
    refine evS_loopU (A:=Nat) kp55_1 kl55_1 (fun i => [(26,.int .i64 i)]) (fun i => []) (fun i => i≤st.length) (fun i => st.length - i) 0 (Nat.zero_le _) (Sub.pt ?_) ?_
    · simp -implicitDefEqProofs only [push_cast,zz,BEq.rfl,ite_true,ite_false,List.append_nil,reduceCtorEq,Nat.reduceAdd,Nat.reduceSub,Nat.reduceMul,Nat.reduceLeDiff,Nat.reduceLT,Nat.reduceEqDiff,Nat.reduceBEq,Nat.reduceBNe,Int.reduceNeg,Int.reduceToNat]
    intro i hi K hK
    have hi:i≤st.length:=hi
    by_cases hi':i < st.length
    · obtain ⟨a1,a2⟩:=hall i hi'
      have hii:(i:Int) < st.length:=by omega
      obtain ⟨s,hs⟩:∃ s,rd st i = s:=⟨_,rfl⟩
      rw [hs] at a1 a2
      have a3:¬ s < 0:=by omega
      have a4:¬ e≤s:=by omega
      simp -implicitDefEqProofs only [push_cast,zz,BEq.rfl,ite_true,ite_false,List.append_nil,reduceCtorEq,Nat.reduceAdd,Nat.reduceSub,Nat.reduceMul,Nat.reduceLeDiff,Nat.reduceLT,Nat.reduceEqDiff,Nat.reduceBEq,Nat.reduceBNe,Int.reduceNeg,Int.reduceToNat,b55_1,hs,hii,a3,a4]
      repeat (refine And.intro (by first | omega | trivial | (intros; omega)) ?_)
      refine hK (i + 1) (show i + 1≤st.length by omega) (show st.length - (i + 1) < st.length - i by omega) _ _ (Sub.pt ?_)
      simp -implicitDefEqProofs only [push_cast,zz,BEq.rfl,ite_true,ite_false,List.append_nil,reduceCtorEq,Nat.reduceAdd,Nat.reduceSub,Nat.reduceMul,Nat.reduceLeDiff,Nat.reduceLT,Nat.reduceEqDiff,Nat.reduceBEq,Nat.reduceBNe,Int.reduceNeg,Int.reduceToNat]
    · obtain rfl:i = st.length:=by omega
      clear hK
      simp -implicitDefEqProofs only [push_cast,zz,BEq.rfl,ite_true,ite_false,List.append_nil,reduceCtorEq,Nat.reduceAdd,Nat.reduceSub,Nat.reduceMul,Nat.reduceLeDiff,Nat.reduceLT,Nat.reduceEqDiff,Nat.reduceBEq,Nat.reduceBNe,Int.reduceNeg,Int.reduceToNat,b55_1,r55_2,Int.lt_irrefl]
      refine postF.mk' (fun _ => default) [some 0] ?_
      simp -implicitDefEqProofs only [push_cast,zz,BEq.rfl,ite_true,ite_false,List.append_nil,reduceCtorEq,Nat.reduceAdd,Nat.reduceSub,Nat.reduceMul,Nat.reduceLeDiff,Nat.reduceLT,Nat.reduceEqDiff,Nat.reduceBEq,Nat.reduceBNe,Int.reduceNeg,Int.reduceToNat,fs55,mdM]
  rcases h1 with rfl | rfl
  · rw [if_neg (by decide)] at he
    subst he
    simp -implicitDefEqProofs only [push_cast,zz,BEq.rfl,ite_true,ite_false,List.append_nil,reduceCtorEq,Nat.reduceAdd,Nat.reduceSub,Nat.reduceMul,Nat.reduceLeDiff,Nat.reduceLT,Nat.reduceEqDiff,Nat.reduceBEq,Nat.reduceBNe,Int.reduceNeg,Int.reduceToNat,ir55,c1,c2]
    intro X
    exact ⟨fun h => absurd h (by decide),fun _ => loop _⟩
  · rw [if_pos rfl] at he
    subst he
    simp -implicitDefEqProofs only [push_cast,zz,BEq.rfl,ite_true,ite_false,List.append_nil,reduceCtorEq,Nat.reduceAdd,Nat.reduceSub,Nat.reduceMul,Nat.reduceLeDiff,Nat.reduceLT,Nat.reduceEqDiff,Nat.reduceBEq,Nat.reduceBNe,Int.reduceNeg,Int.reduceToNat,ir55,c1,c2]
    intro X
    exact loop _
def ent55:Entry:=spOf fs55 invMd
theorem e55:EntryOk Try.prog 55 ent55:=entry_of ok55 invMd
@[push_cast] theorem ent55_app (us:List SV) (look:Look) (x:Nat→Xf.Loc) (k:Nat):ent55 us look x k = spOf fs55 invMd us look x k:=rfl
def fs56:FS where
  A:=MdA
  args:=fun a => [.agg [.int .i64 a.kind,.sl 0 a.L 1 0 a.st.length]]
  mem:=mdM
  pre:=fun a => a.st.length≤1000000
  res:=fun a x => .agg (ivV a.kind (x 0) a.st.length 0 4294967295 [])
  out:=fun _ _ => []
  new:=fun a x => [(x 0,.ints .i64 a.st)]
set_option maxRecDepth 8000 in
theorem ok56:FSOk Try.prog 56 fs56:=by
  refine ⟨⟨_,Try.func56,by kernel_rfl,by kernel_rfl⟩,fun a => ⟨by simp [fs56,mdM,push_cast,noMine,argOwn,Chunk.frArg],by simp [fs56,mdM,push_cast,outOk,Chunk.ext],fun x => .inl (by simp [fs56,mdM,push_cast,frNew,frOut,Chunk.fr])⟩,fun a hp => ?_⟩
  obtain ⟨L,kind,st⟩:=a
  have hp:st.length≤1000000:=hp
  change Tri Try.prog 56 [.agg [.int .i64 kind,.sl 0 L 1 0 st.length]] [some (.ro,L,.ints .i64 st)] (postF fs56 ⟨L,kind,st⟩)
  refine tri_evS (hyp (l:=[(70,ent70)]) (lp:=[(91,chancesF)]) ⟨e70,trivial⟩ ⟨p91,trivial⟩) Try.func56 comp56 (rs:=[.cell 2 (some 36)]) (by rfl) Try.ntmps56 16 ?_
  simp -implicitDefEqProofs only [push_cast,zz,BEq.rfl,ite_true,ite_false,List.append_nil,reduceCtorEq,Nat.reduceAdd,Nat.reduceSub,Nat.reduceMul,Nat.reduceLeDiff,Nat.reduceLT,Nat.reduceEqDiff,Nat.reduceBEq,Nat.reduceBNe,Int.reduceNeg,Int.reduceToNat,ir56,fs70,mdM,qsV]
  intro X X1
  repeat (refine And.intro (by first | omega | trivial | (intros; omega)) ?_)
  refine postF.mk' (fun _ => X1 1 12) [some 0,some 12] ?_
  simp -implicitDefEqProofs only [push_cast,zz,BEq.rfl,ite_true,ite_false,List.append_nil,reduceCtorEq,Nat.reduceAdd,Nat.reduceSub,Nat.reduceMul,Nat.reduceLeDiff,Nat.reduceLT,Nat.reduceEqDiff,Nat.reduceBEq,Nat.reduceBNe,Int.reduceNeg,Int.reduceToNat,fs56,mdM,ivV,qsV]
def ent56:Entry:=spOf fs56 invMd
theorem e56:EntryOk Try.prog 56 ent56:=entry_of ok56 invMd
@[push_cast] theorem ent56_app (us:List SV) (look:Look) (x:Nat→Xf.Loc) (k:Nat):ent56 us look x k = spOf fs56 invMd us look x k:=rfl
def newEn (kind:Int) (st:List Int):EnS:=⟨kind,st,0,4294967295,[]⟩
def fs41:FS where
  A:=MdA
  args:=fun a => [.agg [.int .i64 a.kind,.sl 0 a.L 1 0 a.st.length]]
  mem:=mdM
  pre:=fun a => mdOk a.kind a.st
  res:=fun a x => .tup [.ptr 2 (x 1) 0 0 0,.int .i64 0]
  out:=fun _ _ => []
  new:=fun a x => [(x 0,.ints .i64 a.st),(x 1,.cells (enV (x 0) (newEn a.kind a.st) 4096 nilLoc))]
set_option maxRecDepth 8000 in
theorem ok41:FSOk Try.prog 41 fs41:=by
  refine ⟨⟨_,Try.func41,by kernel_rfl,by kernel_rfl⟩,fun a => ⟨by simp [fs41,mdM,push_cast,noMine,argOwn,Chunk.frArg],by simp [fs41,mdM,push_cast,outOk,Chunk.ext],fun x => .inl (by simp [fs41,mdM,push_cast,frNew,frOut,Chunk.fr])⟩,fun a hp => ?_⟩
  obtain ⟨L,kind,st⟩:=a
  have hp':mdOk kind st:=hp
  have hl:st.length≤1000000:=by have:=hp'.2; omega
  change Tri Try.prog 41 [.agg [.int .i64 kind,.sl 0 L 1 0 st.length]] [some (.ro,L,.ints .i64 st)] (postF fs41 ⟨L,kind,st⟩)
  refine tri_evS (hyp (l:=[(55,ent55),(56,ent56)]) (lp:=[]) ⟨e55,e56,trivial⟩ trivial) Try.func41 comp41 (rs:=[.tmp 2,.tmp 3]) (by rfl) Try.ntmps41 20 ?_
  simp -implicitDefEqProofs only [push_cast,zz,BEq.rfl,ite_true,ite_false,List.append_nil,reduceCtorEq,Nat.reduceAdd,Nat.reduceSub,Nat.reduceMul,Nat.reduceLeDiff,Nat.reduceLT,Nat.reduceEqDiff,Nat.reduceBEq,Nat.reduceBNe,Int.reduceNeg,Int.reduceToNat,ir41,fs55,fs56,mdM,ivV,qsV,hp',hl]
  intro X
  repeat (refine And.intro (by first | omega | trivial | (intros; omega)) ?_)
  intro X1
  repeat (refine And.intro (by first | omega | trivial | (intros; omega)) ?_)
  refine postF.mk' (fun j => if j = 0 then X1 1 15 else X1 3 19) [some 0,some 15,some 19] ?_
  simp -implicitDefEqProofs only [push_cast,zz,BEq.rfl,ite_true,ite_false,List.append_nil,reduceCtorEq,Nat.reduceAdd,Nat.reduceSub,Nat.reduceMul,Nat.reduceLeDiff,Nat.reduceLT,Nat.reduceEqDiff,Nat.reduceBEq,Nat.reduceBNe,Int.reduceNeg,Int.reduceToNat,fs41,mdM,enV,ivV,qsV,newEn]
def ent41:Entry:=spOf fs41 invMd
theorem e41:EntryOk Try.prog 41 ent41:=entry_of ok41 invMd
@[push_cast] theorem ent41_app (us:List SV) (look:Look) (x:Nat→Xf.Loc) (k:Nat):ent41 us look x k = spOf fs41 invMd us look x k:=rfl
def fs44:FS where
  A:=EnA
  args:=fun a => [.ptr 0 a.L 0 0 0]
  mem:=enM
  pre:=fun a => a.e.st.length≤1000000
  res:=fun a x => .agg [.int .i64 a.e.kind,.sl 3 (x 0) 1 0 a.e.st.length]
  out:=fun _ _ => []
  new:=fun a x => [(x 0,.ints .i64 a.e.st)]
theorem ok44:FSOk Try.prog 44 fs44:=by
  refine ⟨⟨_,Try.func44,by kernel_rfl,by kernel_rfl⟩,fun a => ⟨by simp [fs44,enM,push_cast,noMine,argOwn,Chunk.frArg],by simp [fs44,enM,push_cast,outOk,Chunk.ext],fun x => .inl (by simp [fs44,enM,push_cast,frNew,frOut,Chunk.fr])⟩,fun a hp => ?_⟩
  obtain ⟨L,LS,LO,⟨kind,st,low,high,out⟩,ctx,bit⟩:=a
  have hl:st.length≤1000000:=hp
  change Tri Try.prog 44 [.ptr 0 L 0 0 0] (enM ⟨L,LS,LO,⟨kind,st,low,high,out⟩,ctx,bit⟩) (postF fs44 ⟨L,LS,LO,⟨kind,st,low,high,out⟩,ctx,bit⟩)
  refine tri_evS (hyp (l:=[(81,ent81),(70,ent70)]) (lp:=[]) ⟨e81,e70,trivial⟩ trivial) Try.func44 comp44 (rs:=[.cell 2 (some 2)]) (by rfl) Try.ntmps44 19 ?_
  simp -implicitDefEqProofs only [push_cast,zz,BEq.rfl,ite_true,ite_false,List.append_nil,reduceCtorEq,Nat.reduceAdd,Nat.reduceSub,Nat.reduceMul,Nat.reduceLeDiff,Nat.reduceLT,Nat.reduceEqDiff,Nat.reduceBEq,Nat.reduceBNe,Int.reduceNeg,Int.reduceToNat,ir44,enM,enV,ivV,fs81,fs70,mdM,hl]
  intro X
  repeat (refine And.intro (by first | omega | trivial | (intros; omega)) ?_)
  intro X1
  repeat (refine And.intro (by first | omega | trivial | (intros; omega)) ?_)
  refine postF.mk' (fun j => X1 5 15) [some 0,some 1,some 2,some 15] ?_
  simp -implicitDefEqProofs only [push_cast,zz,BEq.rfl,ite_true,ite_false,List.append_nil,reduceCtorEq,Nat.reduceAdd,Nat.reduceSub,Nat.reduceMul,Nat.reduceLeDiff,Nat.reduceLT,Nat.reduceEqDiff,Nat.reduceBEq,Nat.reduceBNe,Int.reduceNeg,Int.reduceToNat,fs44,enM,enV,ivV]
def ent44:Entry:=spOf fs44 invEn
theorem e44:EntryOk Try.prog 44 ent44:=entry_of ok44 invEn
@[push_cast] theorem ent44_app (us:List SV) (look:Look) (x:Nat→Xf.Loc) (k:Nat):ent44 us look x k = spOf fs44 invEn us look x k:=rfl
def cutP (g:Int) (n:Nat):Int:=g / 2 ^ (32 - 8 * (n:Int)).toNat * 2 ^ (32 - 8 * (n:Int)).toNat
theorem pow_pos' (k:Nat):(0:Int) < 2 ^ k:=Int.pow_pos (by decide)
theorem cutP_bd {g:Int} (h:0≤g) (n:Nat):0≤cutP g n∧cutP g n≤g:=by
  have hp:=pow_pos' (32 - 8 * (n:Int)).toNat
  exact ⟨Int.mul_nonneg (Int.ediv_nonneg h (Int.le_of_lt hp)) (Int.le_of_lt hp),Int.ediv_mul_le g (Int.ne_of_gt hp)⟩
def bytP (g:Int) (i:Nat):Int:=IntKind.u8.wrap (g / 2 ^ (24 - 8 * (i:Int)).toNat)
def endN (l g:Int):Nat:=if l≤cutP g 0 then 0 else if l≤cutP g 1 then 1 else if l≤cutP g 2 then 2 else if l≤cutP g 3 then 3 else 4
theorem endN_eq {l g:Int} {n:Nat} (hn:n≤4) (h:∀ m,m < n→¬ l≤cutP g m) (hc:n < 4→l≤cutP g n):endN l g = n:=by
  have hn5:n = 0∨n = 1∨n = 2∨n = 3∨n = 4:=by omega
  unfold endN
  rcases hn5 with rfl | rfl | rfl | rfl | rfl
  · rw [if_pos (hc (by decide))]
  · rw [if_neg (h 0 (by decide)),if_pos (hc (by decide))]
  · rw [if_neg (h 0 (by decide)),if_neg (h 1 (by decide)),if_pos (hc (by decide))]
  · rw [if_neg (h 0 (by decide)),if_neg (h 1 (by decide)),if_neg (h 2 (by decide)),if_pos (hc (by decide))]
  · rw [if_neg (h 0 (by decide)),if_neg (h 1 (by decide)),if_neg (h 2 (by decide)),if_neg (h 3 (by decide))]
theorem cutP_4 (g:Int):cutP g 4 = g:=by
  have e:(32 - 8 * ((4:Nat):Int)).toNat = 0:=rfl
  unfold cutP
  rw [e]
  omega
def endP (l g:Int):List Int:=(List.range (endN l g)).map (bytP g)
def encEnd (e:EnS):List Int:=e.out++endP e.low e.high
def fs45:FS where
  A:=EnA
  args:=fun a => [.ptr 0 a.L 0 0 0]
  mem:=enM
  pre:=fun a => a.e.ok∧a.e.out.length≤200000000
  res:=fun a x => .sl 3 (x 0) 1 0 (encEnd a.e).length
  out:=fun _ _ => []
  new:=fun a x => [(x 0,.ints .u8 (encEnd a.e))]
set_option maxHeartbeats 1000000 in
theorem ok45:FSOk Try.prog 45 fs45:=by
  refine ⟨⟨_,Try.func45,by kernel_rfl,by kernel_rfl⟩,fun a => ⟨by simp [fs45,enM,push_cast,noMine,argOwn,Chunk.frArg],by simp [fs45,enM,push_cast,outOk,Chunk.ext],fun x => .inl (by simp [fs45,enM,push_cast,frNew,frOut,Chunk.fr])⟩,fun a hp => ?_⟩
  obtain ⟨L,LS,LO,⟨kind,st,low,high,out⟩,ctx,bit⟩:=a
  obtain ⟨⟨h1,h2,h3,h4,h5,h6⟩,h7⟩:ivOk2 kind st low high∧out.length≤200000000:=hp
  change Tri Try.prog 45 [.ptr 0 L 0 0 0] (enM ⟨L,LS,LO,⟨kind,st,low,high,out⟩,ctx,bit⟩) (postF fs45 ⟨L,LS,LO,⟨kind,st,low,high,out⟩,ctx,bit⟩)
  refine tri_evS (hyp (l:=[(81,ent81)]) (lp:=[]) ⟨e81,trivial⟩ trivial) Try.func45 comp45 (rs:=[.tmp 2]) (by rfl) Try.ntmps45 18 ?_
  simp -implicitDefEqProofs only [push_cast,zz,BEq.rfl,ite_true,ite_false,List.append_nil,reduceCtorEq,Nat.reduceAdd,Nat.reduceSub,Nat.reduceMul,Nat.reduceLeDiff,Nat.reduceLT,Nat.reduceEqDiff,Nat.reduceBEq,Nat.reduceBNe,Int.reduceNeg,Int.reduceToNat,ir45,enM,enV,ivV,fs81]
  intro X
  repeat (refine And.intro (by first | omega | trivial | (intros; omega)) ?_)
  have hb64:=bits64
  obtain ⟨M,hM⟩:∃ M,X 5 15 = M:=⟨_,rfl⟩
  rw [hM]
  refine evS_loopU (A:=Nat) kp45_1 kl45_1 (fun n => [(15,.int .i64 n)]) (fun n => []) (fun n => n≤4∧∀ m,m < n→¬ low≤cutP high m) (fun n => 5 - n) 0 ⟨by omega,fun m hm => by omega⟩ (Sub.pt ?_) ?_
  · simp -implicitDefEqProofs only [push_cast,zz,BEq.rfl,ite_true,ite_false,List.append_nil,reduceCtorEq,Nat.reduceAdd,Nat.reduceSub,Nat.reduceMul,Nat.reduceLeDiff,Nat.reduceLT,Nat.reduceEqDiff,Nat.reduceBEq,Nat.reduceBNe,Int.reduceNeg,Int.reduceToNat]
  intro n ⟨(hn:n≤4),(hm:∀ m,m < n→¬ low≤cutP high m)⟩ K hK
  have hn5:(n:Int) < 5:=by omega
  have hc:=cutP_bd (g:=high) (by omega) n
  have hq0:0≤high / 2 ^ (32 - 8 * (n:Int)).toNat:=Int.ediv_nonneg (by omega) (Int.le_of_lt (pow_pos' _))
  have hq1:high / 2 ^ (32 - 8 * (n:Int)).toNat * 2 ^ (32 - 8 * (n:Int)).toNat = cutP high n:=rfl
  by_cases hlow:low≤cutP high n
  · clear hK
    have he:endN low high = n:=endN_eq hn hm fun _ => hlow
    simp -implicitDefEqProofs only [push_cast,zz,BEq.rfl,ite_true,ite_false,List.append_nil,reduceCtorEq,Nat.reduceAdd,Nat.reduceSub,Nat.reduceMul,Nat.reduceLeDiff,Nat.reduceLT,Nat.reduceEqDiff,Nat.reduceBEq,Nat.reduceBNe,Int.reduceNeg,Int.reduceToNat,b45_1,hn5,hq1,hlow]
    repeat (refine And.intro (by first | omega | trivial | (intros; omega)) ?_)
    have hlen:∀ i:Nat,(((out++(List.range i).map (bytP high)).length:Nat):Int) = out.length + i:=fun i => by rw [List.length_append,List.length_map,List.length_range]; omega
    refine evS_loopU (A:=Nat × Xf.Loc) kp45_2 kl45_2 (fun y => [(3,.sl 15 y.2 1 0 (out.length + y.1)),(38,.int .i64 y.1)]) (fun y => [(15,.mine,y.2,.ints .u8 (out++(List.range y.1).map (bytP high)))])
      (fun y => y.1≤n) (fun y => n - y.1) (0,M) (Nat.zero_le _) (Sub.pt ?_) ?_
    · simp -implicitDefEqProofs only [push_cast,zz,BEq.rfl,ite_true,ite_false,List.append_nil,reduceCtorEq,Nat.reduceAdd,Nat.reduceSub,Nat.reduceMul,Nat.reduceLeDiff,Nat.reduceLT,Nat.reduceEqDiff,Nat.reduceBEq,Nat.reduceBNe,Int.reduceNeg,Int.reduceToNat,List.range_zero]
    intro ⟨i,N⟩ hi K hK
    have hi:i≤n:=hi
    by_cases hi':i < n
    · have hii:(i:Int) < n:=by omega
      have hb:IntKind.u8.wrap (high / 2 ^ (24 - 8 * (i:Int)).toNat) = bytP high i:=rfl
      have ha:(out++(List.range i).map (bytP high))++[bytP high i] = out++(List.range (i + 1)).map (bytP high):=by rw [List.range_succ,List.map_append,List.append_assoc]; rfl
      have hl:=hlen i
      obtain ⟨o,ho⟩:∃ o,out++(List.range i).map (bytP high) = o:=⟨_,rfl⟩
      rw [ho] at ha hl
      have hl2:(out.length:Int) + i = o.length:=hl.symm
      simp -implicitDefEqProofs only [push_cast,zz,BEq.rfl,ite_true,ite_false,List.append_nil,reduceCtorEq,Nat.reduceAdd,Nat.reduceSub,Nat.reduceMul,Nat.reduceLeDiff,Nat.reduceLT,Nat.reduceEqDiff,Nat.reduceBEq,Nat.reduceBNe,Int.reduceNeg,Int.reduceToNat,b45_2,hii,hb,ho,hl2]
      intro X2
      repeat (refine And.intro (by first | omega | trivial | (intros; omega)) ?_)
      refine hK (i + 1,X2 12 17) (show i + 1≤n by omega) (show n - (i + 1) < n - i by omega) _ _ (Sub.of (mkG 24 [(0,0),(1,1),(2,2),(15,17)]) ?_)
      have hl3:(out.length:Int) + ((i:Int) + 1) = o.length + 1:=by omega
      simp -implicitDefEqProofs only [push_cast,zz,BEq.rfl,ite_true,ite_false,List.append_nil,reduceCtorEq,Nat.reduceAdd,Nat.reduceSub,Nat.reduceMul,Nat.reduceLeDiff,Nat.reduceLT,Nat.reduceEqDiff,Nat.reduceBEq,Nat.reduceBNe,Int.reduceNeg,Int.reduceToNat,ha,hl3]
    · obtain rfl:i = n:=by omega
      clear hK
      have hf:out++(List.range i).map (bytP high) = encEnd ⟨kind,st,low,high,out⟩:=by unfold encEnd endP; rw [he]
      have hl:=hlen i
      rw [hf] at hl
      simp -implicitDefEqProofs only [push_cast,zz,BEq.rfl,ite_true,ite_false,List.append_nil,reduceCtorEq,Nat.reduceAdd,Nat.reduceSub,Nat.reduceMul,Nat.reduceLeDiff,Nat.reduceLT,Nat.reduceEqDiff,Nat.reduceBEq,Nat.reduceBNe,Int.reduceNeg,Int.reduceToNat,b45_2,r45_3,Int.lt_irrefl,hf]
      refine postF.mk' (fun _ => N) [some 0,some 1,some 2,some 15] ?_
      simp -implicitDefEqProofs only [push_cast,zz,BEq.rfl,ite_true,ite_false,List.append_nil,reduceCtorEq,Nat.reduceAdd,Nat.reduceSub,Nat.reduceMul,Nat.reduceLeDiff,Nat.reduceLT,Nat.reduceEqDiff,Nat.reduceBEq,Nat.reduceBNe,Int.reduceNeg,Int.reduceToNat,fs45,enM,enV,ivV,hl]
  · have hn4:n < 4:=by
      rcases Nat.lt_or_ge n 4 with h | h
      · exact h
      · have:n = 4:=by omega
        subst this
        rw [cutP_4] at hlow
        omega
    simp -implicitDefEqProofs only [push_cast,zz,BEq.rfl,ite_true,ite_false,List.append_nil,reduceCtorEq,Nat.reduceAdd,Nat.reduceSub,Nat.reduceMul,Nat.reduceLeDiff,Nat.reduceLT,Nat.reduceEqDiff,Nat.reduceBEq,Nat.reduceBNe,Int.reduceNeg,Int.reduceToNat,b45_1,hn5,hq1,hlow,r45_4]
    repeat (refine And.intro (by first | omega | trivial | (intros; omega)) ?_)
    refine hK (n + 1) ⟨by omega,fun m hm' => ?_⟩ (show 5 - (n + 1) < 5 - n by omega) _ _ (Sub.pt ?_)
    · by_cases e:m = n
      · rw [e]; exact hlow
      · exact hm m (by omega)
    · simp -implicitDefEqProofs only [push_cast,zz,BEq.rfl,ite_true,ite_false,List.append_nil,reduceCtorEq,Nat.reduceAdd,Nat.reduceSub,Nat.reduceMul,Nat.reduceLeDiff,Nat.reduceLT,Nat.reduceEqDiff,Nat.reduceBEq,Nat.reduceBNe,Int.reduceNeg,Int.reduceToNat]
def ent45:Entry:=spOf fs45 invEn
theorem e45:EntryOk Try.prog 45 ent45:=entry_of ok45 invEn
@[push_cast] theorem ent45_app (us:List SV) (look:Look) (x:Nat→Xf.Loc) (k:Nat):ent45 us look x k = spOf fs45 invEn us look x k:=rfl
def ir57:IR :=
  .seq (.reg false [⟨some 2,none,⟨[],[]⟩,.mov (.k (.int .u8 0))⟩] [] []) (.seq (.seq (.reg true [⟨some 3,none,⟨[],[]⟩,.mov (.t 0)⟩,
    ⟨some 4,none,⟨[],[]⟩,.nilc (.t 3)⟩,
    ⟨some 5,none,⟨[],[]⟩,.fld (.t 4) 37⟩,
    ⟨some 6,none,⟨[],[]⟩,.ld false none 0 0 (.t 5)⟩,
    ⟨some 7,none,⟨[],[]⟩,.mov (.t 0)⟩,
    ⟨some 8,none,⟨[],[]⟩,.nilc (.t 7)⟩,
    ⟨some 9,none,⟨[],[]⟩,.fld (.t 8) 36⟩,
    ⟨some 10,none,⟨[],[]⟩,.ld false none 0 0 (.t 9)⟩,
    ⟨some 11,none,⟨[],[]⟩,.len (.t 10)⟩,
    ⟨some 12,none,⟨[],[]⟩,.bin 0 .lss (.t 6) (.t 11)⟩] [3,4,5,6,7,8,9,10,11] []) (.cond (.t 12) (.reg true [⟨some 13,none,⟨[],[]⟩,.mov (.t 0)⟩,
    ⟨some 14,none,⟨[],[]⟩,.nilc (.t 13)⟩,
    ⟨some 15,none,⟨[],[]⟩,.fld (.t 14) 36⟩,
    ⟨some 16,none,⟨[],[]⟩,.ld false none 0 0 (.t 15)⟩,
    ⟨some 17,none,⟨[],[]⟩,.mov (.t 0)⟩,
    ⟨some 18,none,⟨[],[]⟩,.nilc (.t 17)⟩,
    ⟨some 19,none,⟨[],[]⟩,.fld (.t 18) 37⟩,
    ⟨some 20,none,⟨[],[]⟩,.ld false none 0 0 (.t 19)⟩,
    ⟨some 21,none,⟨[],[]⟩,.idxS (.t 16) (.t 20) 1⟩,
    ⟨some 22,none,⟨[],[]⟩,.ld true none 0 0 (.t 21)⟩,
    ⟨some 2,none,⟨[],[]⟩,.mov (.t 22)⟩] [12,13,14,15,16,17,18,19,20,21,22] []) (.reg false [⟨some 23,none,⟨[],[]⟩,.mov (.t 0)⟩,
    ⟨some 24,none,⟨[],[]⟩,.nilc (.t 23)⟩,
    ⟨some 25,none,⟨[],[]⟩,.fld (.t 24) 39⟩,
    ⟨some 26,none,⟨[],[]⟩,.ld false none 0 0 (.t 25)⟩,
    ⟨some 27,none,⟨[],[]⟩,.bin 0 .add (.t 26) (.k (.int .i64 1))⟩,
    ⟨some 28,none,⟨[],[]⟩,.nilc (.t 23)⟩,
    ⟨some 29,none,⟨[],[]⟩,.fld (.t 28) 39⟩,
    ⟨none,none,⟨[],[]⟩,.sto false 1 .i64 (.t 29) (.t 27)⟩] [12,23,24,25,26,27,28,29] []))) (.seq (.reg false [⟨some 30,none,⟨[],[]⟩,.mov (.t 0)⟩,
    ⟨some 31,none,⟨[],[]⟩,.nilc (.t 30)⟩,
    ⟨some 32,none,⟨[],[]⟩,.fld (.t 31) 37⟩,
    ⟨some 33,none,⟨[],[]⟩,.ld false none 0 0 (.t 32)⟩,
    ⟨some 34,none,⟨[],[]⟩,.bin 0 .add (.t 33) (.k (.int .i64 1))⟩,
    ⟨some 35,none,⟨[],[]⟩,.nilc (.t 30)⟩,
    ⟨some 36,none,⟨[],[]⟩,.fld (.t 35) 37⟩,
    ⟨none,none,⟨[],[]⟩,.sto false 1 .i64 (.t 36) (.t 34)⟩] [30,31,32,33,34,35,36] []) (.reg false [⟨some 37,none,⟨[],[]⟩,.mov (.t 0)⟩,
    ⟨some 38,none,⟨[],[]⟩,.mov (.t 0)⟩,
    ⟨some 39,none,⟨[],[]⟩,.nilc (.t 38)⟩,
    ⟨some 40,none,⟨[],[]⟩,.fld (.t 39) 38⟩,
    ⟨some 41,none,⟨[],[]⟩,.ld false none 0 0 (.t 40)⟩,
    ⟨some 42,none,⟨[],[]⟩,.bin 0 .shl (.t 41) (.k (.int .u64 8))⟩,
    ⟨some 43,none,⟨[],[]⟩,.bin 0 .and (.t 42) (.k (.int .u64 4294967295))⟩,
    ⟨some 44,none,⟨[],[]⟩,.mov (.t 2)⟩,
    ⟨some 45,none,⟨[],[]⟩,.cvt 0 .u64 (.t 44)⟩,
    ⟨some 46,none,⟨[],[]⟩,.bin 0 .or (.t 43) (.t 45)⟩,
    ⟨some 47,none,⟨[],[]⟩,.nilc (.t 37)⟩,
    ⟨some 48,none,⟨[],[]⟩,.fld (.t 47) 38⟩,
    ⟨none,none,⟨[],[]⟩,.sto false 1 .i64 (.t 48) (.t 46)⟩] [0,2,37,38,39,40,41,42,43,44,45,46,47,48] [])))
set_option maxRecDepth 4000 in
theorem comp57:(Try.f57.body.bind fun c => compC tab isP chkAll ir57 c) = some ir57:=by kernel_rfl
def ir65:IR :=
  .seq (.reg false [⟨some 2,none,⟨[],[]⟩,.mov (.k (.bool false))⟩] [2] []) (.seq (.reg false [⟨some 3,none,⟨[],[]⟩,.mov (.t 0)⟩,
    ⟨some 4,none,⟨[],[]⟩,.binN .eql (.t 3) (.k nilP)⟩,
    ⟨some 5,none,⟨[],[]⟩,.mov (.t 4)⟩,
    ⟨some 6,some (5,false),⟨[],[]⟩,.mov (.t 0)⟩,
    ⟨some 7,some (5,false),⟨[],[]⟩,.nilc (.t 6)⟩,
    ⟨some 8,some (5,false),⟨[],[]⟩,.fld (.t 7) 41⟩,
    ⟨some 9,some (5,false),⟨[],[]⟩,.ld false none 0 0 (.t 8)⟩,
    ⟨some 10,some (5,false),⟨[],[]⟩,.not (.t 9)⟩,
    ⟨some 11,none,⟨[],[]⟩,.pick (.t 5) (.k (.bool true)) (.t 10)⟩,
    ⟨some 2,none,⟨[],[]⟩,.mov (.t 11)⟩] [0,3,4,5,6,7,8,9,10,11] []) (.ret))
set_option maxRecDepth 4000 in
theorem comp65:(Try.f65.body.bind fun c => compC tab isP chkAll ir65 c) = some ir65:=by kernel_rfl
def ir30:IR :=
  .seq (.reg false [⟨some 2,none,⟨[],[]⟩,.alloc 10 [.int .i64 0,nilSV]⟩] [] []) (.seq (.seq (.reg false [⟨some 3,none,⟨[],[]⟩,.mov (.t 0)⟩,
    ⟨some 4,none,⟨[],[]⟩,.call (some 4) 11 65 [.t 3]⟩] [3] []) (.cond (.t 4) (.seq (.reg false [⟨some 5,none,⟨[],[]⟩,.build [.int .i64 0,nilSV] []⟩,
    ⟨none,none,⟨[],[]⟩,.sto false 2 .i64 (.t 2) (.t 5)⟩] [0,4,5] []) (.ret)) (.skip))) (.seq (.reg false [⟨some 6,none,⟨[],[]⟩,.mov (.t 0)⟩,
    ⟨some 7,none,⟨[],[]⟩,.nilc (.t 6)⟩,
    ⟨some 8,none,⟨[],[]⟩,.fld (.t 7) 0⟩,
    ⟨some 9,none,⟨[],[]⟩,.fld (.t 8) 0⟩,
    ⟨some 10,none,⟨[],[]⟩,.ld false (some 2) 0 0 (.t 9)⟩,
    ⟨some 11,none,⟨[],[]⟩,.call (some 4) 15 70 [.t 10]⟩,
    ⟨none,none,⟨[],[]⟩,.sto false 2 .i64 (.t 2) (.t 11)⟩] [0,4,6,7,8,9,10,11] []) (.ret)))
set_option maxRecDepth 4000 in
theorem comp30:(Try.f30.body.bind fun c => compC tab isP chkAll ir30 c) = some ir30:=by kernel_rfl
theorem setL_at (v:SV):∀ (p:List SV) (a:SV) (z:List SV),setL (p++a :: z) p.length v = p++v :: z
  | [],a,z => rfl
  | b :: p,a,z => by simp only [List.cons_append,List.length_cons,setL]; rw [setL_at v p a z]
theorem setsL_at:∀ (vs p z:List SV),z.length = vs.length→setsL (p++z) p.length vs = p++vs
  | [],p,[],_ => by simp [setsL]
  | [],p,_ :: _,h => by simp at h
  | v :: vs,p,[],h => by simp at h
  | v :: vs,p,a :: z,h => by
    rw [setsL,setL_at]
    have:=setsL_at vs (p++[v]) z (by simpa using h)
    simpa using this
theorem takeL_app:∀ (q r:List SV) (n:Nat),takeL (q++r) (q.length + n) = match takeL r n with | none => none | some l => some (q++l)
  | [],r,n => by
    simp only [List.nil_append,List.length_nil,Nat.zero_add]
    cases takeL r n <;> rfl
  | a :: q,r,n => by
    rw [List.cons_append,List.length_cons,Nat.add_right_comm,takeL,takeL_app q r n]
    cases takeL r n <;> rfl
@[push_cast] theorem tq40 (r:List SV):takeL (qsV++r) 40 = match takeL r 8 with | none => none | some l => some (qsV++l):=takeL_app qsV r 8
@[push_cast] theorem allq (r:List SV):(qsV++r).all size1 = r.all size1:=by rw [List.all_append]; rfl
@[push_cast] theorem lenq (r:List SV):(qsV++r).length = r.length + 32:=by rw [List.length_append,qsV_len]; omega
theorem or_byte {x b:Int} (h0:0≤x) (h1:x < 18446744073709551616) (h2:x % 256 = 0) (b0:0≤b) (b1:b < 256):bitop .or .u64 x b = x + b:=by
  obtain ⟨k,rfl⟩:∃ k:Nat,x = k:=⟨x.toNat,by omega⟩
  obtain ⟨c,rfl⟩:∃ k:Nat,b = k:=⟨b.toNat,by omega⟩
  have e:((BitVec.ofInt 64 (k:Int)) ||| (BitVec.ofInt 64 (c:Int))).toNat = k + c:=by
    rw [BitVec.toNat_or,BitVec.toNat_ofInt,BitVec.toNat_ofInt]
    rw [show (((c:Int) % ((2 ^ 64:Nat):Int)).toNat) = c by omega]
    rw [show (((k:Int) % ((2 ^ 64:Nat):Int)).toNat) = 2 ^ 8 * (k / 256) by omega]
    rw [← Nat.two_pow_add_eq_or_of_lt (by omega)]
    omega
  show IntKind.u64.wrap _ = _
  have e':(BitVec.toNat ((BitVec.ofInt IntKind.u64.bits (k:Int)) ||| (BitVec.ofInt IntKind.u64.bits (c:Int)))) = k + c:=e
  simp only [e']
  rw [wrap64 _ (by omega)]
  omega
structure DeS where
  kind:Int
  st:List Int
  low:Int
  high:Int
  code:List Int
  at_:Int
  value:Int
  beyond:Int
  ended:Bool
def bytA (code:List Int) (i:Int):Int:=if i < code.length then rd code i else 0
def byAll (code:List Int):Prop:=∀ b ∈ code,0≤b∧b < 256
theorem bytA_bd {code:List Int} (h:byAll code) {i:Int} (h0:0≤i):0≤bytA code i∧bytA code i < 256:=by
  unfold bytA
  split
  · obtain ⟨k,rfl⟩:∃ k:Nat,i = k:=⟨i.toNat,by omega⟩
    rw [rd_lt code k (by omega)]
    exact h _ (List.getElem_mem _)
  · omega
def beyP (code:List Int) (i:Int):Int:=max 0 (i - code.length)
def deT (d:DeS):List SV:=[.int .i64 d.at_,.int .u64 d.value,.int .i64 d.beyond,.bool d.ended,.bool true]
def deV (LS:Xf.Loc) (d:DeS) (LC:Xf.Loc):List SV:=ivV d.kind LS d.st.length d.low d.high (.sl 2 LC 1 0 d.code.length :: deT d)
def inOk (code:List Int) (i v b:Int):Prop:=code.length≤1000000000∧byAll code∧0≤i∧i≤2000000000∧0≤v∧v < 4294967296∧b = beyP code i
def shiftV (code:List Int) (i v:Int):Int:=v % 16777216 * 256 + bytA code i
structure DeA where
  L:Xf.Loc
  LS:Xf.Loc
  LC:Xf.Loc
  d:DeS
  ctx:Int
def invDe:List SV→Look→Option (DeA × List Nat)
  | .ptr c _ 0 0 0 :: us,look => match rowC (look c) with
    | some (L,.int .i64 kind :: .sl d LS 1 0 _ :: r) => match dropL r 32,rowI (look d) with
      | [.int .u64 low,.int .u64 high,.sl e _ 1 0 _,.int .i64 i,.int .u64 v,.int .i64 b,.bool en,.bool true],some (_,.i64,st) => match rowO look e with
        | some (LC,code) => match us with
          | [] => some (⟨L,LS,LC,⟨kind,st,low,high,code,i,v,b,en⟩,0⟩,[c,d,e])
          | [.int .i64 ctx] => some (⟨L,LS,LC,⟨kind,st,low,high,code,i,v,b,en⟩,ctx⟩,[c,d,e])
          | _ => none
        | none => none
      | _,_ => none
    | _ => none
  | _,_ => none
attribute [push_cast] invDe
def fs57:FS where
  A:=DeA
  args:=fun a => [.ptr 0 a.L 0 0 0]
  mem:=fun a => [some (.lent,a.L,.cells (deV a.LS a.d a.LC)),none,some (.ro,a.LC,.ints .u8 a.d.code)]
  pre:=fun a => inOk a.d.code a.d.at_ a.d.value a.d.beyond
  res:=fun a _ => .tup []
  out:=fun a _ => [some (some (.cells (deV a.LS ⟨a.d.kind,a.d.st,a.d.low,a.d.high,a.d.code,a.d.at_ + 1,shiftV a.d.code a.d.at_ a.d.value,beyP a.d.code (a.d.at_ + 1),a.d.ended⟩ a.LC)))]
  new:=fun _ _ => []
end Go.Proofs.Ythicgkilfjjifaa
