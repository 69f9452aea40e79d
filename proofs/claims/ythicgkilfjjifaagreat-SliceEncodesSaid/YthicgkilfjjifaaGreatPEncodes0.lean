import Derived.Test.YthicgkilfjjifaaGreatKc
import Derived.Test.YthicgkilfjjifaaGreatProg
import Derived.Test.YthicgkilfjjifaaGreatChecked
set_option linter.unusedVariables false
set_option linter.unusedSimpArgs false
set_option maxRecDepth 1000
namespace Go.Proofs.YthicgkilfjjifaaGreat
open Xf
def tab:Tab:=fun t=>match t with
 | 2=>some ⟨1,8,[.int .i64 0],.int .i64,none⟩
 | 3=>some ⟨1,8,[.int .i64 0],.int .i64,none⟩
 | 4=>some ⟨1,1,[.bool false],.bool,none⟩
 | 5=>some ⟨1,1,[.int .u8 0],.int .u8,none⟩
 | 6=>some ⟨1,1,[.int .u8 0],.int .u8,none⟩
 | 7=>some ⟨4,24,[.int .i64 0,.int .i64 0,.bool false,.int .u8 0],.struct [(0,2),(1,3),(2,4),(3,6)],(some [true,true,false,true])⟩
 | 8=>some ⟨4,24,[.int .i64 0,.int .i64 0,.bool false,.int .u8 0],.struct [(0,2),(1,3),(2,4),(3,6)],(some [true,true,false,true])⟩
 | 9=>some ⟨1,16,[.val (.string ⟨#[]⟩)],.string,none⟩
 | 12=>some ⟨1,8,[.int .u64 0],.int .u64,none⟩
 | 13=>some ⟨2,24,[.val (.string ⟨#[]⟩),.int .u64 0],.struct [(0,9),(1,12)],none⟩
 | 14=>some ⟨2,24,[.val (.string ⟨#[]⟩),.int .u64 0],.struct [(0,9),(1,12)],none⟩
 | 15=>some ⟨1,8,[.val (.pointer none)],.pointer,none⟩
 | 16=>some ⟨1,8,[.val (.pointer none)],.pointer,none⟩
 | 17=>some ⟨1,8,[.val (.pointer none)],.pointer,none⟩
 | 18=>some ⟨1,8,[.val (.pointer none)],.struct [(0,17)],none⟩
 | 19=>some ⟨1,8,[.val (.pointer none)],.struct [(0,17)],none⟩
 | 21=>some ⟨1,4,[.int .i32 0],.int .i32,none⟩
 | 22=>some ⟨1,24,[nilSV],.slice 3,none⟩
 | 23=>some ⟨3,40,[.int .i64 0,.int .i64 0,nilSV],.struct [(0,3),(1,3),(2,22)],none⟩
 | 24=>some ⟨3,40,[.int .i64 0,.int .i64 0,nilSV],.struct [(0,3),(1,3),(2,22)],none⟩
 | 25=>some ⟨1,24,[nilSV],.slice 50,none⟩
 | 26=>some ⟨1,8,[.int .i64 0],.int .i64,none⟩
 | 34=>some ⟨1,8,[.val (.pointer none)],.pointer,none⟩
 | 37=>some ⟨1,8,[.val (.pointer none)],.pointer,none⟩
 | 40=>some ⟨1,24,[nilSV],.slice 4,none⟩
 | 41=>some ⟨1,24,[nilSV],.slice 96,none⟩
 | 42=>some ⟨2,32,[.int .i64 0,nilSV],.struct [(0,3),(1,22)],none⟩
 | 43=>some ⟨2,32,[.int .i64 0,nilSV],.struct [(0,3),(1,22)],none⟩
 | 44=>some ⟨9,168,[nilSV,nilSV,nilSV,.int .i64 0,nilSV,.int .i64 0,nilSV,nilSV,.int .i64 0],.struct [(0,22),(1,40),(2,22),(3,3),(4,41),(5,43),(7,22),(8,3)],none⟩
 | 45=>some ⟨9,168,[nilSV,nilSV,nilSV,.int .i64 0,nilSV,.int .i64 0,nilSV,nilSV,.int .i64 0],.struct [(0,22),(1,40),(2,22),(3,3),(4,41),(5,43),(7,22),(8,3)],none⟩
 | 50=>some ⟨1,24,[nilSV],.slice 5,none⟩
 | 52=>some ⟨1,8,[.val (.pointer none)],.pointer,none⟩
 | 55=>some ⟨1,8,[.val (.pointer none)],.pointer,none⟩
 | 59=>some ⟨1,8,[.val (.pointer none)],.pointer,none⟩
 | 60=>some ⟨1,8,[.val (.pointer none)],.pointer,none⟩
 | 61=>some ⟨3,24,[.val (.pointer none),.val (.pointer none),.int .i64 0],.struct [(0,55),(1,60),(2,26)],none⟩
 | 62=>some ⟨3,24,[.val (.pointer none),.val (.pointer none),.int .i64 0],.struct [(0,55),(1,60),(2,26)],none⟩
 | 63=>some ⟨1,8,[.int .u64 0],.int .u64,none⟩
 | 64=>some ⟨2,16,[.int .u64 0,.int .u64 0],.struct [(0,63),(1,63)],(some [true,true])⟩
 | 65=>some ⟨2,16,[.int .u64 0,.int .u64 0],.struct [(0,63),(1,63)],(some [true,true])⟩
 | 66=>some ⟨5,72,[.int .i64 0,nilSV,.int .u64 0,.int .u64 0,nilSV],.struct [(0,43),(2,65),(4,50)],none⟩
 | 67=>some ⟨5,72,[.int .i64 0,nilSV,.int .u64 0,.int .u64 0,nilSV],.struct [(0,43),(2,65),(4,50)],none⟩
 | 76=>some ⟨1,24,[nilSV],.slice 80,none⟩
 | 79=>some ⟨6,48,[.int .i64 0,.int .i64 0,.int .i64 0,.int .i64 0,.int .i64 0,.int .i64 0],.struct [(0,3),(1,3),(2,3),(3,3),(4,3),(5,3)],(some [true,true,true,true,true,true])⟩
 | 80=>some ⟨6,48,[.int .i64 0,.int .i64 0,.int .i64 0,.int .i64 0,.int .i64 0,.int .i64 0],.struct [(0,3),(1,3),(2,3),(3,3),(4,3),(5,3)],(some [true,true,true,true,true,true])⟩
 | 83=>some ⟨1,8,[.int .u64 0],.int .u64,none⟩
 | 85=>some ⟨32,256,[.int .i64 0,.int .i64 0,.int .i64 0,.int .i64 0,.int .i64 0,.int .i64 0,.int .i64 0,.int .i64 0,.int .i64 0,.int .i64 0,.int .i64 0,.int .i64 0,.int .i64 0,.int .i64 0,.int .i64 0,.int .i64 0,.int .i64 0,.int .i64 0,.int .i64 0,.int .i64 0,.int .i64 0,.int .i64 0,.int .i64 0,.int .i64 0,.int .i64 0,.int .i64 0,.int .i64 0,.int .i64 0,.int .i64 0,.int .i64 0,.int .i64 0,.int .i64 0],.array 32 3,(some [true,true,true,true,true,true,true,true,true,true,true,true,true,true,true,true,true,true,true,true,true,true,true,true,true,true,true,true,true,true,true,true])⟩
 | 86=>some ⟨32,256,[.int .i64 0,.int .i64 0,.int .i64 0,.int .i64 0,.int .i64 0,.int .i64 0,.int .i64 0,.int .i64 0,.int .i64 0,.int .i64 0,.int .i64 0,.int .i64 0,.int .i64 0,.int .i64 0,.int .i64 0,.int .i64 0,.int .i64 0,.int .i64 0,.int .i64 0,.int .i64 0,.int .i64 0,.int .i64 0,.int .i64 0,.int .i64 0,.int .i64 0,.int .i64 0,.int .i64 0,.int .i64 0,.int .i64 0,.int .i64 0,.int .i64 0,.int .i64 0],.array 32 3,(some [true,true,true,true,true,true,true,true,true,true,true,true,true,true,true,true,true,true,true,true,true,true,true,true,true,true,true,true,true,true,true,true])⟩
 | 87=>some ⟨36,304,[.int .i64 0,nilSV,.int .i64 0,.int .i64 0,.int .i64 0,.int .i64 0,.int .i64 0,.int .i64 0,.int .i64 0,.int .i64 0,.int .i64 0,.int .i64 0,.int .i64 0,.int .i64 0,.int .i64 0,.int .i64 0,.int .i64 0,.int .i64 0,.int .i64 0,.int .i64 0,.int .i64 0,.int .i64 0,.int .i64 0,.int .i64 0,.int .i64 0,.int .i64 0,.int .i64 0,.int .i64 0,.int .i64 0,.int .i64 0,.int .i64 0,.int .i64 0,.int .i64 0,.int .i64 0,.int .u64 0,.int .u64 0],.struct [(0,43),(2,86),(34,63),(35,63)],none⟩
 | 88=>some ⟨36,304,[.int .i64 0,nilSV,.int .i64 0,.int .i64 0,.int .i64 0,.int .i64 0,.int .i64 0,.int .i64 0,.int .i64 0,.int .i64 0,.int .i64 0,.int .i64 0,.int .i64 0,.int .i64 0,.int .i64 0,.int .i64 0,.int .i64 0,.int .i64 0,.int .i64 0,.int .i64 0,.int .i64 0,.int .i64 0,.int .i64 0,.int .i64 0,.int .i64 0,.int .i64 0,.int .i64 0,.int .i64 0,.int .i64 0,.int .i64 0,.int .i64 0,.int .i64 0,.int .i64 0,.int .i64 0,.int .u64 0,.int .u64 0],.struct [(0,43),(2,86),(34,63),(35,63)],none⟩
 | 90=>some ⟨38,336,[.int .i64 0,nilSV,.int .i64 0,.int .i64 0,.int .i64 0,.int .i64 0,.int .i64 0,.int .i64 0,.int .i64 0,.int .i64 0,.int .i64 0,.int .i64 0,.int .i64 0,.int .i64 0,.int .i64 0,.int .i64 0,.int .i64 0,.int .i64 0,.int .i64 0,.int .i64 0,.int .i64 0,.int .i64 0,.int .i64 0,.int .i64 0,.int .i64 0,.int .i64 0,.int .i64 0,.int .i64 0,.int .i64 0,.int .i64 0,.int .i64 0,.int .i64 0,.int .i64 0,.int .i64 0,.int .u64 0,.int .u64 0,nilSV,.bool false],.struct [(0,88),(36,50),(37,4)],none⟩
 | 91=>some ⟨38,336,[.int .i64 0,nilSV,.int .i64 0,.int .i64 0,.int .i64 0,.int .i64 0,.int .i64 0,.int .i64 0,.int .i64 0,.int .i64 0,.int .i64 0,.int .i64 0,.int .i64 0,.int .i64 0,.int .i64 0,.int .i64 0,.int .i64 0,.int .i64 0,.int .i64 0,.int .i64 0,.int .i64 0,.int .i64 0,.int .i64 0,.int .i64 0,.int .i64 0,.int .i64 0,.int .i64 0,.int .i64 0,.int .i64 0,.int .i64 0,.int .i64 0,.int .i64 0,.int .i64 0,.int .i64 0,.int .u64 0,.int .u64 0,nilSV,.bool false],.struct [(0,88),(36,50),(37,4)],none⟩
 | 94=>some ⟨1,8,[.val (.pointer none)],.pointer,none⟩
 | 95=>some ⟨4,48,[nilSV,.int .i64 0,.int .i64 0,.bool false],.struct [(0,22),(1,3),(2,3),(3,4)],none⟩
 | 96=>some ⟨4,48,[nilSV,.int .i64 0,.int .i64 0,.bool false],.struct [(0,22),(1,3),(2,3),(3,4)],none⟩
 | 106=>some ⟨1,24,[nilSV],.slice 113,none⟩
 | 107=>some ⟨8,160,[.int .i64 0,.int .i64 0,nilSV,nilSV,nilSV,nilSV,nilSV,nilSV],.struct [(0,3),(1,3),(2,76),(3,106),(4,22),(5,40),(6,22),(7,40)],none⟩
 | 108=>some ⟨8,160,[.int .i64 0,.int .i64 0,nilSV,nilSV,nilSV,nilSV,nilSV,nilSV],.struct [(0,3),(1,3),(2,76),(3,106),(4,22),(5,40),(6,22),(7,40)],none⟩
 | 112=>some ⟨8,64,[.int .i64 0,.int .i64 0,.int .i64 0,.int .i64 0,.int .i64 0,.int .i64 0,.int .i64 0,.int .i64 0],.struct [(0,3),(1,3),(2,3),(3,3),(4,3),(5,3),(6,3),(7,3)],(some [true,true,true,true,true,true,true,true])⟩
 | 113=>some ⟨8,64,[.int .i64 0,.int .i64 0,.int .i64 0,.int .i64 0,.int .i64 0,.int .i64 0,.int .i64 0,.int .i64 0],.struct [(0,3),(1,3),(2,3),(3,3),(4,3),(5,3),(6,3),(7,3)],(some [true,true,true,true,true,true,true,true])⟩
 | 119=>some ⟨1,8,[.val (.pointer none)],.pointer,none⟩
 | 127=>some ⟨1,24,[nilSV],.slice 129,none⟩
 | 128=>some ⟨9,72,[.int .i64 0,.int .i64 0,.int .i64 0,.int .i64 0,.int .i64 0,.int .i64 0,.int .i64 0,.int .i64 0,.int .i64 0],.struct [(0,80),(6,3),(7,3),(8,3)],none⟩
 | 129=>some ⟨9,72,[.int .i64 0,.int .i64 0,.int .i64 0,.int .i64 0,.int .i64 0,.int .i64 0,.int .i64 0,.int .i64 0,.int .i64 0],.struct [(0,80),(6,3),(7,3),(8,3)],none⟩
 | 130=>some ⟨1,8,[.val (.pointer none)],.pointer,none⟩
 | 132=>some ⟨1,24,[nilSV],.slice 134,none⟩
 | 134=>some ⟨2,16,[.int .i64 0,.int .i64 0],.array 2 3,(some [true,true])⟩
 | 138=>some ⟨1,4,[.int .u32 0],.int .u32,none⟩
 | 142=>some ⟨1,8,[.val (.pointer none)],.pointer,none⟩
 | 146=>some ⟨42,360,[.int .i64 0,nilSV,.int .i64 0,.int .i64 0,.int .i64 0,.int .i64 0,.int .i64 0,.int .i64 0,.int .i64 0,.int .i64 0,.int .i64 0,.int .i64 0,.int .i64 0,.int .i64 0,.int .i64 0,.int .i64 0,.int .i64 0,.int .i64 0,.int .i64 0,.int .i64 0,.int .i64 0,.int .i64 0,.int .i64 0,.int .i64 0,.int .i64 0,.int .i64 0,.int .i64 0,.int .i64 0,.int .i64 0,.int .i64 0,.int .i64 0,.int .i64 0,.int .i64 0,.int .i64 0,.int .u64 0,.int .u64 0,nilSV,.int .i64 0,.int .u64 0,.int .i64 0,.bool false,.bool false],.struct [(0,88),(36,50),(37,3),(38,63),(39,3),(40,4),(41,4)],none⟩
 | 147=>some ⟨42,360,[.int .i64 0,nilSV,.int .i64 0,.int .i64 0,.int .i64 0,.int .i64 0,.int .i64 0,.int .i64 0,.int .i64 0,.int .i64 0,.int .i64 0,.int .i64 0,.int .i64 0,.int .i64 0,.int .i64 0,.int .i64 0,.int .i64 0,.int .i64 0,.int .i64 0,.int .i64 0,.int .i64 0,.int .i64 0,.int .i64 0,.int .i64 0,.int .i64 0,.int .i64 0,.int .i64 0,.int .i64 0,.int .i64 0,.int .i64 0,.int .i64 0,.int .i64 0,.int .i64 0,.int .i64 0,.int .u64 0,.int .u64 0,nilSV,.int .i64 0,.int .u64 0,.int .i64 0,.bool false,.bool false],.struct [(0,88),(36,50),(37,3),(38,63),(39,3),(40,4),(41,4)],none⟩
 | 153=>some ⟨9,104,[.int .i64 0,nilSV,.int .u64 0,.int .u64 0,nilSV,.int .i64 0,.int .u64 0,.int .i64 0,.bool false],.struct [(0,43),(2,65),(4,50),(5,3),(6,63),(7,3),(8,4)],none⟩
 | 154=>some ⟨9,104,[.int .i64 0,nilSV,.int .u64 0,.int .u64 0,nilSV,.int .i64 0,.int .u64 0,.int .i64 0,.bool false],.struct [(0,43),(2,65),(4,50),(5,3),(6,63),(7,3),(8,4)],none⟩
 | 157=>some ⟨4,40,[.val (.pointer none),.val (.pointer none),.val (.pointer none),.val (.string ⟨#[]⟩)],.struct [(0,17),(1,17),(2,17),(3,9)],none⟩
 | 158=>some ⟨4,40,[.val (.pointer none),.val (.pointer none),.val (.pointer none),.val (.string ⟨#[]⟩)],.struct [(0,17),(1,17),(2,17),(3,9)],none⟩
 | 159=>some ⟨0,0,[],.array 0 16,none⟩
 | 160=>some ⟨0,0,[],.struct [(0,159)],none⟩
 | 161=>some ⟨0,0,[],.struct [(0,159)],none⟩
 | 163=>some ⟨1,1,[.int .u8 0],.int .u8,none⟩
 | 164=>some ⟨1,1,[.int .u8 0],.int .u8,none⟩
 | 166=>some ⟨1,8,[.val (.pointer none)],.pointer,none⟩
 | 167=>some ⟨1,4,[.int .i32 0],.int .i32,none⟩
 | 168=>some ⟨1,4,[.int .i32 0],.int .i32,none⟩
 | 169=>some ⟨11,48,[.int .u64 0,.int .u64 0,.int .u32 0,.int .u8 0,.int .u8 0,.int .u8 0,.int .u8 0,.val .nilFunc,.val (.pointer none),.int .i32 0,.int .i32 0],.struct [(0,12),(1,12),(2,138),(3,163),(4,5),(5,5),(6,164),(7,165),(8,166),(9,167),(10,168)],none⟩
 | 170=>some ⟨11,48,[.int .u64 0,.int .u64 0,.int .u32 0,.int .u8 0,.int .u8 0,.int .u8 0,.int .u8 0,.val .nilFunc,.val (.pointer none),.int .i32 0,.int .i32 0],.struct [(0,12),(1,12),(2,138),(3,163),(4,5),(5,5),(6,164),(7,165),(8,166),(9,167),(10,168)],none⟩
 | _=>none
theorem tt2:TtOk Tryz.prog 2 ⟨1,8,[.int .i64 0],.int .i64,none⟩:=TtOk.of (z:=.int .i64 0) (by kernel_rfl) (by kernel_rfl) (by simp[Dens,Den,nilSV,nilLoc0,Value.cells]) (by simp[TT.agg,Value.cells]) Tryz.underlying2 (by first | exact⟨_,rfl,rfl⟩ | rfl | exact⟨_,rfl⟩) (by first | rfl | kernel_rfl) rfl
theorem tt3:TtOk Tryz.prog 3 ⟨1,8,[.int .i64 0],.int .i64,none⟩:=TtOk.of (z:=.int .i64 0) (by kernel_rfl) (by kernel_rfl) (by simp[Dens,Den,nilSV,nilLoc0,Value.cells]) (by simp[TT.agg,Value.cells]) Tryz.underlying3 (by first | exact⟨_,rfl,rfl⟩ | rfl | exact⟨_,rfl⟩) (by first | rfl | kernel_rfl) rfl
theorem tt4:TtOk Tryz.prog 4 ⟨1,1,[.bool false],.bool,none⟩:=TtOk.of (z:=.bool false) (by kernel_rfl) (by kernel_rfl) (by simp[Dens,Den,nilSV,nilLoc0,Value.cells]) (by simp[TT.agg,Value.cells]) Tryz.underlying4 (by first | exact⟨_,rfl,rfl⟩ | rfl | exact⟨_,rfl⟩) (by first | rfl | kernel_rfl) rfl
theorem tt5:TtOk Tryz.prog 5 ⟨1,1,[.int .u8 0],.int .u8,none⟩:=TtOk.of (z:=.int .u8 0) (by kernel_rfl) (by kernel_rfl) (by simp[Dens,Den,nilSV,nilLoc0,Value.cells]) (by simp[TT.agg,Value.cells]) Tryz.underlying5 (by first | exact⟨_,rfl,rfl⟩ | rfl | exact⟨_,rfl⟩) (by first | rfl | kernel_rfl) rfl
theorem tt6:TtOk Tryz.prog 6 ⟨1,1,[.int .u8 0],.int .u8,none⟩:=TtOk.of (z:=.int .u8 0) (by kernel_rfl) (by kernel_rfl) (by simp[Dens,Den,nilSV,nilLoc0,Value.cells]) (by simp[TT.agg,Value.cells]) Tryz.underlying6 (by first | exact⟨_,rfl,rfl⟩ | rfl | exact⟨_,rfl⟩) (by first | rfl | kernel_rfl) rfl
theorem tt7:TtOk Tryz.prog 7 ⟨4,24,[.int .i64 0,.int .i64 0,.bool false,.int .u8 0],.struct [(0,2),(1,3),(2,4),(3,6)],(some [true,true,false,true])⟩:=TtOk.of (z:=.agg #[.int .i64 0,.int .i64 0,.bool false,.int .u8 0]) (by kernel_rfl) (by kernel_rfl) (by simp[Dens,Den,nilSV,nilLoc0,Value.cells]) (by simp[TT.agg,Value.cells]) Tryz.underlying7 (by first | exact⟨_,rfl,rfl⟩ | rfl | exact⟨_,rfl⟩) (by first | rfl | kernel_rfl) rfl
theorem tt8:TtOk Tryz.prog 8 ⟨4,24,[.int .i64 0,.int .i64 0,.bool false,.int .u8 0],.struct [(0,2),(1,3),(2,4),(3,6)],(some [true,true,false,true])⟩:=TtOk.of (z:=.agg #[.int .i64 0,.int .i64 0,.bool false,.int .u8 0]) (by kernel_rfl) (by kernel_rfl) (by simp[Dens,Den,nilSV,nilLoc0,Value.cells]) (by simp[TT.agg,Value.cells]) Tryz.underlying8 (by first | exact⟨_,rfl,rfl⟩ | rfl | exact⟨_,rfl⟩) (by first | rfl | kernel_rfl) rfl
theorem tt9:TtOk Tryz.prog 9 ⟨1,16,[.val (.string ⟨#[]⟩)],.string,none⟩:=TtOk.of (z:=.string ⟨#[]⟩) (by kernel_rfl) (by kernel_rfl) (by simp[Dens,Den,nilSV,nilLoc0,Value.cells]) (by simp[TT.agg,Value.cells]) Tryz.underlying9 (by first | exact⟨_,rfl,rfl⟩ | rfl | exact⟨_,rfl⟩) (by first | rfl | kernel_rfl) rfl
theorem tt12:TtOk Tryz.prog 12 ⟨1,8,[.int .u64 0],.int .u64,none⟩:=TtOk.of (z:=.int .u64 0) (by kernel_rfl) (by kernel_rfl) (by simp[Dens,Den,nilSV,nilLoc0,Value.cells]) (by simp[TT.agg,Value.cells]) Tryz.underlying12 (by first | exact⟨_,rfl,rfl⟩ | rfl | exact⟨_,rfl⟩) (by first | rfl | kernel_rfl) rfl
theorem tt13:TtOk Tryz.prog 13 ⟨2,24,[.val (.string ⟨#[]⟩),.int .u64 0],.struct [(0,9),(1,12)],none⟩:=TtOk.of (z:=.agg #[.string ⟨#[]⟩,.int .u64 0]) (by kernel_rfl) (by kernel_rfl) (by simp[Dens,Den,nilSV,nilLoc0,Value.cells]) (by simp[TT.agg,Value.cells]) Tryz.underlying13 (by first | exact⟨_,rfl,rfl⟩ | rfl | exact⟨_,rfl⟩) (by first | rfl | kernel_rfl) rfl
theorem tt14:TtOk Tryz.prog 14 ⟨2,24,[.val (.string ⟨#[]⟩),.int .u64 0],.struct [(0,9),(1,12)],none⟩:=TtOk.of (z:=.agg #[.string ⟨#[]⟩,.int .u64 0]) (by kernel_rfl) (by kernel_rfl) (by simp[Dens,Den,nilSV,nilLoc0,Value.cells]) (by simp[TT.agg,Value.cells]) Tryz.underlying14 (by first | exact⟨_,rfl,rfl⟩ | rfl | exact⟨_,rfl⟩) (by first | rfl | kernel_rfl) rfl
theorem tt15:TtOk Tryz.prog 15 ⟨1,8,[.val (.pointer none)],.pointer,none⟩:=TtOk.of (z:=.pointer none) (by kernel_rfl) (by kernel_rfl) (by simp[Dens,Den,nilSV,nilLoc0,Value.cells]) (by simp[TT.agg,Value.cells]) Tryz.underlying15 (by first | exact⟨_,rfl,rfl⟩ | rfl | exact⟨_,rfl⟩) (by first | rfl | kernel_rfl) rfl
theorem tt16:TtOk Tryz.prog 16 ⟨1,8,[.val (.pointer none)],.pointer,none⟩:=TtOk.of (z:=.pointer none) (by kernel_rfl) (by kernel_rfl) (by simp[Dens,Den,nilSV,nilLoc0,Value.cells]) (by simp[TT.agg,Value.cells]) Tryz.underlying16 (by first | exact⟨_,rfl,rfl⟩ | rfl | exact⟨_,rfl⟩) (by first | rfl | kernel_rfl) rfl
theorem tt17:TtOk Tryz.prog 17 ⟨1,8,[.val (.pointer none)],.pointer,none⟩:=TtOk.of (z:=.pointer none) (by kernel_rfl) (by kernel_rfl) (by simp[Dens,Den,nilSV,nilLoc0,Value.cells]) (by simp[TT.agg,Value.cells]) Tryz.underlying17 (by first | exact⟨_,rfl,rfl⟩ | rfl | exact⟨_,rfl⟩) (by first | rfl | kernel_rfl) rfl
theorem tt18:TtOk Tryz.prog 18 ⟨1,8,[.val (.pointer none)],.struct [(0,17)],none⟩:=TtOk.of (z:=.agg #[.pointer none]) (by kernel_rfl) (by kernel_rfl) (by simp[Dens,Den,nilSV,nilLoc0,Value.cells]) (by simp[TT.agg,Value.cells]) Tryz.underlying18 (by first | exact⟨_,rfl,rfl⟩ | rfl | exact⟨_,rfl⟩) (by first | rfl | kernel_rfl) rfl
theorem tt19:TtOk Tryz.prog 19 ⟨1,8,[.val (.pointer none)],.struct [(0,17)],none⟩:=TtOk.of (z:=.agg #[.pointer none]) (by kernel_rfl) (by kernel_rfl) (by simp[Dens,Den,nilSV,nilLoc0,Value.cells]) (by simp[TT.agg,Value.cells]) Tryz.underlying19 (by first | exact⟨_,rfl,rfl⟩ | rfl | exact⟨_,rfl⟩) (by first | rfl | kernel_rfl) rfl
theorem tt21:TtOk Tryz.prog 21 ⟨1,4,[.int .i32 0],.int .i32,none⟩:=TtOk.of (z:=.int .i32 0) (by kernel_rfl) (by kernel_rfl) (by simp[Dens,Den,nilSV,nilLoc0,Value.cells]) (by simp[TT.agg,Value.cells]) Tryz.underlying21 (by first | exact⟨_,rfl,rfl⟩ | rfl | exact⟨_,rfl⟩) (by first | rfl | kernel_rfl) rfl
theorem tt22:TtOk Tryz.prog 22 ⟨1,24,[nilSV],.slice 3,none⟩:=TtOk.of (z:=.slice none 0 0) (by kernel_rfl) (by kernel_rfl) (by simp[Dens,Den,nilSV,nilLoc0,Value.cells]) (by simp[TT.agg,Value.cells]) Tryz.underlying22 (by first | exact⟨_,rfl,rfl⟩ | rfl | exact⟨_,rfl⟩) (by first | rfl | kernel_rfl) rfl
theorem tt23:TtOk Tryz.prog 23 ⟨3,40,[.int .i64 0,.int .i64 0,nilSV],.struct [(0,3),(1,3),(2,22)],none⟩:=TtOk.of (z:=.agg #[.int .i64 0,.int .i64 0,.slice none 0 0]) (by kernel_rfl) (by kernel_rfl) (by simp[Dens,Den,nilSV,nilLoc0,Value.cells]) (by simp[TT.agg,Value.cells]) Tryz.underlying23 (by first | exact⟨_,rfl,rfl⟩ | rfl | exact⟨_,rfl⟩) (by first | rfl | kernel_rfl) rfl
theorem tt24:TtOk Tryz.prog 24 ⟨3,40,[.int .i64 0,.int .i64 0,nilSV],.struct [(0,3),(1,3),(2,22)],none⟩:=TtOk.of (z:=.agg #[.int .i64 0,.int .i64 0,.slice none 0 0]) (by kernel_rfl) (by kernel_rfl) (by simp[Dens,Den,nilSV,nilLoc0,Value.cells]) (by simp[TT.agg,Value.cells]) Tryz.underlying24 (by first | exact⟨_,rfl,rfl⟩ | rfl | exact⟨_,rfl⟩) (by first | rfl | kernel_rfl) rfl
theorem tt25:TtOk Tryz.prog 25 ⟨1,24,[nilSV],.slice 50,none⟩:=TtOk.of (z:=.slice none 0 0) (by kernel_rfl) (by kernel_rfl) (by simp[Dens,Den,nilSV,nilLoc0,Value.cells]) (by simp[TT.agg,Value.cells]) Tryz.underlying25 (by first | exact⟨_,rfl,rfl⟩ | rfl | exact⟨_,rfl⟩) (by first | rfl | kernel_rfl) rfl
theorem tt26:TtOk Tryz.prog 26 ⟨1,8,[.int .i64 0],.int .i64,none⟩:=TtOk.of (z:=.int .i64 0) (by kernel_rfl) (by kernel_rfl) (by simp[Dens,Den,nilSV,nilLoc0,Value.cells]) (by simp[TT.agg,Value.cells]) Tryz.underlying26 (by first | exact⟨_,rfl,rfl⟩ | rfl | exact⟨_,rfl⟩) (by first | rfl | kernel_rfl) rfl
theorem tt34:TtOk Tryz.prog 34 ⟨1,8,[.val (.pointer none)],.pointer,none⟩:=TtOk.of (z:=.pointer none) (by kernel_rfl) (by kernel_rfl) (by simp[Dens,Den,nilSV,nilLoc0,Value.cells]) (by simp[TT.agg,Value.cells]) Tryz.underlying34 (by first | exact⟨_,rfl,rfl⟩ | rfl | exact⟨_,rfl⟩) (by first | rfl | kernel_rfl) rfl
theorem tt37:TtOk Tryz.prog 37 ⟨1,8,[.val (.pointer none)],.pointer,none⟩:=TtOk.of (z:=.pointer none) (by kernel_rfl) (by kernel_rfl) (by simp[Dens,Den,nilSV,nilLoc0,Value.cells]) (by simp[TT.agg,Value.cells]) Tryz.underlying37 (by first | exact⟨_,rfl,rfl⟩ | rfl | exact⟨_,rfl⟩) (by first | rfl | kernel_rfl) rfl
theorem tt40:TtOk Tryz.prog 40 ⟨1,24,[nilSV],.slice 4,none⟩:=TtOk.of (z:=.slice none 0 0) (by kernel_rfl) (by kernel_rfl) (by simp[Dens,Den,nilSV,nilLoc0,Value.cells]) (by simp[TT.agg,Value.cells]) Tryz.underlying40 (by first | exact⟨_,rfl,rfl⟩ | rfl | exact⟨_,rfl⟩) (by first | rfl | kernel_rfl) rfl
theorem tt41:TtOk Tryz.prog 41 ⟨1,24,[nilSV],.slice 96,none⟩:=TtOk.of (z:=.slice none 0 0) (by kernel_rfl) (by kernel_rfl) (by simp[Dens,Den,nilSV,nilLoc0,Value.cells]) (by simp[TT.agg,Value.cells]) Tryz.underlying41 (by first | exact⟨_,rfl,rfl⟩ | rfl | exact⟨_,rfl⟩) (by first | rfl | kernel_rfl) rfl
theorem tt42:TtOk Tryz.prog 42 ⟨2,32,[.int .i64 0,nilSV],.struct [(0,3),(1,22)],none⟩:=TtOk.of (z:=.agg #[.int .i64 0,.slice none 0 0]) (by kernel_rfl) (by kernel_rfl) (by simp[Dens,Den,nilSV,nilLoc0,Value.cells]) (by simp[TT.agg,Value.cells]) Tryz.underlying42 (by first | exact⟨_,rfl,rfl⟩ | rfl | exact⟨_,rfl⟩) (by first | rfl | kernel_rfl) rfl
theorem tt43:TtOk Tryz.prog 43 ⟨2,32,[.int .i64 0,nilSV],.struct [(0,3),(1,22)],none⟩:=TtOk.of (z:=.agg #[.int .i64 0,.slice none 0 0]) (by kernel_rfl) (by kernel_rfl) (by simp[Dens,Den,nilSV,nilLoc0,Value.cells]) (by simp[TT.agg,Value.cells]) Tryz.underlying43 (by first | exact⟨_,rfl,rfl⟩ | rfl | exact⟨_,rfl⟩) (by first | rfl | kernel_rfl) rfl
theorem tt44:TtOk Tryz.prog 44 ⟨9,168,[nilSV,nilSV,nilSV,.int .i64 0,nilSV,.int .i64 0,nilSV,nilSV,.int .i64 0],.struct [(0,22),(1,40),(2,22),(3,3),(4,41),(5,43),(7,22),(8,3)],none⟩:=TtOk.of (z:=.agg #[.slice none 0 0,.slice none 0 0,.slice none 0 0,.int .i64 0,.slice none 0 0,.int .i64 0,.slice none 0 0,.slice none 0 0,.int .i64 0]) (by kernel_rfl) (by kernel_rfl) (by simp[Dens,Den,nilSV,nilLoc0,Value.cells]) (by simp[TT.agg,Value.cells]) Tryz.underlying44 (by first | exact⟨_,rfl,rfl⟩ | rfl | exact⟨_,rfl⟩) (by first | rfl | kernel_rfl) rfl
theorem tt45:TtOk Tryz.prog 45 ⟨9,168,[nilSV,nilSV,nilSV,.int .i64 0,nilSV,.int .i64 0,nilSV,nilSV,.int .i64 0],.struct [(0,22),(1,40),(2,22),(3,3),(4,41),(5,43),(7,22),(8,3)],none⟩:=TtOk.of (z:=.agg #[.slice none 0 0,.slice none 0 0,.slice none 0 0,.int .i64 0,.slice none 0 0,.int .i64 0,.slice none 0 0,.slice none 0 0,.int .i64 0]) (by kernel_rfl) (by kernel_rfl) (by simp[Dens,Den,nilSV,nilLoc0,Value.cells]) (by simp[TT.agg,Value.cells]) Tryz.underlying45 (by first | exact⟨_,rfl,rfl⟩ | rfl | exact⟨_,rfl⟩) (by first | rfl | kernel_rfl) rfl
theorem tt50:TtOk Tryz.prog 50 ⟨1,24,[nilSV],.slice 5,none⟩:=TtOk.of (z:=.slice none 0 0) (by kernel_rfl) (by kernel_rfl) (by simp[Dens,Den,nilSV,nilLoc0,Value.cells]) (by simp[TT.agg,Value.cells]) Tryz.underlying50 (by first | exact⟨_,rfl,rfl⟩ | rfl | exact⟨_,rfl⟩) (by first | rfl | kernel_rfl) rfl
theorem tt52:TtOk Tryz.prog 52 ⟨1,8,[.val (.pointer none)],.pointer,none⟩:=TtOk.of (z:=.pointer none) (by kernel_rfl) (by kernel_rfl) (by simp[Dens,Den,nilSV,nilLoc0,Value.cells]) (by simp[TT.agg,Value.cells]) Tryz.underlying52 (by first | exact⟨_,rfl,rfl⟩ | rfl | exact⟨_,rfl⟩) (by first | rfl | kernel_rfl) rfl
theorem tt55:TtOk Tryz.prog 55 ⟨1,8,[.val (.pointer none)],.pointer,none⟩:=TtOk.of (z:=.pointer none) (by kernel_rfl) (by kernel_rfl) (by simp[Dens,Den,nilSV,nilLoc0,Value.cells]) (by simp[TT.agg,Value.cells]) Tryz.underlying55 (by first | exact⟨_,rfl,rfl⟩ | rfl | exact⟨_,rfl⟩) (by first | rfl | kernel_rfl) rfl
theorem tt59:TtOk Tryz.prog 59 ⟨1,8,[.val (.pointer none)],.pointer,none⟩:=TtOk.of (z:=.pointer none) (by kernel_rfl) (by kernel_rfl) (by simp[Dens,Den,nilSV,nilLoc0,Value.cells]) (by simp[TT.agg,Value.cells]) Tryz.underlying59 (by first | exact⟨_,rfl,rfl⟩ | rfl | exact⟨_,rfl⟩) (by first | rfl | kernel_rfl) rfl
theorem tt60:TtOk Tryz.prog 60 ⟨1,8,[.val (.pointer none)],.pointer,none⟩:=TtOk.of (z:=.pointer none) (by kernel_rfl) (by kernel_rfl) (by simp[Dens,Den,nilSV,nilLoc0,Value.cells]) (by simp[TT.agg,Value.cells]) Tryz.underlying60 (by first | exact⟨_,rfl,rfl⟩ | rfl | exact⟨_,rfl⟩) (by first | rfl | kernel_rfl) rfl
theorem tt61:TtOk Tryz.prog 61 ⟨3,24,[.val (.pointer none),.val (.pointer none),.int .i64 0],.struct [(0,55),(1,60),(2,26)],none⟩:=TtOk.of (z:=.agg #[.pointer none,.pointer none,.int .i64 0]) (by kernel_rfl) (by kernel_rfl) (by simp[Dens,Den,nilSV,nilLoc0,Value.cells]) (by simp[TT.agg,Value.cells]) Tryz.underlying61 (by first | exact⟨_,rfl,rfl⟩ | rfl | exact⟨_,rfl⟩) (by first | rfl | kernel_rfl) rfl
theorem tt62:TtOk Tryz.prog 62 ⟨3,24,[.val (.pointer none),.val (.pointer none),.int .i64 0],.struct [(0,55),(1,60),(2,26)],none⟩:=TtOk.of (z:=.agg #[.pointer none,.pointer none,.int .i64 0]) (by kernel_rfl) (by kernel_rfl) (by simp[Dens,Den,nilSV,nilLoc0,Value.cells]) (by simp[TT.agg,Value.cells]) Tryz.underlying62 (by first | exact⟨_,rfl,rfl⟩ | rfl | exact⟨_,rfl⟩) (by first | rfl | kernel_rfl) rfl
theorem tt63:TtOk Tryz.prog 63 ⟨1,8,[.int .u64 0],.int .u64,none⟩:=TtOk.of (z:=.int .u64 0) (by kernel_rfl) (by kernel_rfl) (by simp[Dens,Den,nilSV,nilLoc0,Value.cells]) (by simp[TT.agg,Value.cells]) Tryz.underlying63 (by first | exact⟨_,rfl,rfl⟩ | rfl | exact⟨_,rfl⟩) (by first | rfl | kernel_rfl) rfl
theorem tt64:TtOk Tryz.prog 64 ⟨2,16,[.int .u64 0,.int .u64 0],.struct [(0,63),(1,63)],(some [true,true])⟩:=TtOk.of (z:=.agg #[.int .u64 0,.int .u64 0]) (by kernel_rfl) (by kernel_rfl) (by simp[Dens,Den,nilSV,nilLoc0,Value.cells]) (by simp[TT.agg,Value.cells]) Tryz.underlying64 (by first | exact⟨_,rfl,rfl⟩ | rfl | exact⟨_,rfl⟩) (by first | rfl | kernel_rfl) rfl
theorem tt65:TtOk Tryz.prog 65 ⟨2,16,[.int .u64 0,.int .u64 0],.struct [(0,63),(1,63)],(some [true,true])⟩:=TtOk.of (z:=.agg #[.int .u64 0,.int .u64 0]) (by kernel_rfl) (by kernel_rfl) (by simp[Dens,Den,nilSV,nilLoc0,Value.cells]) (by simp[TT.agg,Value.cells]) Tryz.underlying65 (by first | exact⟨_,rfl,rfl⟩ | rfl | exact⟨_,rfl⟩) (by first | rfl | kernel_rfl) rfl
theorem tt66:TtOk Tryz.prog 66 ⟨5,72,[.int .i64 0,nilSV,.int .u64 0,.int .u64 0,nilSV],.struct [(0,43),(2,65),(4,50)],none⟩:=TtOk.of (z:=.agg #[.int .i64 0,.slice none 0 0,.int .u64 0,.int .u64 0,.slice none 0 0]) (by kernel_rfl) (by kernel_rfl) (by simp[Dens,Den,nilSV,nilLoc0,Value.cells]) (by simp[TT.agg,Value.cells]) Tryz.underlying66 (by first | exact⟨_,rfl,rfl⟩ | rfl | exact⟨_,rfl⟩) (by first | rfl | kernel_rfl) rfl
theorem tt67:TtOk Tryz.prog 67 ⟨5,72,[.int .i64 0,nilSV,.int .u64 0,.int .u64 0,nilSV],.struct [(0,43),(2,65),(4,50)],none⟩:=TtOk.of (z:=.agg #[.int .i64 0,.slice none 0 0,.int .u64 0,.int .u64 0,.slice none 0 0]) (by kernel_rfl) (by kernel_rfl) (by simp[Dens,Den,nilSV,nilLoc0,Value.cells]) (by simp[TT.agg,Value.cells]) Tryz.underlying67 (by first | exact⟨_,rfl,rfl⟩ | rfl | exact⟨_,rfl⟩) (by first | rfl | kernel_rfl) rfl
theorem tt76:TtOk Tryz.prog 76 ⟨1,24,[nilSV],.slice 80,none⟩:=TtOk.of (z:=.slice none 0 0) (by kernel_rfl) (by kernel_rfl) (by simp[Dens,Den,nilSV,nilLoc0,Value.cells]) (by simp[TT.agg,Value.cells]) Tryz.underlying76 (by first | exact⟨_,rfl,rfl⟩ | rfl | exact⟨_,rfl⟩) (by first | rfl | kernel_rfl) rfl
theorem tt79:TtOk Tryz.prog 79 ⟨6,48,[.int .i64 0,.int .i64 0,.int .i64 0,.int .i64 0,.int .i64 0,.int .i64 0],.struct [(0,3),(1,3),(2,3),(3,3),(4,3),(5,3)],(some [true,true,true,true,true,true])⟩:=TtOk.of (z:=.agg #[.int .i64 0,.int .i64 0,.int .i64 0,.int .i64 0,.int .i64 0,.int .i64 0]) (by kernel_rfl) (by kernel_rfl) (by simp[Dens,Den,nilSV,nilLoc0,Value.cells]) (by simp[TT.agg,Value.cells]) Tryz.underlying79 (by first | exact⟨_,rfl,rfl⟩ | rfl | exact⟨_,rfl⟩) (by first | rfl | kernel_rfl) rfl
theorem tt80:TtOk Tryz.prog 80 ⟨6,48,[.int .i64 0,.int .i64 0,.int .i64 0,.int .i64 0,.int .i64 0,.int .i64 0],.struct [(0,3),(1,3),(2,3),(3,3),(4,3),(5,3)],(some [true,true,true,true,true,true])⟩:=TtOk.of (z:=.agg #[.int .i64 0,.int .i64 0,.int .i64 0,.int .i64 0,.int .i64 0,.int .i64 0]) (by kernel_rfl) (by kernel_rfl) (by simp[Dens,Den,nilSV,nilLoc0,Value.cells]) (by simp[TT.agg,Value.cells]) Tryz.underlying80 (by first | exact⟨_,rfl,rfl⟩ | rfl | exact⟨_,rfl⟩) (by first | rfl | kernel_rfl) rfl
theorem tt83:TtOk Tryz.prog 83 ⟨1,8,[.int .u64 0],.int .u64,none⟩:=TtOk.of (z:=.int .u64 0) (by kernel_rfl) (by kernel_rfl) (by simp[Dens,Den,nilSV,nilLoc0,Value.cells]) (by simp[TT.agg,Value.cells]) Tryz.underlying83 (by first | exact⟨_,rfl,rfl⟩ | rfl | exact⟨_,rfl⟩) (by first | rfl | kernel_rfl) rfl
theorem tt85:TtOk Tryz.prog 85 ⟨32,256,[.int .i64 0,.int .i64 0,.int .i64 0,.int .i64 0,.int .i64 0,.int .i64 0,.int .i64 0,.int .i64 0,.int .i64 0,.int .i64 0,.int .i64 0,.int .i64 0,.int .i64 0,.int .i64 0,.int .i64 0,.int .i64 0,.int .i64 0,.int .i64 0,.int .i64 0,.int .i64 0,.int .i64 0,.int .i64 0,.int .i64 0,.int .i64 0,.int .i64 0,.int .i64 0,.int .i64 0,.int .i64 0,.int .i64 0,.int .i64 0,.int .i64 0,.int .i64 0],.array 32 3,(some [true,true,true,true,true,true,true,true,true,true,true,true,true,true,true,true,true,true,true,true,true,true,true,true,true,true,true,true,true,true,true,true])⟩:=TtOk.of (z:=.agg #[.int .i64 0,.int .i64 0,.int .i64 0,.int .i64 0,.int .i64 0,.int .i64 0,.int .i64 0,.int .i64 0,.int .i64 0,.int .i64 0,.int .i64 0,.int .i64 0,.int .i64 0,.int .i64 0,.int .i64 0,.int .i64 0,.int .i64 0,.int .i64 0,.int .i64 0,.int .i64 0,.int .i64 0,.int .i64 0,.int .i64 0,.int .i64 0,.int .i64 0,.int .i64 0,.int .i64 0,.int .i64 0,.int .i64 0,.int .i64 0,.int .i64 0,.int .i64 0]) (by kernel_rfl) (by kernel_rfl) (by simp[Dens,Den,nilSV,nilLoc0,Value.cells]) (by simp[TT.agg,Value.cells]) Tryz.underlying85 (by first | exact⟨_,rfl,rfl⟩ | rfl | exact⟨_,rfl⟩) (by first | rfl | kernel_rfl) rfl
theorem tt86:TtOk Tryz.prog 86 ⟨32,256,[.int .i64 0,.int .i64 0,.int .i64 0,.int .i64 0,.int .i64 0,.int .i64 0,.int .i64 0,.int .i64 0,.int .i64 0,.int .i64 0,.int .i64 0,.int .i64 0,.int .i64 0,.int .i64 0,.int .i64 0,.int .i64 0,.int .i64 0,.int .i64 0,.int .i64 0,.int .i64 0,.int .i64 0,.int .i64 0,.int .i64 0,.int .i64 0,.int .i64 0,.int .i64 0,.int .i64 0,.int .i64 0,.int .i64 0,.int .i64 0,.int .i64 0,.int .i64 0],.array 32 3,(some [true,true,true,true,true,true,true,true,true,true,true,true,true,true,true,true,true,true,true,true,true,true,true,true,true,true,true,true,true,true,true,true])⟩:=TtOk.of (z:=.agg #[.int .i64 0,.int .i64 0,.int .i64 0,.int .i64 0,.int .i64 0,.int .i64 0,.int .i64 0,.int .i64 0,.int .i64 0,.int .i64 0,.int .i64 0,.int .i64 0,.int .i64 0,.int .i64 0,.int .i64 0,.int .i64 0,.int .i64 0,.int .i64 0,.int .i64 0,.int .i64 0,.int .i64 0,.int .i64 0,.int .i64 0,.int .i64 0,.int .i64 0,.int .i64 0,.int .i64 0,.int .i64 0,.int .i64 0,.int .i64 0,.int .i64 0,.int .i64 0]) (by kernel_rfl) (by kernel_rfl) (by simp[Dens,Den,nilSV,nilLoc0,Value.cells]) (by simp[TT.agg,Value.cells]) Tryz.underlying86 (by first | exact⟨_,rfl,rfl⟩ | rfl | exact⟨_,rfl⟩) (by first | rfl | kernel_rfl) rfl
theorem tt87:TtOk Tryz.prog 87 ⟨36,304,[.int .i64 0,nilSV,.int .i64 0,.int .i64 0,.int .i64 0,.int .i64 0,.int .i64 0,.int .i64 0,.int .i64 0,.int .i64 0,.int .i64 0,.int .i64 0,.int .i64 0,.int .i64 0,.int .i64 0,.int .i64 0,.int .i64 0,.int .i64 0,.int .i64 0,.int .i64 0,.int .i64 0,.int .i64 0,.int .i64 0,.int .i64 0,.int .i64 0,.int .i64 0,.int .i64 0,.int .i64 0,.int .i64 0,.int .i64 0,.int .i64 0,.int .i64 0,.int .i64 0,.int .i64 0,.int .u64 0,.int .u64 0],.struct [(0,43),(2,86),(34,63),(35,63)],none⟩:=TtOk.of (z:=.agg #[.int .i64 0,.slice none 0 0,.int .i64 0,.int .i64 0,.int .i64 0,.int .i64 0,.int .i64 0,.int .i64 0,.int .i64 0,.int .i64 0,.int .i64 0,.int .i64 0,.int .i64 0,.int .i64 0,.int .i64 0,.int .i64 0,.int .i64 0,.int .i64 0,.int .i64 0,.int .i64 0,.int .i64 0,.int .i64 0,.int .i64 0,.int .i64 0,.int .i64 0,.int .i64 0,.int .i64 0,.int .i64 0,.int .i64 0,.int .i64 0,.int .i64 0,.int .i64 0,.int .i64 0,.int .i64 0,.int .u64 0,.int .u64 0]) (by kernel_rfl) (by kernel_rfl) (by simp[Dens,Den,nilSV,nilLoc0,Value.cells]) (by simp[TT.agg,Value.cells]) Tryz.underlying87 (by first | exact⟨_,rfl,rfl⟩ | rfl | exact⟨_,rfl⟩) (by first | rfl | kernel_rfl) rfl
theorem tt88:TtOk Tryz.prog 88 ⟨36,304,[.int .i64 0,nilSV,.int .i64 0,.int .i64 0,.int .i64 0,.int .i64 0,.int .i64 0,.int .i64 0,.int .i64 0,.int .i64 0,.int .i64 0,.int .i64 0,.int .i64 0,.int .i64 0,.int .i64 0,.int .i64 0,.int .i64 0,.int .i64 0,.int .i64 0,.int .i64 0,.int .i64 0,.int .i64 0,.int .i64 0,.int .i64 0,.int .i64 0,.int .i64 0,.int .i64 0,.int .i64 0,.int .i64 0,.int .i64 0,.int .i64 0,.int .i64 0,.int .i64 0,.int .i64 0,.int .u64 0,.int .u64 0],.struct [(0,43),(2,86),(34,63),(35,63)],none⟩:=TtOk.of (z:=.agg #[.int .i64 0,.slice none 0 0,.int .i64 0,.int .i64 0,.int .i64 0,.int .i64 0,.int .i64 0,.int .i64 0,.int .i64 0,.int .i64 0,.int .i64 0,.int .i64 0,.int .i64 0,.int .i64 0,.int .i64 0,.int .i64 0,.int .i64 0,.int .i64 0,.int .i64 0,.int .i64 0,.int .i64 0,.int .i64 0,.int .i64 0,.int .i64 0,.int .i64 0,.int .i64 0,.int .i64 0,.int .i64 0,.int .i64 0,.int .i64 0,.int .i64 0,.int .i64 0,.int .i64 0,.int .i64 0,.int .u64 0,.int .u64 0]) (by kernel_rfl) (by kernel_rfl) (by simp[Dens,Den,nilSV,nilLoc0,Value.cells]) (by simp[TT.agg,Value.cells]) Tryz.underlying88 (by first | exact⟨_,rfl,rfl⟩ | rfl | exact⟨_,rfl⟩) (by first | rfl | kernel_rfl) rfl
theorem tt90:TtOk Tryz.prog 90 ⟨38,336,[.int .i64 0,nilSV,.int .i64 0,.int .i64 0,.int .i64 0,.int .i64 0,.int .i64 0,.int .i64 0,.int .i64 0,.int .i64 0,.int .i64 0,.int .i64 0,.int .i64 0,.int .i64 0,.int .i64 0,.int .i64 0,.int .i64 0,.int .i64 0,.int .i64 0,.int .i64 0,.int .i64 0,.int .i64 0,.int .i64 0,.int .i64 0,.int .i64 0,.int .i64 0,.int .i64 0,.int .i64 0,.int .i64 0,.int .i64 0,.int .i64 0,.int .i64 0,.int .i64 0,.int .i64 0,.int .u64 0,.int .u64 0,nilSV,.bool false],.struct [(0,88),(36,50),(37,4)],none⟩:=TtOk.of (z:=.agg #[.int .i64 0,.slice none 0 0,.int .i64 0,.int .i64 0,.int .i64 0,.int .i64 0,.int .i64 0,.int .i64 0,.int .i64 0,.int .i64 0,.int .i64 0,.int .i64 0,.int .i64 0,.int .i64 0,.int .i64 0,.int .i64 0,.int .i64 0,.int .i64 0,.int .i64 0,.int .i64 0,.int .i64 0,.int .i64 0,.int .i64 0,.int .i64 0,.int .i64 0,.int .i64 0,.int .i64 0,.int .i64 0,.int .i64 0,.int .i64 0,.int .i64 0,.int .i64 0,.int .i64 0,.int .i64 0,.int .u64 0,.int .u64 0,.slice none 0 0,.bool false]) (by kernel_rfl) (by kernel_rfl) (by simp[Dens,Den,nilSV,nilLoc0,Value.cells]) (by simp[TT.agg,Value.cells]) Tryz.underlying90 (by first | exact⟨_,rfl,rfl⟩ | rfl | exact⟨_,rfl⟩) (by first | rfl | kernel_rfl) rfl
theorem tt91:TtOk Tryz.prog 91 ⟨38,336,[.int .i64 0,nilSV,.int .i64 0,.int .i64 0,.int .i64 0,.int .i64 0,.int .i64 0,.int .i64 0,.int .i64 0,.int .i64 0,.int .i64 0,.int .i64 0,.int .i64 0,.int .i64 0,.int .i64 0,.int .i64 0,.int .i64 0,.int .i64 0,.int .i64 0,.int .i64 0,.int .i64 0,.int .i64 0,.int .i64 0,.int .i64 0,.int .i64 0,.int .i64 0,.int .i64 0,.int .i64 0,.int .i64 0,.int .i64 0,.int .i64 0,.int .i64 0,.int .i64 0,.int .i64 0,.int .u64 0,.int .u64 0,nilSV,.bool false],.struct [(0,88),(36,50),(37,4)],none⟩:=TtOk.of (z:=.agg #[.int .i64 0,.slice none 0 0,.int .i64 0,.int .i64 0,.int .i64 0,.int .i64 0,.int .i64 0,.int .i64 0,.int .i64 0,.int .i64 0,.int .i64 0,.int .i64 0,.int .i64 0,.int .i64 0,.int .i64 0,.int .i64 0,.int .i64 0,.int .i64 0,.int .i64 0,.int .i64 0,.int .i64 0,.int .i64 0,.int .i64 0,.int .i64 0,.int .i64 0,.int .i64 0,.int .i64 0,.int .i64 0,.int .i64 0,.int .i64 0,.int .i64 0,.int .i64 0,.int .i64 0,.int .i64 0,.int .u64 0,.int .u64 0,.slice none 0 0,.bool false]) (by kernel_rfl) (by kernel_rfl) (by simp[Dens,Den,nilSV,nilLoc0,Value.cells]) (by simp[TT.agg,Value.cells]) Tryz.underlying91 (by first | exact⟨_,rfl,rfl⟩ | rfl | exact⟨_,rfl⟩) (by first | rfl | kernel_rfl) rfl
theorem tt94:TtOk Tryz.prog 94 ⟨1,8,[.val (.pointer none)],.pointer,none⟩:=TtOk.of (z:=.pointer none) (by kernel_rfl) (by kernel_rfl) (by simp[Dens,Den,nilSV,nilLoc0,Value.cells]) (by simp[TT.agg,Value.cells]) Tryz.underlying94 (by first | exact⟨_,rfl,rfl⟩ | rfl | exact⟨_,rfl⟩) (by first | rfl | kernel_rfl) rfl
theorem tt95:TtOk Tryz.prog 95 ⟨4,48,[nilSV,.int .i64 0,.int .i64 0,.bool false],.struct [(0,22),(1,3),(2,3),(3,4)],none⟩:=TtOk.of (z:=.agg #[.slice none 0 0,.int .i64 0,.int .i64 0,.bool false]) (by kernel_rfl) (by kernel_rfl) (by simp[Dens,Den,nilSV,nilLoc0,Value.cells]) (by simp[TT.agg,Value.cells]) Tryz.underlying95 (by first | exact⟨_,rfl,rfl⟩ | rfl | exact⟨_,rfl⟩) (by first | rfl | kernel_rfl) rfl
theorem tt96:TtOk Tryz.prog 96 ⟨4,48,[nilSV,.int .i64 0,.int .i64 0,.bool false],.struct [(0,22),(1,3),(2,3),(3,4)],none⟩:=TtOk.of (z:=.agg #[.slice none 0 0,.int .i64 0,.int .i64 0,.bool false]) (by kernel_rfl) (by kernel_rfl) (by simp[Dens,Den,nilSV,nilLoc0,Value.cells]) (by simp[TT.agg,Value.cells]) Tryz.underlying96 (by first | exact⟨_,rfl,rfl⟩ | rfl | exact⟨_,rfl⟩) (by first | rfl | kernel_rfl) rfl
theorem tt106:TtOk Tryz.prog 106 ⟨1,24,[nilSV],.slice 113,none⟩:=TtOk.of (z:=.slice none 0 0) (by kernel_rfl) (by kernel_rfl) (by simp[Dens,Den,nilSV,nilLoc0,Value.cells]) (by simp[TT.agg,Value.cells]) Tryz.underlying106 (by first | exact⟨_,rfl,rfl⟩ | rfl | exact⟨_,rfl⟩) (by first | rfl | kernel_rfl) rfl
theorem tt107:TtOk Tryz.prog 107 ⟨8,160,[.int .i64 0,.int .i64 0,nilSV,nilSV,nilSV,nilSV,nilSV,nilSV],.struct [(0,3),(1,3),(2,76),(3,106),(4,22),(5,40),(6,22),(7,40)],none⟩:=TtOk.of (z:=.agg #[.int .i64 0,.int .i64 0,.slice none 0 0,.slice none 0 0,.slice none 0 0,.slice none 0 0,.slice none 0 0,.slice none 0 0]) (by kernel_rfl) (by kernel_rfl) (by simp[Dens,Den,nilSV,nilLoc0,Value.cells]) (by simp[TT.agg,Value.cells]) Tryz.underlying107 (by first | exact⟨_,rfl,rfl⟩ | rfl | exact⟨_,rfl⟩) (by first | rfl | kernel_rfl) rfl
theorem tt108:TtOk Tryz.prog 108 ⟨8,160,[.int .i64 0,.int .i64 0,nilSV,nilSV,nilSV,nilSV,nilSV,nilSV],.struct [(0,3),(1,3),(2,76),(3,106),(4,22),(5,40),(6,22),(7,40)],none⟩:=TtOk.of (z:=.agg #[.int .i64 0,.int .i64 0,.slice none 0 0,.slice none 0 0,.slice none 0 0,.slice none 0 0,.slice none 0 0,.slice none 0 0]) (by kernel_rfl) (by kernel_rfl) (by simp[Dens,Den,nilSV,nilLoc0,Value.cells]) (by simp[TT.agg,Value.cells]) Tryz.underlying108 (by first | exact⟨_,rfl,rfl⟩ | rfl | exact⟨_,rfl⟩) (by first | rfl | kernel_rfl) rfl
theorem tt112:TtOk Tryz.prog 112 ⟨8,64,[.int .i64 0,.int .i64 0,.int .i64 0,.int .i64 0,.int .i64 0,.int .i64 0,.int .i64 0,.int .i64 0],.struct [(0,3),(1,3),(2,3),(3,3),(4,3),(5,3),(6,3),(7,3)],(some [true,true,true,true,true,true,true,true])⟩:=TtOk.of (z:=.agg #[.int .i64 0,.int .i64 0,.int .i64 0,.int .i64 0,.int .i64 0,.int .i64 0,.int .i64 0,.int .i64 0]) (by kernel_rfl) (by kernel_rfl) (by simp[Dens,Den,nilSV,nilLoc0,Value.cells]) (by simp[TT.agg,Value.cells]) Tryz.underlying112 (by first | exact⟨_,rfl,rfl⟩ | rfl | exact⟨_,rfl⟩) (by first | rfl | kernel_rfl) rfl
theorem tt113:TtOk Tryz.prog 113 ⟨8,64,[.int .i64 0,.int .i64 0,.int .i64 0,.int .i64 0,.int .i64 0,.int .i64 0,.int .i64 0,.int .i64 0],.struct [(0,3),(1,3),(2,3),(3,3),(4,3),(5,3),(6,3),(7,3)],(some [true,true,true,true,true,true,true,true])⟩:=TtOk.of (z:=.agg #[.int .i64 0,.int .i64 0,.int .i64 0,.int .i64 0,.int .i64 0,.int .i64 0,.int .i64 0,.int .i64 0]) (by kernel_rfl) (by kernel_rfl) (by simp[Dens,Den,nilSV,nilLoc0,Value.cells]) (by simp[TT.agg,Value.cells]) Tryz.underlying113 (by first | exact⟨_,rfl,rfl⟩ | rfl | exact⟨_,rfl⟩) (by first | rfl | kernel_rfl) rfl
theorem tt119:TtOk Tryz.prog 119 ⟨1,8,[.val (.pointer none)],.pointer,none⟩:=TtOk.of (z:=.pointer none) (by kernel_rfl) (by kernel_rfl) (by simp[Dens,Den,nilSV,nilLoc0,Value.cells]) (by simp[TT.agg,Value.cells]) Tryz.underlying119 (by first | exact⟨_,rfl,rfl⟩ | rfl | exact⟨_,rfl⟩) (by first | rfl | kernel_rfl) rfl
theorem tt127:TtOk Tryz.prog 127 ⟨1,24,[nilSV],.slice 129,none⟩:=TtOk.of (z:=.slice none 0 0) (by kernel_rfl) (by kernel_rfl) (by simp[Dens,Den,nilSV,nilLoc0,Value.cells]) (by simp[TT.agg,Value.cells]) Tryz.underlying127 (by first | exact⟨_,rfl,rfl⟩ | rfl | exact⟨_,rfl⟩) (by first | rfl | kernel_rfl) rfl
theorem tt128:TtOk Tryz.prog 128 ⟨9,72,[.int .i64 0,.int .i64 0,.int .i64 0,.int .i64 0,.int .i64 0,.int .i64 0,.int .i64 0,.int .i64 0,.int .i64 0],.struct [(0,80),(6,3),(7,3),(8,3)],none⟩:=TtOk.of (z:=.agg #[.int .i64 0,.int .i64 0,.int .i64 0,.int .i64 0,.int .i64 0,.int .i64 0,.int .i64 0,.int .i64 0,.int .i64 0]) (by kernel_rfl) (by kernel_rfl) (by simp[Dens,Den,nilSV,nilLoc0,Value.cells]) (by simp[TT.agg,Value.cells]) Tryz.underlying128 (by first | exact⟨_,rfl,rfl⟩ | rfl | exact⟨_,rfl⟩) (by first | rfl | kernel_rfl) rfl
theorem tt129:TtOk Tryz.prog 129 ⟨9,72,[.int .i64 0,.int .i64 0,.int .i64 0,.int .i64 0,.int .i64 0,.int .i64 0,.int .i64 0,.int .i64 0,.int .i64 0],.struct [(0,80),(6,3),(7,3),(8,3)],none⟩:=TtOk.of (z:=.agg #[.int .i64 0,.int .i64 0,.int .i64 0,.int .i64 0,.int .i64 0,.int .i64 0,.int .i64 0,.int .i64 0,.int .i64 0]) (by kernel_rfl) (by kernel_rfl) (by simp[Dens,Den,nilSV,nilLoc0,Value.cells]) (by simp[TT.agg,Value.cells]) Tryz.underlying129 (by first | exact⟨_,rfl,rfl⟩ | rfl | exact⟨_,rfl⟩) (by first | rfl | kernel_rfl) rfl
theorem tt130:TtOk Tryz.prog 130 ⟨1,8,[.val (.pointer none)],.pointer,none⟩:=TtOk.of (z:=.pointer none) (by kernel_rfl) (by kernel_rfl) (by simp[Dens,Den,nilSV,nilLoc0,Value.cells]) (by simp[TT.agg,Value.cells]) Tryz.underlying130 (by first | exact⟨_,rfl,rfl⟩ | rfl | exact⟨_,rfl⟩) (by first | rfl | kernel_rfl) rfl
theorem tt132:TtOk Tryz.prog 132 ⟨1,24,[nilSV],.slice 134,none⟩:=TtOk.of (z:=.slice none 0 0) (by kernel_rfl) (by kernel_rfl) (by simp[Dens,Den,nilSV,nilLoc0,Value.cells]) (by simp[TT.agg,Value.cells]) Tryz.underlying132 (by first | exact⟨_,rfl,rfl⟩ | rfl | exact⟨_,rfl⟩) (by first | rfl | kernel_rfl) rfl
theorem tt134:TtOk Tryz.prog 134 ⟨2,16,[.int .i64 0,.int .i64 0],.array 2 3,(some [true,true])⟩:=TtOk.of (z:=.agg #[.int .i64 0,.int .i64 0]) (by kernel_rfl) (by kernel_rfl) (by simp[Dens,Den,nilSV,nilLoc0,Value.cells]) (by simp[TT.agg,Value.cells]) Tryz.underlying134 (by first | exact⟨_,rfl,rfl⟩ | rfl | exact⟨_,rfl⟩) (by first | rfl | kernel_rfl) rfl
theorem tt138:TtOk Tryz.prog 138 ⟨1,4,[.int .u32 0],.int .u32,none⟩:=TtOk.of (z:=.int .u32 0) (by kernel_rfl) (by kernel_rfl) (by simp[Dens,Den,nilSV,nilLoc0,Value.cells]) (by simp[TT.agg,Value.cells]) Tryz.underlying138 (by first | exact⟨_,rfl,rfl⟩ | rfl | exact⟨_,rfl⟩) (by first | rfl | kernel_rfl) rfl
theorem tt142:TtOk Tryz.prog 142 ⟨1,8,[.val (.pointer none)],.pointer,none⟩:=TtOk.of (z:=.pointer none) (by kernel_rfl) (by kernel_rfl) (by simp[Dens,Den,nilSV,nilLoc0,Value.cells]) (by simp[TT.agg,Value.cells]) Tryz.underlying142 (by first | exact⟨_,rfl,rfl⟩ | rfl | exact⟨_,rfl⟩) (by first | rfl | kernel_rfl) rfl
theorem tt146:TtOk Tryz.prog 146 ⟨42,360,[.int .i64 0,nilSV,.int .i64 0,.int .i64 0,.int .i64 0,.int .i64 0,.int .i64 0,.int .i64 0,.int .i64 0,.int .i64 0,.int .i64 0,.int .i64 0,.int .i64 0,.int .i64 0,.int .i64 0,.int .i64 0,.int .i64 0,.int .i64 0,.int .i64 0,.int .i64 0,.int .i64 0,.int .i64 0,.int .i64 0,.int .i64 0,.int .i64 0,.int .i64 0,.int .i64 0,.int .i64 0,.int .i64 0,.int .i64 0,.int .i64 0,.int .i64 0,.int .i64 0,.int .i64 0,.int .u64 0,.int .u64 0,nilSV,.int .i64 0,.int .u64 0,.int .i64 0,.bool false,.bool false],.struct [(0,88),(36,50),(37,3),(38,63),(39,3),(40,4),(41,4)],none⟩:=TtOk.of (z:=.agg #[.int .i64 0,.slice none 0 0,.int .i64 0,.int .i64 0,.int .i64 0,.int .i64 0,.int .i64 0,.int .i64 0,.int .i64 0,.int .i64 0,.int .i64 0,.int .i64 0,.int .i64 0,.int .i64 0,.int .i64 0,.int .i64 0,.int .i64 0,.int .i64 0,.int .i64 0,.int .i64 0,.int .i64 0,.int .i64 0,.int .i64 0,.int .i64 0,.int .i64 0,.int .i64 0,.int .i64 0,.int .i64 0,.int .i64 0,.int .i64 0,.int .i64 0,.int .i64 0,.int .i64 0,.int .i64 0,.int .u64 0,.int .u64 0,.slice none 0 0,.int .i64 0,.int .u64 0,.int .i64 0,.bool false,.bool false]) (by kernel_rfl) (by kernel_rfl) (by simp[Dens,Den,nilSV,nilLoc0,Value.cells]) (by simp[TT.agg,Value.cells]) Tryz.underlying146 (by first | exact⟨_,rfl,rfl⟩ | rfl | exact⟨_,rfl⟩) (by first | rfl | kernel_rfl) rfl
theorem tt147:TtOk Tryz.prog 147 ⟨42,360,[.int .i64 0,nilSV,.int .i64 0,.int .i64 0,.int .i64 0,.int .i64 0,.int .i64 0,.int .i64 0,.int .i64 0,.int .i64 0,.int .i64 0,.int .i64 0,.int .i64 0,.int .i64 0,.int .i64 0,.int .i64 0,.int .i64 0,.int .i64 0,.int .i64 0,.int .i64 0,.int .i64 0,.int .i64 0,.int .i64 0,.int .i64 0,.int .i64 0,.int .i64 0,.int .i64 0,.int .i64 0,.int .i64 0,.int .i64 0,.int .i64 0,.int .i64 0,.int .i64 0,.int .i64 0,.int .u64 0,.int .u64 0,nilSV,.int .i64 0,.int .u64 0,.int .i64 0,.bool false,.bool false],.struct [(0,88),(36,50),(37,3),(38,63),(39,3),(40,4),(41,4)],none⟩:=TtOk.of (z:=.agg #[.int .i64 0,.slice none 0 0,.int .i64 0,.int .i64 0,.int .i64 0,.int .i64 0,.int .i64 0,.int .i64 0,.int .i64 0,.int .i64 0,.int .i64 0,.int .i64 0,.int .i64 0,.int .i64 0,.int .i64 0,.int .i64 0,.int .i64 0,.int .i64 0,.int .i64 0,.int .i64 0,.int .i64 0,.int .i64 0,.int .i64 0,.int .i64 0,.int .i64 0,.int .i64 0,.int .i64 0,.int .i64 0,.int .i64 0,.int .i64 0,.int .i64 0,.int .i64 0,.int .i64 0,.int .i64 0,.int .u64 0,.int .u64 0,.slice none 0 0,.int .i64 0,.int .u64 0,.int .i64 0,.bool false,.bool false]) (by kernel_rfl) (by kernel_rfl) (by simp[Dens,Den,nilSV,nilLoc0,Value.cells]) (by simp[TT.agg,Value.cells]) Tryz.underlying147 (by first | exact⟨_,rfl,rfl⟩ | rfl | exact⟨_,rfl⟩) (by first | rfl | kernel_rfl) rfl
theorem tt153:TtOk Tryz.prog 153 ⟨9,104,[.int .i64 0,nilSV,.int .u64 0,.int .u64 0,nilSV,.int .i64 0,.int .u64 0,.int .i64 0,.bool false],.struct [(0,43),(2,65),(4,50),(5,3),(6,63),(7,3),(8,4)],none⟩:=TtOk.of (z:=.agg #[.int .i64 0,.slice none 0 0,.int .u64 0,.int .u64 0,.slice none 0 0,.int .i64 0,.int .u64 0,.int .i64 0,.bool false]) (by kernel_rfl) (by kernel_rfl) (by simp[Dens,Den,nilSV,nilLoc0,Value.cells]) (by simp[TT.agg,Value.cells]) Tryz.underlying153 (by first | exact⟨_,rfl,rfl⟩ | rfl | exact⟨_,rfl⟩) (by first | rfl | kernel_rfl) rfl
theorem tt154:TtOk Tryz.prog 154 ⟨9,104,[.int .i64 0,nilSV,.int .u64 0,.int .u64 0,nilSV,.int .i64 0,.int .u64 0,.int .i64 0,.bool false],.struct [(0,43),(2,65),(4,50),(5,3),(6,63),(7,3),(8,4)],none⟩:=TtOk.of (z:=.agg #[.int .i64 0,.slice none 0 0,.int .u64 0,.int .u64 0,.slice none 0 0,.int .i64 0,.int .u64 0,.int .i64 0,.bool false]) (by kernel_rfl) (by kernel_rfl) (by simp[Dens,Den,nilSV,nilLoc0,Value.cells]) (by simp[TT.agg,Value.cells]) Tryz.underlying154 (by first | exact⟨_,rfl,rfl⟩ | rfl | exact⟨_,rfl⟩) (by first | rfl | kernel_rfl) rfl
theorem tt157:TtOk Tryz.prog 157 ⟨4,40,[.val (.pointer none),.val (.pointer none),.val (.pointer none),.val (.string ⟨#[]⟩)],.struct [(0,17),(1,17),(2,17),(3,9)],none⟩:=TtOk.of (z:=.agg #[.pointer none,.pointer none,.pointer none,.string ⟨#[]⟩]) (by kernel_rfl) (by kernel_rfl) (by simp[Dens,Den,nilSV,nilLoc0,Value.cells]) (by simp[TT.agg,Value.cells]) Tryz.underlying157 (by first | exact⟨_,rfl,rfl⟩ | rfl | exact⟨_,rfl⟩) (by first | rfl | kernel_rfl) rfl
theorem tt158:TtOk Tryz.prog 158 ⟨4,40,[.val (.pointer none),.val (.pointer none),.val (.pointer none),.val (.string ⟨#[]⟩)],.struct [(0,17),(1,17),(2,17),(3,9)],none⟩:=TtOk.of (z:=.agg #[.pointer none,.pointer none,.pointer none,.string ⟨#[]⟩]) (by kernel_rfl) (by kernel_rfl) (by simp[Dens,Den,nilSV,nilLoc0,Value.cells]) (by simp[TT.agg,Value.cells]) Tryz.underlying158 (by first | exact⟨_,rfl,rfl⟩ | rfl | exact⟨_,rfl⟩) (by first | rfl | kernel_rfl) rfl
theorem tt159:TtOk Tryz.prog 159 ⟨0,0,[],.array 0 16,none⟩:=TtOk.of (z:=.agg #[]) (by kernel_rfl) (by kernel_rfl) (by simp[Dens,Den,nilSV,nilLoc0,Value.cells]) (by simp[TT.agg,Value.cells]) Tryz.underlying159 (by first | exact⟨_,rfl,rfl⟩ | rfl | exact⟨_,rfl⟩) (by first | rfl | kernel_rfl) rfl
theorem tt160:TtOk Tryz.prog 160 ⟨0,0,[],.struct [(0,159)],none⟩:=TtOk.of (z:=.agg #[]) (by kernel_rfl) (by kernel_rfl) (by simp[Dens,Den,nilSV,nilLoc0,Value.cells]) (by simp[TT.agg,Value.cells]) Tryz.underlying160 (by first | exact⟨_,rfl,rfl⟩ | rfl | exact⟨_,rfl⟩) (by first | rfl | kernel_rfl) rfl
theorem tt161:TtOk Tryz.prog 161 ⟨0,0,[],.struct [(0,159)],none⟩:=TtOk.of (z:=.agg #[]) (by kernel_rfl) (by kernel_rfl) (by simp[Dens,Den,nilSV,nilLoc0,Value.cells]) (by simp[TT.agg,Value.cells]) Tryz.underlying161 (by first | exact⟨_,rfl,rfl⟩ | rfl | exact⟨_,rfl⟩) (by first | rfl | kernel_rfl) rfl
theorem tt163:TtOk Tryz.prog 163 ⟨1,1,[.int .u8 0],.int .u8,none⟩:=TtOk.of (z:=.int .u8 0) (by kernel_rfl) (by kernel_rfl) (by simp[Dens,Den,nilSV,nilLoc0,Value.cells]) (by simp[TT.agg,Value.cells]) Tryz.underlying163 (by first | exact⟨_,rfl,rfl⟩ | rfl | exact⟨_,rfl⟩) (by first | rfl | kernel_rfl) rfl
theorem tt164:TtOk Tryz.prog 164 ⟨1,1,[.int .u8 0],.int .u8,none⟩:=TtOk.of (z:=.int .u8 0) (by kernel_rfl) (by kernel_rfl) (by simp[Dens,Den,nilSV,nilLoc0,Value.cells]) (by simp[TT.agg,Value.cells]) Tryz.underlying164 (by first | exact⟨_,rfl,rfl⟩ | rfl | exact⟨_,rfl⟩) (by first | rfl | kernel_rfl) rfl
theorem tt166:TtOk Tryz.prog 166 ⟨1,8,[.val (.pointer none)],.pointer,none⟩:=TtOk.of (z:=.pointer none) (by kernel_rfl) (by kernel_rfl) (by simp[Dens,Den,nilSV,nilLoc0,Value.cells]) (by simp[TT.agg,Value.cells]) Tryz.underlying166 (by first | exact⟨_,rfl,rfl⟩ | rfl | exact⟨_,rfl⟩) (by first | rfl | kernel_rfl) rfl
theorem tt167:TtOk Tryz.prog 167 ⟨1,4,[.int .i32 0],.int .i32,none⟩:=TtOk.of (z:=.int .i32 0) (by kernel_rfl) (by kernel_rfl) (by simp[Dens,Den,nilSV,nilLoc0,Value.cells]) (by simp[TT.agg,Value.cells]) Tryz.underlying167 (by first | exact⟨_,rfl,rfl⟩ | rfl | exact⟨_,rfl⟩) (by first | rfl | kernel_rfl) rfl
theorem tt168:TtOk Tryz.prog 168 ⟨1,4,[.int .i32 0],.int .i32,none⟩:=TtOk.of (z:=.int .i32 0) (by kernel_rfl) (by kernel_rfl) (by simp[Dens,Den,nilSV,nilLoc0,Value.cells]) (by simp[TT.agg,Value.cells]) Tryz.underlying168 (by first | exact⟨_,rfl,rfl⟩ | rfl | exact⟨_,rfl⟩) (by first | rfl | kernel_rfl) rfl
theorem tt169:TtOk Tryz.prog 169 ⟨11,48,[.int .u64 0,.int .u64 0,.int .u32 0,.int .u8 0,.int .u8 0,.int .u8 0,.int .u8 0,.val .nilFunc,.val (.pointer none),.int .i32 0,.int .i32 0],.struct [(0,12),(1,12),(2,138),(3,163),(4,5),(5,5),(6,164),(7,165),(8,166),(9,167),(10,168)],none⟩:=TtOk.of (z:=.agg #[.int .u64 0,.int .u64 0,.int .u32 0,.int .u8 0,.int .u8 0,.int .u8 0,.int .u8 0,.nilFunc,.pointer none,.int .i32 0,.int .i32 0]) (by kernel_rfl) (by kernel_rfl) (by simp[Dens,Den,nilSV,nilLoc0,Value.cells]) (by simp[TT.agg,Value.cells]) Tryz.underlying169 (by first | exact⟨_,rfl,rfl⟩ | rfl | exact⟨_,rfl⟩) (by first | rfl | kernel_rfl) rfl
theorem tt170:TtOk Tryz.prog 170 ⟨11,48,[.int .u64 0,.int .u64 0,.int .u32 0,.int .u8 0,.int .u8 0,.int .u8 0,.int .u8 0,.val .nilFunc,.val (.pointer none),.int .i32 0,.int .i32 0],.struct [(0,12),(1,12),(2,138),(3,163),(4,5),(5,5),(6,164),(7,165),(8,166),(9,167),(10,168)],none⟩:=TtOk.of (z:=.agg #[.int .u64 0,.int .u64 0,.int .u32 0,.int .u8 0,.int .u8 0,.int .u8 0,.int .u8 0,.nilFunc,.pointer none,.int .i32 0,.int .i32 0]) (by kernel_rfl) (by kernel_rfl) (by simp[Dens,Den,nilSV,nilLoc0,Value.cells]) (by simp[TT.agg,Value.cells]) Tryz.underlying170 (by first | exact⟨_,rfl,rfl⟩ | rfl | exact⟨_,rfl⟩) (by first | rfl | kernel_rfl) rfl
theorem hT:∀ t tt,tab t=some tt->TtOk Tryz.prog t tt:=by
 intro t tt h
 unfold tab at h
 split at h
 ·cases h;exact tt2
 ·cases h;exact tt3
 ·cases h;exact tt4
 ·cases h;exact tt5
 ·cases h;exact tt6
 ·cases h;exact tt7
 ·cases h;exact tt8
 ·cases h;exact tt9
 ·cases h;exact tt12
 ·cases h;exact tt13
 ·cases h;exact tt14
 ·cases h;exact tt15
 ·cases h;exact tt16
 ·cases h;exact tt17
 ·cases h;exact tt18
 ·cases h;exact tt19
 ·cases h;exact tt21
 ·cases h;exact tt22
 ·cases h;exact tt23
 ·cases h;exact tt24
 ·cases h;exact tt25
 ·cases h;exact tt26
 ·cases h;exact tt34
 ·cases h;exact tt37
 ·cases h;exact tt40
 ·cases h;exact tt41
 ·cases h;exact tt42
 ·cases h;exact tt43
 ·cases h;exact tt44
 ·cases h;exact tt45
 ·cases h;exact tt50
 ·cases h;exact tt52
 ·cases h;exact tt55
 ·cases h;exact tt59
 ·cases h;exact tt60
 ·cases h;exact tt61
 ·cases h;exact tt62
 ·cases h;exact tt63
 ·cases h;exact tt64
 ·cases h;exact tt65
 ·cases h;exact tt66
 ·cases h;exact tt67
 ·cases h;exact tt76
 ·cases h;exact tt79
 ·cases h;exact tt80
 ·cases h;exact tt83
 ·cases h;exact tt85
 ·cases h;exact tt86
 ·cases h;exact tt87
 ·cases h;exact tt88
 ·cases h;exact tt90
 ·cases h;exact tt91
 ·cases h;exact tt94
 ·cases h;exact tt95
 ·cases h;exact tt96
 ·cases h;exact tt106
 ·cases h;exact tt107
 ·cases h;exact tt108
 ·cases h;exact tt112
 ·cases h;exact tt113
 ·cases h;exact tt119
 ·cases h;exact tt127
 ·cases h;exact tt128
 ·cases h;exact tt129
 ·cases h;exact tt130
 ·cases h;exact tt132
 ·cases h;exact tt134
 ·cases h;exact tt138
 ·cases h;exact tt142
 ·cases h;exact tt146
 ·cases h;exact tt147
 ·cases h;exact tt153
 ·cases h;exact tt154
 ·cases h;exact tt157
 ·cases h;exact tt158
 ·cases h;exact tt159
 ·cases h;exact tt160
 ·cases h;exact tt161
 ·cases h;exact tt163
 ·cases h;exact tt164
 ·cases h;exact tt166
 ·cases h;exact tt167
 ·cases h;exact tt168
 ·cases h;exact tt169
 ·cases h;exact tt170
 ·cases h
def isP:FuncId->Bool:=fun f=>f==19||f==50||f==69||f==9||f==33||f==53||f==58||f==86||f==83||f==84||f==78||f==77||f==34||f==103||f==96||f==98||f==101||f==97||f==99||f==100||f==56||f==52
def ir50:IR:=
 .seq (r_ [o_ 4 (.mov (.k (.bool false)))] [4]) (.seq (r_ [m_ 5 0,c_ 6 .geq 5 0,m_ 7 6,p_ 7 (m_ 8 1),p_ 7 (c_ 9 .geq 8 0),K_ 10 7 9,m_ 11 10,p_ 11 (m_ 12 0),p_ 11 (c_ 13 .leq 12 200),K_ 14 11 13,m_ 15 14,p_ 15 (m_ 16 1),p_ 15 (c_ 17 .leq 16 200),K_ 18 15 17,m_ 19 18,p_ 19 (m_ 20 0),p_ 19 (m_ 21 1),p_ 19 (b_ 22 .mul 20 21),p_ 19 (c_ 23 .leq 22 8192),K_ 24 19 23,m_ 4 24] [0,1,5,6,7,8,9,10,11,12,13,14,15,16,17,18,19,20,21,22,23,24]) (.ret))
set_option maxRecDepth 4000 in
theorem comp50:(Tryz.f50.body.bind fun c=>compC tab isP chkAll ir50 c)=some ir50:=by kernel_rfl
theorem mixed:Tryz.prog.follows .mixedOrders=true:=by kernel_rfl
theorem hyp {l:List (FuncId×Entry)} {lp:List (FuncId×EntryP)} (h:allOk Tryz.prog l) (hp:allPOk Tryz.prog lp):Hyp Tryz.prog tab isP (spList l) (spPList lp) chkAll:=
 ⟨hT,spPList_ok hp,spList_ok h,draw_ok mixed hT (spPList_ok hp) (spList_ok h)⟩
def SidesOk (w h:Int):Prop:=0<=w/\0<=h/\w<=200/\h<=200/\w*h<=8192
instance (w h:Int):Decidable (SidesOk w h):=by unfold SidesOk;infer_instance
def ValOk (n:Int):Prop:=0<=n/\n<=255
instance (n:Int):Decidable (ValOk n):=by unfold ValOk;infer_instance
theorem SidesOk.bd {w h:Int} (H:SidesOk w h):0<=w*h/\w*h<=8192:=⟨Int.mul_nonneg H.1 H.2.1,H.2.2.2.2⟩
def sidesF:EntryP
 | [.int .i64 w,.int .i64 h]=>some (True,.bool (decide (SidesOk w h)))
 | _=>none
attribute [push_cast] sidesF
theorem p50:EntryPOk Tryz.prog 50 sidesF:=by
 refine⟨⟨_,Tryz.func50,by kernel_rfl,by kernel_rfl⟩,fun us p v h hp=>?_⟩
 unfold sidesF at h
 split at h<;>cases h
 refine tri_evS (hyp (l:=[]) (lp:=[]) trivial trivial) Tryz.func50 comp50 (rs:=[.tmp 4]) (by rfl) Tryz.ntmps50 10 ?_
 simp -implicitDefEqProofs only[push_cast,zz,seval,ir50,sidesF]
 refine⟨fun h=>?_,by simp only[SidesOk,and_assoc]⟩
 have:=mul_bd h.1 h.2.2.1 h.2.1 h.2.2.2
 omega
structure RowA where
 L:Xf.Loc
 xs:List Int
def AllVal (xs:List Int):Prop:=∀ n∈xs,ValOk n
instance (xs:List Int):Decidable (AllVal xs):=by unfold AllVal;infer_instance
structure RowN where
 L:Xf.Loc
 xs:List Int
 n:Int
structure Im where
 w:Int
 h:Int
 R:List Int
 G:List Int
 B:List Int
structure ImA where
 i:Im
 L1:Xf.Loc
 L2:Xf.Loc
 L3:Xf.Loc
def Im.Ok (i:Im):Prop:=SidesOk i.w i.h/\(i.R.length=i.w*i.h/\AllVal i.R)/\(i.G.length=i.w*i.h/\AllVal i.G)/\(i.B.length=i.w*i.h/\AllVal i.B)
instance (i:Im):Decidable i.Ok:=by unfold Im.Ok;infer_instance
structure WH where
 w:Int
 h:Int
structure SetA where
 i:Im
 L:Xf.Loc
 L1:Xf.Loc
 L2:Xf.Loc
 L3:Xf.Loc
 k:Int
 r:Int
 g:Int
 b:Int
 n1:Int
 n2:Int
 n3:Int
structure NewA where
 w:Int
 h:Int
 r:Int
 g:Int
 b:Int
def NewA.Ok (a:NewA):Prop:=SidesOk a.w a.h/\ValOk a.r/\ValOk a.g/\ValOk a.b
instance (a:NewA):Decidable a.Ok:=by unfold NewA.Ok;infer_instance
def lx (p:Prop) [Decidable p] (x:Nat->Xf.Loc) (k:Nat):Xf.Loc:=if p then x k else nilLoc
theorem allVal_rd {xs:List Int}:AllVal xs↔∀ j:Nat,j<xs.length->ValOk (rd xs j):=by
 unfold AllVal
 constructor
 ·intro h j hj;rw[rd_lt xs j hj];exact h _ (List.getElem_mem hj)
 ·intro h x hx
  obtain⟨j,hj,rfl⟩:=List.getElem_of_mem hx
  have:=h j hj
  rwa [rd_lt xs j hj]at this
def Im.Eq (a b:Im):Prop:=a.w=b.w/\a.h=b.h/\a.R=b.R/\a.G=b.G/\a.B=b.B
instance (a b:Im):Decidable (a.Eq b):=by unfold Im.Eq;infer_instance
theorem Im.Eq.refl (a:Im):a.Eq a:=⟨rfl,rfl,rfl,rfl,rfl⟩
structure Im2 where
 a:ImA
 b:ImA
structure Pl where
 w:Int
 h:Int
 xs:List Int
def plV (p:Pl) (L:Xf.Loc) (c:Nat):SV:=.agg [.int .i64 p.w,.int .i64 p.h,.sl c L 1 0 p.xs.length]
attribute [push_cast] plV
def pl0:Pl:=⟨0,0,[]⟩
theorem Im.Ok.val {i:Im} (h:i.Ok):i.G.length=i.R.length/\i.B.length=i.R.length/\∀ k:Nat,k<i.R.length->(0<=rd i.R (k:Nat)/\rd i.R (k:Nat)<=255)/\(0<=rd i.G (k:Nat)/\rd i.G (k:Nat)<=255)/\(0<=rd i.B (k:Nat)/\rd i.B (k:Nat)<=255):=by
 obtain⟨_,⟨a,x⟩,⟨b,y⟩,⟨c,z⟩⟩:=h
 have e1:i.G.length=i.R.length:=by omega
 have e2:i.B.length=i.R.length:=by omega
 exact⟨e1,e2,fun k hk=>⟨allVal_rd.1 x k hk,allVal_rd.1 y k (by omega),allVal_rd.1 z k (by omega)⟩⟩
structure CutA where
 a:ImA
 x:Int
 y:Int
 w:Int
 h:Int
def CutA.In (c:CutA):Prop:=0<=c.x/\0<=c.y/\0<=c.w/\0<=c.h/\c.x+c.w<=c.a.i.w/\c.y+c.h<=c.a.i.h
instance (c:CutA):Decidable c.In:=by unfold CutA.In;infer_instance
def CutA.Ok (c:CutA):Prop:=c.a.i.Ok/\c.In
instance (c:CutA):Decidable c.Ok:=by unfold CutA.Ok;infer_instance
def ir69:IR:=
 .seq (r_ [o_ 4 (.mov (.k (.bool false)))] [4]) (.seq (r_ [m_ 5 0,c_ 6 .geq 5 0,m_ 7 6,p_ 7 (m_ 8 1),p_ 7 (c_ 9 .geq 8 0),K_ 10 7 9,m_ 11 10,p_ 11 (m_ 12 0),p_ 11 (c_ 13 .leq 12 200),K_ 14 11 13,m_ 15 14,p_ 15 (m_ 16 1),p_ 15 (c_ 17 .leq 16 200),K_ 18 15 17,m_ 4 18] [0,1,5,6,7,8,9,10,11,12,13,14,15,16,17,18]) (.ret))
set_option maxRecDepth 4000 in
theorem comp69:(Tryz.f69.body.bind fun c=>compC tab isP chkAll ir69 c)=some ir69:=by kernel_rfl
def ir71:IR:=
 .seq (r_ [o_ 4 (.mov (.k (.bool false)))] [4]) (.seq (r_ [m_ 5 0,l_ 6 1,b_ 7 .lss 5 6,m_ 8 7,q_ 8 (m_ 9 0),q_ 8 (l_ 10 2),q_ 8 (b_ 11 .gtr 9 10),k_ 12 8 11,m_ 4 12] [0,1,2,5,6,7,8,9,10,11,12]) (.ret))
set_option maxRecDepth 4000 in
theorem comp71:(Tryz.f71.body.bind fun c=>compC tab isP chkAll ir71 c)=some ir71:=by kernel_rfl
def b93_1:IR:=
 .seq (r_ [b_ 9 .lss 8 7] []) (.seq (.cond (.t 9) (.skip) (.exit 0)) (.seq (.block 1 (.seq (r_ [m_ 10 8,m_ 5 10] [9,10]) (.seq (r_ [m_ 11 1,m_ 12 0,m_ 13 5,i_ 14 12 13 1,L_ 15 14,o_ 16 (.callv (some 4) 10 (.t 11) [.t 15])] [11,12,13,14,15]) (.cond (.t 16) (.seq (r_ [m_ 17 5,m_ 4 17] [0,1,5,7,8,16,17]) (.ret)) (.skip))))) (r_ [a_ 18 8 1,m_ 8 18] [4,5,16,18])))
def r93_2:IR:=
 .seq (r_ [z_ 4 (-1)] [0,1,7,8]) (.ret)
def ir93:IR:=
 .seq (r_ [z_ 4 0] [4]) (.seq (.seq (r_ [m_ 6 0,h_ 7 6,z_ 8 0] [6]) (.block 0 (.loop b93_1))) (r93_2))
def kp93_1:List Nat:=[0,1,7,8]
def kl93_1:List Nat:=[10,11,12,13]
attribute [push_cast] kp93_1 kl93_1
set_option maxRecDepth 4000 in
theorem comp93:(Tryz.f93.body.bind fun c=>compC tab isP chkAll ir93 c)=some ir93:=by kernel_rfl
def ir70:IR:=
 .seq (r_ [o_ 4 (.mov (.k (.bool false)))] [4]) (.seq (r_ [m_ 5 0,m_ 6 1,o_ 7 (.call (some 4) 10 93 [.t 5,.t 6]),c_ 8 .geq 7 0,m_ 4 8] [0,1,5,6,7,8]) (.ret))
set_option maxRecDepth 4000 in
theorem comp70:(Tryz.f70.body.bind fun c=>compC tab isP chkAll ir70 c)=some ir70:=by kernel_rfl
def ir29:IR:=
 .seq (r_ [o_ 3 (.box 10 (.t 0)),o_ 4 (.box 11 (.t 1)),o_ 5 (.box 12 (.t 2)),o_ 6 (.mov (.k (.bool false)))] [0,1,2,6]) (.seq (.seq (r_ [f_ 7 3 0,l_ 8 7,f_ 9 3 1,l_ 10 9,o_ 11 (.callp 69 [.t 8,.t 10]),o_ 12 (.not (.t 11)),m_ 13 12,q_ 13 (f_ 14 3 0),q_ 13 (l_ 15 14),q_ 13 (f_ 16 3 1),q_ 13 (l_ 17 16),q_ 13 (b_ 18 .mul 15 17),q_ 13 (f_ 19 3 2),q_ 13 (l_ 20 19),q_ 13 (h_ 21 20),q_ 13 (b_ 22 .neq 18 21),k_ 23 13 22,m_ 24 23,q_ 24 (f_ 25 3 2),q_ 24 (l_ 26 25),q_ 24 (h_ 27 26),q_ 24 (c_ 28 .gtr 27 8192),k_ 29 24 28] [7,8,9,10,11,12,13,14,15,16,17,18,19,20,21,22,23,24,25,26,27,28]) (.cond (.t 29) (.seq (r_ [o_ 6 (.mov (.k (.bool false)))] [3,4,5,29]) (.ret)) (.skip))) (.seq (r_ [f_ 30 3 2,l_ 31 30,o_ 32 (.mkf 71 [.t 4,.t 5]),o_ 33 (.call (some 4) 13 70 [.t 31,.t 32]),o_ 34 (.not (.t 33)),m_ 6 34] [3,4,5,29,30,31,32,33,34]) (.ret)))
set_option maxRecDepth 4000 in
theorem comp29:(Tryz.f29.body.bind fun c=>compC tab isP chkAll ir29 c)=some ir29:=by kernel_rfl
def ir8:IR:=
 .seq (r_ [o_ 1 (.box 10 (.t 0)),o_ 2 (.mov (.k (.bool false)))] [0,2]) (.seq (r_ [o_ 3 (.ld false (some 3) 0 0 (.t 1)),o_ 4 (.call (some 4) 11 29 [.t 3,Z_ (-16777216),Z_ 16777216]),m_ 2 4] [1,3,4]) (.ret))
set_option maxRecDepth 4000 in
theorem comp8:(Tryz.f8.body.bind fun c=>compC tab isP chkAll ir8 c)=some ir8:=by kernel_rfl
def firstB (p:Int->Bool) (xs:List Int):Int:=if xs.findIdx p<xs.length then xs.findIdx p else -1
theorem firstB_at {p:Int->Bool} {xs:List Int} {i:Nat} (h:i<xs.length) (hb:p (rd xs i)=true) (hj:∀ j,j<i->p (rd xs (j:Nat))=false):firstB p xs=i:=by
 have:xs.findIdx p=i:=by
  rw[List.findIdx_eq h]
  refine⟨by rw[rd_lt xs i h]at hb;exact hb,fun j hji=>?_⟩
  have:=hj j hji
  rw[rd_lt xs j (by omega)]at this
  exact this
 unfold firstB
 rw[this,if_pos h]
theorem firstB_no {p:Int->Bool} {xs:List Int} (hj:∀ j,j<xs.length->p (rd xs (j:Nat))=false):firstB p xs=-1:=by
 unfold firstB
 rw[if_neg]
 intro h
 have:=List.findIdx_getElem (w:=h)
 have h2:=hj _ h
 rw[rd_lt xs _ h,this]at h2
 cases h2
theorem firstB_iff (p:Int->Bool) (xs:List Int):0<=firstB p xs↔∃ n,n∈xs/\p n=true:=by
 unfold firstB
 have h:=List.findIdx_lt_length (xs:=xs) (p:=p)
 by_cases hh:xs.findIdx p<xs.length
 ·rw[if_pos hh]
  exact⟨fun _=>h.1 hh,fun _=>by omega⟩
 ·rw[if_neg hh]
  exact⟨fun h=>by omega,fun H=>absurd (h.2 H) hh⟩
def sides4F:EntryP
 | [.int .i64 w,.int .i64 h]=>some (True,.bool (decide (0<=w/\0<=h/\w<=200/\h<=200)))
 | _=>none
attribute [push_cast] sides4F
theorem p69:EntryPOk Tryz.prog 69 sides4F:=by
 refine⟨⟨_,Tryz.func69,by kernel_rfl,by kernel_rfl⟩,fun us p v h hp=>?_⟩
 unfold sides4F at h
 split at h<;>cases h
 refine tri_evS (hyp (l:=[]) (lp:=[]) trivial trivial) Tryz.func69 comp69 (rs:=[.tmp 4]) (by rfl) Tryz.ntmps69 10 ?_
 simp -implicitDefEqProofs only[push_cast,zz,seval,ir69,sides4F]
structure OutA where
 L1:Xf.Loc
 L2:Xf.Loc
 n:Int
 lo:Int
 hi:Int
def outB (lo hi n:Int):Bool:=decide (n<lo∨hi<n)
def fs71:FS where
 A:=OutA
 args:=fun a=>[.int .i64 a.n,.ptr 0 a.L1 0 0 0,.ptr 1 a.L2 0 0 0]
 mem:=fun a=>[some (.ro,a.L1,.cells [.int .i64 a.lo]),some (.ro,a.L2,.cells [.int .i64 a.hi])]
 pre:=fun _=>True
 res:=fun a _=>.bool (outB a.lo a.hi a.n)
 out:=fun _ _=>[]
 new:=fun _ _=>[]
def inv71:List SV->Look->Option (OutA×List Nat)
 | [.int .i64 n,.ptr c1 _ 0 0 0,.ptr c2 _ 0 0 0],look=>match rowC (look c1),rowC (look c2)with
  | some (L1,[.int .i64 lo]),some (L2,[.int .i64 hi])=>some (⟨L1,L2,n,lo,hi⟩,[c1,c2])
  | _,_=>none
 | _,_=>none
attribute [push_cast] inv71
theorem ok71:FSOk Tryz.prog 71 fs71:=by
 refine⟨⟨_,Tryz.func71,by kernel_rfl,by kernel_rfl⟩,fun a=>⟨by simp[fs71,push_cast,noMine,argOwn,Chunk.frArg],by simp[fs71,push_cast,outOk,Chunk.ext],fun x=>.inl (by simp[fs71,push_cast,frNew,frOut,Chunk.fr])⟩,fun a hp=>?_⟩
 obtain⟨L1,L2,n,lo,hi⟩:=a
 change Tri Tryz.prog 71 [.int .i64 n,.ptr 0 L1 0 0 0,.ptr 1 L2 0 0 0] [some (.ro,L1,.cells [.int .i64 lo]),some (.ro,L2,.cells [.int .i64 hi])] (postF fs71 ⟨L1,L2,n,lo,hi⟩)
 refine tri_evS (hyp (l:=[]) (lp:=[]) trivial trivial) Tryz.func71 comp71 (rs:=[.tmp 4]) (by rfl) Tryz.ntmps71 10 ?_
 simp -implicitDefEqProofs only[push_cast,zz,seval,ir71]
 refine postF.mk' (fun _=>default) [some 0,some 1] ?_
 simp -implicitDefEqProofs only[push_cast,zz,seval,fs71,outB]
def ent71:Entry:=spOf fs71 inv71
theorem e71:EntryOk Tryz.prog 71 ent71:=entry_of ok71 inv71
@[push_cast] theorem ent71_app (us:List SV) (look:Look) (x:Nat->Xf.Loc) (k:Nat):ent71 us look x k=spOf fs71 inv71 us look x k:=rfl
structure OutR where
 L:Xf.Loc
 xs:List Int
 L1:Xf.Loc
 L2:Xf.Loc
 lo:Int
 hi:Int
def fs93w:FS where
 A:=OutR
 args:=fun a=>[.sl 0 a.L 1 0 a.xs.length,.fn 71 [.ptr 1 a.L1 0 0 0,.ptr 2 a.L2 0 0 0]]
 mem:=fun a=>[some (.ro,a.L,.ints .i64 a.xs),some (.ro,a.L1,.cells [.int .i64 a.lo]),some (.ro,a.L2,.cells [.int .i64 a.hi])]
 pre:=fun a=>a.xs.length<=140737488355328
 res:=fun a _=>.int .i64 (firstB (outB a.lo a.hi) a.xs)
 out:=fun _ _=>[]
 new:=fun _ _=>[]
def inv93w:List SV->Look->Option (OutR×List Nat)
 | [.sl c _ 1 0 _,.fn 71 [.ptr c1 _ 0 0 0,.ptr c2 _ 0 0 0]],look=>match rowI (look c),rowC (look c1),rowC (look c2)with
  | some (L,.i64,xs),some (L1,[.int .i64 lo]),some (L2,[.int .i64 hi])=>some (⟨L,xs,L1,L2,lo,hi⟩,[c,c1,c2])
  | _,_,_=>none
 | _,_=>none
attribute [push_cast] inv93w
theorem ok93w:FSOk Tryz.prog 93 fs93w:=by
 refine⟨⟨_,Tryz.func93,by kernel_rfl,by kernel_rfl⟩,fun a=>⟨by simp[fs93w,push_cast,noMine,argOwn,Chunk.frArg],by simp[fs93w,push_cast,outOk,Chunk.ext],fun x=>.inl (by simp[fs93w,push_cast,frNew,frOut,Chunk.fr])⟩,fun a hp=>?_⟩
 obtain⟨L,xs,L1,L2,lo,hi⟩:=a
 change xs.length<=140737488355328 at hp
 change Tri Tryz.prog 93 [.sl 0 L 1 0 xs.length,.fn 71 [.ptr 1 L1 0 0 0,.ptr 2 L2 0 0 0]] [some (.ro,L,.ints .i64 xs),some (.ro,L1,.cells [.int .i64 lo]),some (.ro,L2,.cells [.int .i64 hi])] (postF fs93w ⟨L,xs,L1,L2,lo,hi⟩)
 refine tri_evS (hyp (l:=[(71,ent71)]) (lp:=[]) ⟨e71,trivial⟩ trivial) Tryz.func93 comp93 (rs:=[.tmp 4]) (by rfl) Tryz.ntmps93 14 ?_
 simp -implicitDefEqProofs only[push_cast,zz,seval,ir93]
 refine evS_loopU (A:=Nat) kp93_1 kl93_1 (fun i=>[(8,.int .i64 i)]) (fun _=>[])
  (fun i=>i<=xs.length/\∀ j,j<i->outB lo hi (rd xs (j:Nat))=false) (fun i=>xs.length-i) 0 ⟨by omega,by omega⟩ (Sub.pt ?_) ?_
 ·simp -implicitDefEqProofs only[push_cast,zz,seval]
 intro i ⟨h1,h2⟩ K hK
 simp -implicitDefEqProofs only[push_cast,zz,seval,b93_1,r93_2,fs71]
 refine⟨fun h=>⟨by omega,h,by omega,h,fun hb=>?_,fun hb=>⟨by omega,by omega,?_⟩⟩,fun h=>?_⟩
 ·have e:=firstB_at (by omega) hb h2
  exact postF.mk' (fun _=>default) [some 0,some 1,some 2] (by simp -implicitDefEqProofs only[push_cast,zz,seval,fs93w,e])
 ·refine hK (i+1) ⟨by omega,?_⟩ (show xs.length-(i+1)<xs.length-i by omega) _ _ (Sub.pt ?_)
  ·intro j hj
   by_cases e:j=i
   ·subst e;exact hb
   ·exact h2 j (by omega)
  ·simp -implicitDefEqProofs only[push_cast,zz,seval]
 ·have e:=firstB_no (p:=outB lo hi) (xs:=xs) (fun j hj=>h2 j (by omega))
  exact postF.mk' (fun _=>default) [some 0,some 1,some 2] (by simp -implicitDefEqProofs only[push_cast,zz,seval,fs93w,e])
def ent93w:Entry:=spOf fs93w inv93w
theorem e93w:EntryOk Tryz.prog 93 ent93w:=entry_of ok93w inv93w
@[push_cast] theorem ent93w_app (us:List SV) (look:Look) (x:Nat->Xf.Loc) (k:Nat):ent93w us look x k=spOf fs93w inv93w us look x k:=rfl
def AllIn (lo hi:Int) (xs:List Int):Prop:=∀ n,n∈xs->lo<=n/\n<=hi
instance (lo hi:Int) (xs:List Int):Decidable (AllIn lo hi xs):=by unfold AllIn;infer_instance
theorem allIn_iff {lo hi:Int} {xs:List Int}:(0<=firstB (outB lo hi) xs)=¬ AllIn lo hi xs:=by
 rw[firstB_iff]
 unfold AllIn outB
 simp only[decide_eq_true_eq,Classical.not_forall,eq_iff_iff]
 constructor
 ·rintro⟨n,h1,h2⟩;exact⟨n,h1,by omega⟩
 ·rintro⟨n,h1,h2⟩;exact⟨n,h1,by omega⟩
theorem allIn_rd {lo hi:Int} {xs:List Int}:AllIn lo hi xs↔∀ j:Nat,j<xs.length->lo<=rd xs j/\rd xs j<=hi:=by
 unfold AllIn
 constructor
 ·intro h j hj;rw[rd_lt xs j hj];exact h _ (List.getElem_mem hj)
 ·intro h n hn
  obtain⟨j,hj,rfl⟩:=List.mem_iff_getElem.1 hn
  have:=h j hj
  rwa [rd_lt xs j hj]at this
def fs70w:FS:={ fs93w with res:=fun a _=>.bool (decide (¬ AllIn a.lo a.hi a.xs)) }
theorem ok70w:FSOk Tryz.prog 70 fs70w:=by
 refine⟨⟨_,Tryz.func70,by kernel_rfl,by kernel_rfl⟩,fun a=>⟨by simp[fs70w,fs93w,push_cast,noMine,argOwn,Chunk.frArg],by simp[fs70w,fs93w,push_cast,outOk,Chunk.ext],fun x=>.inl (by simp[fs70w,fs93w,push_cast,frNew,frOut,Chunk.fr])⟩,fun a hp=>?_⟩
 obtain⟨L,xs,L1,L2,lo,hi⟩:=a
 change xs.length<=140737488355328 at hp
 change Tri Tryz.prog 70 [.sl 0 L 1 0 xs.length,.fn 71 [.ptr 1 L1 0 0 0,.ptr 2 L2 0 0 0]] [some (.ro,L,.ints .i64 xs),some (.ro,L1,.cells [.int .i64 lo]),some (.ro,L2,.cells [.int .i64 hi])] (postF fs70w ⟨L,xs,L1,L2,lo,hi⟩)
 refine tri_evS (hyp (l:=[(93,ent93w)]) (lp:=[]) ⟨e93w,trivial⟩ trivial) Tryz.func70 comp70 (rs:=[.tmp 4]) (by rfl) Tryz.ntmps70 14 ?_
 simp -implicitDefEqProofs only[push_cast,zz,seval,ir70,fs93w]
 exact⟨hp,postF.mk' (fun _=>default) [some 0,some 1,some 2] (by simp -implicitDefEqProofs only[push_cast,zz,seval,fs70w,fs93w,allIn_iff])⟩
def ent70w:Entry:=spOf fs70w inv93w
theorem e70w:EntryOk Tryz.prog 70 ent70w:=entry_of ok70w inv93w
@[push_cast] theorem ent70w_app (us:List SV) (look:Look) (x:Nat->Xf.Loc) (k:Nat):ent70w us look x k=spOf fs70w inv93w us look x k:=rfl
def Pl.In (p:Pl) (lo hi:Int):Prop:=SidesOk p.w p.h/\p.xs.length=p.w*p.h/\AllIn lo hi p.xs
instance (p:Pl) (lo hi:Int):Decidable (p.In lo hi):=by unfold Pl.In;infer_instance
structure PlA where
 p:Pl
 L:Xf.Loc
structure PlW where
 a:PlA
 lo:Int
 hi:Int
def getP (look:Look):SV->Option (PlA×List Nat)
 | .agg [.int .i64 w,.int .i64 h,.sl c _ 1 0 _]=>match rowI (lkZ look (.ints .i64 []) c)with
  | some (L,.i64,xs)=>some (⟨⟨w,h,xs⟩,L⟩,[c])
  | _=>none
 | _=>none
attribute [push_cast] getP
def fs29:FS where
 A:=PlW
 args:=fun a=>[plV a.a.p a.a.L 0,.int .i64 a.lo,.int .i64 a.hi]
 mem:=fun a=>[some (.ro,a.a.L,.ints .i64 a.a.p.xs)]
 pre:=fun a=>a.a.p.xs.length<=140737488355328
 res:=fun a _=>.bool (decide (a.a.p.In a.lo a.hi))
 out:=fun _ _=>[]
 new:=fun _ _=>[]
def inv29:List SV->Look->Option (PlW×List Nat)
 | [v,.int .i64 lo,.int .i64 hi],look=>match getP look v with
  | some (a,g)=>some (⟨a,lo,hi⟩,g)
  | _=>none
 | _,_=>none
attribute [push_cast] inv29
theorem ok29:FSOk Tryz.prog 29 fs29:=by
 refine⟨⟨_,Tryz.func29,by kernel_rfl,by kernel_rfl⟩,fun a=>⟨by simp[fs29,push_cast,noMine,argOwn,Chunk.frArg],by simp[fs29,push_cast,outOk,Chunk.ext],fun x=>.inl (by simp[fs29,push_cast,frNew,frOut,Chunk.fr])⟩,fun a hp=>?_⟩
 obtain⟨⟨⟨w,h,xs⟩,L⟩,lo,hi⟩:=a
 change xs.length<=140737488355328 at hp
 change Tri Tryz.prog 29 [plV ⟨w,h,xs⟩ L 0,.int .i64 lo,.int .i64 hi] [some (.ro,L,.ints .i64 xs)] (postF fs29 ⟨⟨⟨w,h,xs⟩,L⟩,lo,hi⟩)
 refine tri_evS (hyp (l:=[(70,ent70w)]) (lp:=[(69,sides4F)]) ⟨e70w,trivial⟩ ⟨p69,trivial⟩) Tryz.func29 comp29 (rs:=[.tmp 6]) (by rfl) Tryz.ntmps29 17 ?_
 simp -implicitDefEqProofs only[push_cast,zz,seval,ir29,fs70w,fs93w,hp]
 intro X
 refine⟨fun H=>?_,fun H=>⟨H.1,H.2.1,H.2.2.1,H.2.2.2,H⟩,fun hn=>?_,fun hy=>?_⟩
 ·have:=mul_bd H.1 H.2.2.1 H.2.1 H.2.2.2
  omega
 ·have e:¬ (⟨w,h,xs⟩:Pl).In lo hi:=fun H=>by
   obtain⟨⟨a1,a2,a3,a4,a5⟩,b,_⟩:=H
   simp only at a1 a2 a3 a4 a5 b
   omega
  refine postF.mk' (fun _=>default) [some 0] ?_
  simp -implicitDefEqProofs only[push_cast,zz,seval,fs29,e,decide_false]
 ·have e:(AllIn lo hi xs)↔(⟨w,h,xs⟩:Pl).In lo hi:=by
   unfold Pl.In SidesOk
   simp only
   constructor
   ·intro H;refine⟨⟨by omega,by omega,by omega,by omega,by omega⟩,by omega,H⟩
   ·intro H;exact H.2.2
  refine postF.mk' (fun _=>default) [some 0] ?_
  simp -implicitDefEqProofs only[push_cast,zz,seval,fs29,e]
def ent29:Entry:=spOf fs29 inv29
theorem e29:EntryOk Tryz.prog 29 ent29:=entry_of ok29 inv29
@[push_cast] theorem ent29_app (us:List SV) (look:Look) (x:Nat->Xf.Loc) (k:Nat):ent29 us look x k=spOf fs29 inv29 us look x k:=rfl
def Pl.Ok (p:Pl):Prop:=p.In (-16777216) 16777216
def Pl.Gr (p:Pl):Prop:=p.In 0 255
instance (p:Pl):Decidable p.Ok:=by unfold Pl.Ok;infer_instance
instance (p:Pl):Decidable p.Gr:=by unfold Pl.Gr;infer_instance
def fs8:FS where
 A:=PlA
 args:=fun a=>[plV a.p a.L 0]
 mem:=fun a=>[some (.ro,a.L,.ints .i64 a.p.xs)]
 pre:=fun a=>a.p.xs.length<=140737488355328
 res:=fun a _=>.bool (decide a.p.Ok)
 out:=fun _ _=>[]
 new:=fun _ _=>[]
def inv8:List SV->Look->Option (PlA×List Nat)
 | [v],look=>getP look v
 | _,_=>none
attribute [push_cast] inv8
theorem ok8:FSOk Tryz.prog 8 fs8:=by
 refine⟨⟨_,Tryz.func8,by kernel_rfl,by kernel_rfl⟩,fun a=>⟨by simp[fs8,push_cast,noMine,argOwn,Chunk.frArg],by simp[fs8,push_cast,outOk,Chunk.ext],fun x=>.inl (by simp[fs8,push_cast,frNew,frOut,Chunk.fr])⟩,fun a hp=>?_⟩
 obtain⟨⟨w,h,xs⟩,L⟩:=a
 change xs.length<=140737488355328 at hp
 change Tri Tryz.prog 8 [plV ⟨w,h,xs⟩ L 0] [some (.ro,L,.ints .i64 xs)] (postF fs8 ⟨⟨w,h,xs⟩,L⟩)
 refine tri_evS (hyp (l:=[(29,ent29)]) (lp:=[]) ⟨e29,trivial⟩ trivial) Tryz.func8 comp8 (rs:=[.tmp 2]) (by rfl) Tryz.ntmps8 15 ?_
 simp -implicitDefEqProofs only[push_cast,zz,seval,ir8,fs29,hp]
 refine fun X=>postF.mk' (fun _=>default) [some 0] ?_
 simp -implicitDefEqProofs only[push_cast,zz,seval,fs8,Pl.Ok]
def ent8:Entry:=spOf fs8 inv8
theorem e8:EntryOk Tryz.prog 8 ent8:=entry_of ok8 inv8
@[push_cast] theorem ent8_app (us:List SV) (look:Look) (x:Nat->Xf.Loc) (k:Nat):ent8 us look x k=spOf fs8 inv8 us look x k:=rfl
def Pl.Eq (a b:Pl):Prop:=a.w=b.w/\a.h=b.h/\a.xs=b.xs
instance (a b:Pl):Decidable (a.Eq b):=by unfold Pl.Eq;infer_instance
theorem Pl.Eq.refl (a:Pl):a.Eq a:=⟨rfl,rfl,rfl⟩
structure Pl2 where
 a:PlA
 b:PlA
structure Bk where
 y:PlA
 u:PlA
 v:PlA
def Bk.planes (b:Bk):Prop:=b.y.p.Ok/\b.u.p.Ok/\b.v.p.Ok
def Bk.sides (b:Bk):Prop:=b.u.p.w=b.y.p.w/\b.u.p.h=b.y.p.h/\b.v.p.w=b.y.p.w/\b.v.p.h=b.y.p.h
instance (b:Bk):Decidable b.planes:=by unfold Bk.planes;infer_instance
instance (b:Bk):Decidable b.sides:=by unfold Bk.sides;infer_instance
def Bk.Ok (b:Bk):Prop:=b.planes/\b.sides
instance (b:Bk):Decidable b.Ok:=by unfold Bk.Ok;infer_instance
theorem Bk.Ok.val {w h w1 h1 w2 h2:Int} {xs ys ws:List Int} {L1 L2 L3:Xf.Loc} (H:(⟨⟨⟨w,h,xs⟩,L1⟩,⟨⟨w1,h1,ys⟩,L2⟩,⟨⟨w2,h2,ws⟩,L3⟩⟩:Bk).Ok) :
  SidesOk w h/\(xs.length:Int)=w*h/\ys.length=xs.length/\ws.length=xs.length/\w1=w/\h1=h/\w2=w/\h2=h /\
   ∀ k:Nat,k<xs.length->(-16777216<=rd xs k/\rd xs k<=16777216)/\(-16777216<=rd ys k/\rd ys k<=16777216)/\(-16777216<=rd ws k/\rd ws k<=16777216):=by
 obtain⟨⟨⟨a1,a2,a3⟩,⟨b1,b2,b3⟩,⟨c1,c2,c3⟩⟩,d1,d2,d3,d4⟩:=H
 simp only at a1 a2 a3 b1 b2 b3 c1 c2 c3 d1 d2 d3 d4
 subst d1 d2 d3 d4
 have e1:ys.length=xs.length:=by omega
 have e2:ws.length=xs.length:=by omega
 exact⟨a1,a2,e1,e2,rfl,rfl,rfl,rfl,fun k hk=>⟨allIn_rd.1 a3 k hk,allIn_rd.1 b3 k (by omega),allIn_rd.1 c3 k (by omega)⟩⟩
def b18_1:IR:=
 .seq (.seq (r_ [m_ 21 3,f_ 22 1 2,l_ 23 22,h_ 24 23,b_ 25 .lss 21 24] [21,22,23,24]) (.cond (.t 25) (.skip) (.exit 0))) (.seq (.block 1 (.seq (r_ [f_ 28 1 2,l_ 29 28,m_ 30 3,i_ 31 29 30 1,L_ 32 31,c_ 33 .lss 32 (-16777216),m_ 34 33,q_ 34 (f_ 35 1 2),q_ 34 (l_ 36 35),q_ 34 (m_ 37 3),q_ 34 (i_ 38 36 37 1),q_ 34 (L_ 39 38),q_ 34 (c_ 40 .gtr 39 16777216),k_ 41 34 40] [25,28,29,30,31,32,33,34,35,36,37,38,39,40]) (.cond (.t 41) (.seq (r_ [o_ 2 (.mov (.k (.bool false)))] [1,3,41]) (.ret)) (.skip)))) (r_ [m_ 26 3,a_ 27 26 1,m_ 3 27] [2,26,27,41]))
def r18_2:IR:=
 .seq (r_ [o_ 2 (.mov (.k (.bool true)))] [1,3]) (.ret)
def ir18:IR:=
 .seq (r_ [o_ 1 (.box 10 (.t 0)),o_ 2 (.mov (.k (.bool false)))] [0,2]) (.seq (.seq (r_ [f_ 4 1 0,l_ 5 4,f_ 6 1 1,l_ 7 6,o_ 8 (.callp 50 [.t 5,.t 7]),o_ 9 (.not (.t 8)),m_ 10 9,q_ 10 (f_ 11 1 2),q_ 10 (l_ 12 11),q_ 10 (h_ 13 12),q_ 10 (f_ 14 1 0),q_ 10 (l_ 15 14),q_ 10 (f_ 16 1 1),q_ 10 (l_ 17 16),q_ 10 (b_ 18 .mul 15 17),q_ 10 (b_ 19 .neq 13 18),k_ 20 10 19] [4,5,6,7,8,9,10,11,12,13,14,15,16,17,18,19]) (.cond (.t 20) (.seq (r_ [o_ 2 (.mov (.k (.bool false)))] [1,20]) (.ret)) (.skip))) (.seq (.seq (r_ [z_ 3 0] [2,20]) (.block 0 (.loop b18_1))) (r18_2)))
def kp18_1:List Nat:=[1,3]
def kl18_1:List Nat:=[]
attribute [push_cast] kp18_1 kl18_1
set_option maxRecDepth 4000 in
theorem comp18:(Tryz.f18.body.bind fun c=>compC tab isP chkAll ir18 c)=some ir18:=by kernel_rfl
theorem ok18:FSOk Tryz.prog 18 fs8:=by
 refine⟨⟨_,Tryz.func18,by kernel_rfl,by kernel_rfl⟩,fun a=>⟨by simp[fs8,push_cast,noMine,argOwn,Chunk.frArg],by simp[fs8,push_cast,outOk,Chunk.ext],fun x=>.inl (by simp[fs8,push_cast,frNew,frOut,Chunk.fr])⟩,fun a hp=>?_⟩
 obtain⟨⟨w,h,xs⟩,L⟩:=a
 change xs.length<=140737488355328 at hp
 change Tri Tryz.prog 18 [plV ⟨w,h,xs⟩ L 0] [some (.ro,L,.ints .i64 xs)] (postF fs8 ⟨⟨w,h,xs⟩,L⟩)
 refine tri_evS (hyp (l:=[]) (lp:=[(50,sidesF)]) trivial ⟨p50,trivial⟩) Tryz.func18 comp18 (rs:=[.tmp 2]) (by rfl) Tryz.ntmps18 11 ?_
 simp -implicitDefEqProofs only[push_cast,zz,seval,ir18]
 refine fun X=>⟨fun H=>?_,fun hn=>?_,fun hy=>?_⟩
 ·have:=H.bd
  exact⟨H,by omega,by omega⟩
 ·have e:¬ (⟨w,h,xs⟩:Pl).Ok:=fun H=>by
   obtain⟨a1,b,_⟩:=H
   simp only at a1 b
   simp[a1,b]at hn
  refine postF.mk' (fun _=>default) [some 0] ?_
  simp -implicitDefEqProofs only[push_cast,zz,seval,fs8,e,decide_false]
 have hs:SidesOk w h:=Classical.byContradiction fun H=>hy (.inl H)
 have hl:(xs.length:Int)=w*h:=Classical.byContradiction fun H=>hy (.inr H)
 refine evS_loopU (A:=Nat) kp18_1 kl18_1 (fun i=>[(3,.int .i64 i)]) (fun _=>[])
  (fun i=>i<=xs.length/\∀ j,j<i->-16777216<=rd xs (j:Nat)/\rd xs (j:Nat)<=16777216) (fun i=>xs.length-i) 0 ⟨by omega,by omega⟩ (Sub.pt ?_) ?_
 ·simp -implicitDefEqProofs only[push_cast,zz,seval]
 intro i ⟨h1,h2⟩ K hK
 simp -implicitDefEqProofs only[push_cast,zz,seval,b18_1,r18_2]
 refine⟨fun hl=>?_,fun hl=>?_⟩
 ·repeat refine om_ ?_
  refine⟨fun hb=>?_,fun hg=>⟨by omega,by omega,?_⟩⟩
  ·have e:¬ (⟨w,h,xs⟩:Pl).Ok:=fun H=>by
    have:=allIn_rd.1 H.2.2 i (show i<xs.length by omega)
    simp only at this
    omega
   refine postF.mk' (fun _=>default) [some 0] ?_
   simp -implicitDefEqProofs only[push_cast,zz,seval,fs8,e,decide_false]
  ·refine hK (i+1) ⟨by omega,fun j hj=>?_⟩ (show xs.length-(i+1)<xs.length-i by omega) _ _ (Sub.pt ?_)
   ·by_cases e:j=i
    ·subst e;omega
    ·exact h2 j (by omega)
   ·simp -implicitDefEqProofs only[push_cast,zz,seval]
 ·have e:(⟨w,h,xs⟩:Pl).Ok:=⟨hs,‹_›,allIn_rd.2 fun j (hj:j<xs.length)=>h2 j (by omega)⟩
  refine postF.mk' (fun _=>default) [some 0] ?_
  simp -implicitDefEqProofs only[push_cast,zz,seval,fs8,e,decide_true]
def ent18:Entry:=spOf fs8 inv8
theorem e18:EntryOk Tryz.prog 18 ent18:=entry_of ok18 inv8
@[push_cast] theorem ent18_app (us:List SV) (look:Look) (x:Nat->Xf.Loc) (k:Nat):ent18 us look x k=spOf fs8 inv8 us look x k:=rfl
theorem Dens.mem:∀ {cs:List SV} {vs:List Value} {c:SV},Dens cs vs->c∈cs->∃ v,Den c v
 | [],_,_,_,h=>by cases h
 | d::cs,vs,c,hd,h=>by
  simp only[Dens]at hd
  obtain⟨v,vs',_,h1,h2⟩:=hd
  rcases List.mem_cons.1 h with rfl | h
  ·exact⟨v,h1⟩
  ·exact Dens.mem h2 h
structure Row2 where
 L:Xf.Loc
 xs:List Int
 M:Xf.Loc
 ys:List Int
theorem rd_bd {lo hi:Int} {xs:List Int} (h:AllIn lo hi xs) (h0:lo<=0) (h1:0<=hi) (k:Int):lo<=rd xs k/\rd xs k<=hi:=by
 by_cases hk:k.toNat<xs.length
 ·have e:rd xs k=xs[k.toNat]:=by simp[rd,hk]
  rw[e];exact h _ (List.getElem_mem hk)
 ·have e:rd xs k=0:=by simp[rd,List.getElem?_eq_none (Nat.not_lt.1 hk)]
  rw[e];exact⟨h0,h1⟩
structure PlD where
 a:PlA
 w:Int
 h:Int
def PlD.fit (d:PlD):Prop:=SidesOk d.w d.h/\d.a.p.w=(d.w+1) / 2/\d.a.p.h=(d.h+1) / 2
instance (d:PlD):Decidable d.fit:=by unfold PlD.fit;infer_instance
def PlD.Ok (d:PlD):Prop:=d.a.p.Ok/\d.fit
instance (d:PlD):Decidable d.Ok:=by unfold PlD.Ok;infer_instance
structure Bm where
 w:Int
 h:Int
 xs:List Int
structure BmA where
 b:Bm
 L:Xf.Loc
def Bits (xs:List Int):Prop:=∀ n,n∈xs->n<=1
instance (xs:List Int):Decidable (Bits xs):=by unfold Bits;infer_instance
def Bm.Ok (b:Bm):Prop:=SidesOk b.w b.h/\b.xs.length=b.w*b.h/\Bits b.xs
instance (b:Bm):Decidable b.Ok:=by unfold Bm.Ok;infer_instance
structure AtA where
 a:BmA
 x:Int
 y:Int
def AtA.inside (a:AtA):Prop:=0<=a.x/\0<=a.y/\a.x<a.a.b.w/\a.y<a.a.b.h
instance (a:AtA):Decidable a.inside:=by unfold AtA.inside;infer_instance
def nearP (n:Int):Prop:=-100000<=n/\n<=100000
instance (n:Int):Decidable (nearP n):=by unfold nearP;infer_instance
structure PaintA where
 a:ImA
 b:BmA
 x:Int
 y:Int
 r:Int
 g:Int
 bl:Int
def PaintA.fit (P:PaintA):Prop:=P.b.b.Ok/\nearP P.x/\nearP P.y/\ValOk P.r/\ValOk P.g/\ValOk P.bl
instance (P:PaintA):Decidable P.fit:=by unfold PaintA.fit;infer_instance
def PaintA.Ok (P:PaintA):Prop:=P.a.i.Ok/\P.fit
instance (P:PaintA):Decidable P.Ok:=by unfold PaintA.Ok;infer_instance
def b68_1:IR:=
 .seq (r_ [b_ 14 .lss 13 12] []) (.seq (.cond (.t 14) (.skip) (.exit 0)) (.seq (.block 1 (.seq (r_ [m_ 15 13,m_ 5 15] [14,15]) (.seq (R_ [m_ 16 0,m_ 17 5,i_ 18 16 17 1,L_ 19 18,m_ 20 1,m_ 21 5,i_ 22 20 21 1,L_ 23 22,b_ 24 .neq 19 23] [5,16,17,18,19,20,21,22,23]) (.cond (.t 24) (.seq (r_ [o_ 4 (.mov (.k (.bool false)))] [0,1,12,13,24]) (.ret)) (.skip))))) (r_ [a_ 25 13 1,m_ 13 25] [4,24,25])))
def r68_2:IR:=
 .seq (r_ [o_ 4 (.mov (.k (.bool true)))] [0,1,12,13]) (.ret)
def ir68:IR:=
 .seq (r_ [o_ 4 (.mov (.k (.bool false)))] [4]) (.seq (.seq (r_ [m_ 6 0,h_ 7 6,m_ 8 1,h_ 9 8,b_ 10 .neq 7 9] [6,7,8,9]) (.cond (.t 10) (.seq (r_ [o_ 4 (.mov (.k (.bool false)))] [0,1,10]) (.ret)) (.skip))) (.seq (.seq (r_ [m_ 11 0,h_ 12 11,z_ 13 0] [4,10,11]) (.block 0 (.loop b68_1))) (r68_2)))
def kp68_1:List Nat:=[0,1,12,13]
def kl68_1:List Nat:=[]
attribute [push_cast] kp68_1 kl68_1
set_option maxRecDepth 4000 in
theorem comp68:(Tryz.f68.body.bind fun c=>compC tab isP chkAll ir68 c)=some ir68:=by kernel_rfl
structure Row2w where
 L:Xf.Loc
 xs:List Int
 M:Xf.Loc
 ys:List Int
def fs68:FS where
 A:=Row2w
 args:=fun a=>[.sl 0 a.L 1 0 a.xs.length,.sl 1 a.M 1 0 a.ys.length]
 mem:=fun a=>[some (.ro,a.L,.ints .i64 a.xs),some (.ro,a.M,.ints .i64 a.ys)]
 pre:=fun a=>a.xs.length<=140737488355328/\a.ys.length<=140737488355328
 res:=fun a _=>.bool (decide (a.xs=a.ys))
 out:=fun _ _=>[]
 new:=fun _ _=>[]
def inv68:List SV->Look->Option (Row2w×List Nat)
 | [.sl c _ 1 0 _,.sl d _ 1 0 _],look=>match rowI (lkZ look (.ints .i64 []) c),rowI (lkZ look (.ints .i64 []) d)with
  | some (L,.i64,xs),some (M,.i64,ys)=>some (⟨L,xs,M,ys⟩,[c,d])
  | _,_=>none
 | _,_=>none
attribute [push_cast] inv68
theorem ok68:FSOk Tryz.prog 68 fs68:=by
 refine⟨⟨_,Tryz.func68,by kernel_rfl,by kernel_rfl⟩,fun a=>⟨by simp[fs68,push_cast,noMine,argOwn,Chunk.frArg],by simp[fs68,push_cast,outOk,Chunk.ext],fun x=>.inl (by simp[fs68,push_cast,frNew,frOut,Chunk.fr])⟩,fun a hp=>?_⟩
 obtain⟨L,xs,M,ys⟩:=a
 obtain⟨hp1,hp2⟩:xs.length<=140737488355328/\ys.length<=140737488355328:=hp
 change Tri Tryz.prog 68 [.sl 0 L 1 0 xs.length,.sl 1 M 1 0 ys.length] [some (.ro,L,.ints .i64 xs),some (.ro,M,.ints .i64 ys)] (postF fs68 ⟨L,xs,M,ys⟩)
 refine tri_evS (hyp (l:=[]) (lp:=[]) trivial trivial) Tryz.func68 comp68 (rs:=[.tmp 4]) (by rfl) Tryz.ntmps68 10 ?_
 simp -implicitDefEqProofs only[push_cast,zz,seval,ir68]
 refine⟨fun hn=>?_,fun hy=>?_⟩
 ·have e:¬ xs=ys:=fun H=>by subst H;exact hn rfl
  refine postF.mk' (fun _=>default) [some 0,some 1] ?_
  simp -implicitDefEqProofs only[push_cast,zz,seval,fs68,e,decide_false]
 have hl:xs.length=ys.length:=by omega
 refine evS_loopU (A:=Nat) kp68_1 kl68_1 (fun i=>[(13,.int .i64 i)]) (fun _=>[])
  (fun i=>i<=xs.length/\∀ j,j<i->rd xs (j:Nat)=rd ys (j:Nat)) (fun i=>xs.length-i) 0 ⟨by omega,by omega⟩ (Sub.pt ?_) ?_
 ·simp -implicitDefEqProofs only[push_cast,zz,seval]
 intro i ⟨h1,h2⟩ K hK
 simp -implicitDefEqProofs only[push_cast,zz,seval,b68_1,r68_2]
 refine⟨fun h=>?_,fun h=>?_⟩
 ·repeat refine om_ ?_
  refine⟨fun hb=>?_,fun hg=>⟨by omega,by omega,?_⟩⟩
  ·have e:¬ xs=ys:=fun H=>by subst H;exact hb rfl
   refine postF.mk' (fun _=>default) [some 0,some 1] ?_
   simp -implicitDefEqProofs only[push_cast,zz,seval,fs68,e,decide_false]
  ·refine hK (i+1) ⟨by omega,fun j hj=>?_⟩ (show xs.length-(i+1)<xs.length-i by omega) _ _ (Sub.pt ?_)
   ·by_cases e:j=i
    ·subst e;exact hg
    ·exact h2 j (by omega)
   ·simp -implicitDefEqProofs only[push_cast,zz,seval]
 ·have e:xs=ys:=eq_of_rd hl fun j hj=>h2 j (by omega)
  refine postF.mk' (fun _=>default) [some 0,some 1] ?_
  simp -implicitDefEqProofs only[push_cast,zz,seval,fs68,e,decide_true]
def ent68:Entry:=spOf fs68 inv68
theorem e68:EntryOk Tryz.prog 68 ent68:=entry_of ok68 inv68
@[push_cast] theorem ent68_app (us:List SV) (look:Look) (x:Nat->Xf.Loc) (k:Nat):ent68 us look x k=spOf fs68 inv68 us look x k:=rfl
structure OutU where
 L1:Xf.Loc
 n:Int
 m:Int
structure OutV where
 L:Xf.Loc
 xs:List Int
 L1:Xf.Loc
 m:Int
structure RowM where
 L:Xf.Loc
 xs:List Int
 m:Int
structure LiftA where
 kind:Int
 L:Xf.Loc
 xs:List Int
 lo:Int
 n:Int
 i:Int
structure NearA where
 L:Xf.Loc
 xs:List Int
 lo:Int
 n:Int
 i:Int
def BdF (B:Int) (f:Int->Int):Prop:=∀ j,-B<=f j/\f j<=B
theorem BdF.rd {xs:List Int} {B:Int} (h:AllIn (-B) B xs) (h0:0<=B) (lo:Int):BdF B (fun j=>rd xs (lo+j)):=fun j=>rd_bd h (by omega) h0 _
structure LineA where
 kind:Int
 L:Xf.Loc
 xs:List Int
 lo:Int
 n:Nat
structure LnA where
 kind:Int
 L:Xf.Loc
 xs:List Int
structure QA where
 a:PlA
 q:Int
 M:Xf.Loc
structure Q1 where
 n:Int
 L:Xf.Loc
 q:Int
def ir28:IR:=
 .seq (r_ [o_ 2 (.box 10 (.t 0)),o_ 3 (.box 11 (.t 1)),o_ 4 (.mov (.k (.bool false)))] [0,1,4]) (.seq (r_ [f_ 5 2 0,l_ 6 5,f_ 7 3 0,l_ 8 7,b_ 9 .eql 6 8,m_ 10 9,p_ 10 (f_ 11 2 1),p_ 10 (l_ 12 11),p_ 10 (f_ 13 3 1),p_ 10 (l_ 14 13),p_ 10 (b_ 15 .eql 12 14),K_ 16 10 15,m_ 17 16,p_ 17 (f_ 18 2 2),p_ 17 (l_ 19 18),p_ 17 (f_ 20 3 2),p_ 17 (l_ 21 20),p_ 17 (o_ 22 (.call (some 4) 12 68 [.t 19,.t 21])),K_ 23 17 22,m_ 4 23] [2,3,5,6,7,8,9,10,11,12,13,14,15,16,17,18,19,20,21,22,23]) (.ret))
set_option maxRecDepth 4000 in
theorem comp28:(Tryz.f28.body.bind fun c=>compC tab isP chkAll ir28 c)=some ir28:=by kernel_rfl
def fs28:FS where
 A:=Pl2
 args:=fun a=>[plV a.a.p a.a.L 0,plV a.b.p a.b.L 1]
 mem:=fun a=>[some (.ro,a.a.L,.ints .i64 a.a.p.xs),some (.ro,a.b.L,.ints .i64 a.b.p.xs)]
 pre:=fun a=>a.a.p.xs.length<=140737488355328/\a.b.p.xs.length<=140737488355328
 res:=fun a _=>.bool (decide (a.a.p.Eq a.b.p))
 out:=fun _ _=>[]
 new:=fun _ _=>[]
def inv28:List SV->Look->Option (Pl2×List Nat)
 | [v,u],look=>match getP look v,getP look u with
  | some (a,g),some (b,g')=>some (⟨a,b⟩,g++g')
  | _,_=>none
 | _,_=>none
attribute [push_cast] inv28
theorem ok28:FSOk Tryz.prog 28 fs28:=by
 refine⟨⟨_,Tryz.func28,by kernel_rfl,by kernel_rfl⟩,fun a=>⟨by simp[fs28,push_cast,noMine,argOwn,Chunk.frArg],by simp[fs28,push_cast,outOk,Chunk.ext],fun x=>.inl (by simp[fs28,push_cast,frNew,frOut,Chunk.fr])⟩,fun a hp=>?_⟩
 obtain⟨⟨⟨w,h,xs⟩,L⟩,⟨⟨w',h',ys⟩,M⟩⟩:=a
 obtain⟨hp1,hp2⟩:xs.length<=140737488355328/\ys.length<=140737488355328:=hp
 change Tri Tryz.prog 28 [plV ⟨w,h,xs⟩ L 0,plV ⟨w',h',ys⟩ M 1] [some (.ro,L,.ints .i64 xs),some (.ro,M,.ints .i64 ys)] (postF fs28 ⟨⟨⟨w,h,xs⟩,L⟩,⟨⟨w',h',ys⟩,M⟩⟩)
 refine tri_evS (hyp (l:=[(68,ent68)]) (lp:=[]) ⟨e68,trivial⟩ trivial) Tryz.func28 comp28 (rs:=[.tmp 4]) (by rfl) Tryz.ntmps28 16 ?_
 simp -implicitDefEqProofs only[push_cast,zz,seval,ir28,fs68,hp1,hp2]
 refine fun X=>⟨fun H=>⟨H.1,H.2,H⟩,?_⟩
 refine postF.mk' (fun _=>default) [some 0,some 1] ?_
 simp -implicitDefEqProofs only[push_cast,zz,seval,fs28,Pl.Eq]
def ent28:Entry:=spOf fs28 inv28
theorem e28:EntryOk Tryz.prog 28 ent28:=entry_of ok28 inv28
@[push_cast] theorem ent28_app (us:List SV) (look:Look) (x:Nat->Xf.Loc) (k:Nat):ent28 us look x k=spOf fs28 inv28 us look x k:=rfl
structure AlA where
 F:Xf.Loc
 LP:Xf.Loc
 w:Int
 kind:Int
 ws:List Int
 a:Int
 b:Int
 n:Nat
abbrev LT:=Int->Nat->(Int->Int)->List Int
structure Trn (T:LT):Prop where
 len:∀ k n f,(T k n f).length=n
 bd:∀ k n f B,BdF B f->0<=B->AllIn (-(3*B+1)) (3*B+1) (T k n f)
 congr:∀ k (n:Nat) f g,(∀ j:Nat,j<n->f j=g j)->T k n f=T k n g
def hlf (w:Nat):Nat->Nat
 | 0=>w
 | i+1=>(hlf w i+1) / 2
theorem hlf_le (w:Nat):∀ i,hlf w i<=w
 | 0=>Nat.le_refl _
 | i+1=>by have:=hlf_le w i;simp only[hlf];omega
theorem hlf_mono (w:Nat) (i:Nat):hlf w (i+1)<=hlf w i:=by simp only[hlf];omega
structure RwA where
 F:Xf.Loc
 LP:Xf.Loc
 W:Nat
 kind:Int
 ws:List Int
 w:Nat
 h:Nat
def b73_1:IR:=
 .seq (r_ [b_ 10 .lss 9 8] []) (.seq (.cond (.t 10) (.skip) (.exit 0)) (.seq (.block 1 (.seq (r_ [m_ 11 7,m_ 12 0,m_ 13 1,o_ 14 (.build [y_,y_] [(0,1,.t 12),(1,1,.t 13)]),o_ 15 (.brecs 10 2 .i64 [.t 14]),o_ 16 (.app 11 2 16 (.t 11) (.t 15)),m_ 7 16] [10,11,12,13,14,15,16]) (r_ [m_ 17 0,a_ 18 17 1,c_ 19 .quo 18 2,m_ 20 1,a_ 21 20 1,c_ 22 .quo 21 2,m_ 0 19,m_ 1 22] [17,18,19,20,21,22]))) (r_ [a_ 23 9 1,m_ 9 23] [23])))
def r73_2:IR:=
 .seq (r_ [m_ 24 7,m_ 6 24] [0,1,7,8,9,24]) (.ret)
def ir73:IR:=
 .seq (r_ [o_ 6 (.mov (.k nilSV))] [6]) (.seq (r_ [o_ 7 (.mov (.k nilSV))] []) (.seq (.seq (r_ [m_ 8 2,z_ 9 0] [2]) (.block 0 (.loop b73_1))) (r73_2)))
def kp73_1:List Nat:=[0,1,7,8,9]
def kl73_1:List Nat:=[10,11]
attribute [push_cast] kp73_1 kl73_1
set_option maxRecDepth 4000 in
theorem comp73:(Tryz.f73.body.bind fun c=>compC tab isP chkAll ir73 c)=some ir73:=by kernel_rfl
def tabR (n:Nat) (g:Nat->List RC):List (List RC):=(List.range n).map g
theorem tabR_length (n:Nat) (g:Nat->List RC):(tabR n g).length=n:=by simp[tabR]
theorem tabR_zero (g:Nat->List RC):tabR 0 g=[]:=rfl
theorem tabR_snoc (n:Nat) (g:Nat->List RC):tabR n g++[g n]=tabR (n+1) g:=by simp[tabR,List.range_succ]
theorem recAt_tabR {n i:Nat} (h:i<n) (g:Nat->List RC) (z:List RC):recAt (i:Int) z (tabR n g)=g i:=by
 simp[recAt,tabR,h]
def esz (s:Nat):Nat->Nat
 | 0=>1
 | _+1=>s
theorem esz_pos {s n:Nat} (h:0<n):esz s n=s:=by cases n;omega;rfl
def sdR (w h:Nat) (i:Nat):List RC:=[.int .i64 (hlf w i),.int .i64 (hlf h i)]
structure SdA where
 w:Nat
 h:Nat
 n:Nat
def fs73:FS where
 A:=SdA
 args:=fun a=>[.int .i64 a.w,.int .i64 a.h,.int .i64 a.n]
 mem:=fun _=>[]
 pre:=fun a=>a.w<=200/\a.h<=200/\a.n<=7
 res:=fun a x=>.sl 0 (lx (0<a.n) x 0) (esz 2 a.n) 0 a.n
 out:=fun _ _=>[]
 new:=fun a x=>[(lx (0<a.n) x 0,.recs 2 true [] (tabR a.n (sdR a.w a.h)))]
def inv73:List SV->Look->Option (SdA×List Nat)
 | [.int .i64 w,.int .i64 h,.int .i64 n],look=>some (⟨w.toNat,h.toNat,n.toNat⟩,[])
 | _,_=>none
attribute [push_cast] inv73
theorem hlf_succ (w i:Nat):((hlf w i:Int)+1) / 2=(hlf w (i+1):Int):=by simp only[hlf];omega
theorem ok73:FSOk Tryz.prog 73 fs73:=by
 refine⟨⟨_,Tryz.func73,by kernel_rfl,by kernel_rfl⟩,fun a=>⟨by simp[fs73,push_cast,noMine,argOwn,Chunk.frArg],by simp[fs73,push_cast,outOk,Chunk.ext],fun x=>.inl (by simp[fs73,push_cast,frNew,frOut,Chunk.fr])⟩,fun a hp=>?_⟩
 obtain⟨w,h,n⟩:=a
 obtain⟨h1,h2,h3⟩:w<=200/\h<=200/\n<=7:=hp
 change Tri Tryz.prog 73 [.int .i64 w,.int .i64 h,.int .i64 n] [] (postF fs73 ⟨w,h,n⟩)
 refine tri_evS (hyp (l:=[]) (lp:=[]) trivial trivial) Tryz.func73 comp73 (rs:=[.tmp 6]) (by rfl) Tryz.ntmps73 12 ?_
 simp -implicitDefEqProofs only[push_cast,zz,seval,ir73]
 refine evS_loopU (A:=Nat×Xf.Loc) kp73_1 kl73_1 (fun y=>[(0,.int .i64 (hlf w y.1)),(1,.int .i64 (hlf h y.1)),(7,.sl 11 y.2 (esz 2 y.1) 0 y.1),(9,.int .i64 y.1)]) (fun y=>[(11,.mine,y.2,.recs 2 true [] (tabR y.1 (sdR w h)))])
  (fun y=>y.1<=n/\(y.1=0->y.2=nilLoc)) (fun y=>n-y.1) (0,nilLoc) ⟨Nat.zero_le _,fun _=>rfl⟩ (Sub.pt ?_) ?_
 ·simp -implicitDefEqProofs only[push_cast,zz,seval,hlf,esz,tabR_zero]
 intro ⟨i,N⟩ ⟨(hi:i<=n),(hN:i=0->N=nilLoc)⟩ K hK
 simp -implicitDefEqProofs only[push_cast,zz,seval,b73_1,r73_2]
 have b1:=hlf_le w i
 have b2:=hlf_le h i
 have b3:=hlf_succ w i
 have b4:=hlf_succ h i
 refine⟨fun hl=>?_,fun hl=>?_⟩
 ·simp only[tabR_length]
  intro X
  repeat refine om_ ?_
  rw[b3,b4]
  refine hK (i+1,X 5 11) ⟨show i+1<=n by omega,fun q=>absurd q (Nat.succ_ne_zero i)⟩ (show n-(i+1)<n-i by omega) _ _ (Sub.pt ?_)
  have q:tabR i (sdR w h)++[[.int .i64 (hlf w i),.int .i64 (hlf h i)]]=tabR (i+1) (sdR w h):=tabR_snoc i (sdR w h)
  simp -implicitDefEqProofs only[push_cast,zz,seval,esz,q]
 ·obtain rfl:i=n:=by omega
  refine postF.mk' (fun _=>N) [some 11] ?_
  by_cases h0:0<i
  ·simp -implicitDefEqProofs only[push_cast,zz,seval,fs73,h0,if_true,lx]
  ·obtain rfl:i=0:=by omega
   obtain rfl:=hN rfl
   simp -implicitDefEqProofs only[push_cast,zz,seval,fs73,h0,if_false,lx]
def ent73:Entry:=spOf fs73 inv73
theorem e73:EntryOk Tryz.prog 73 ent73:=entry_of ok73 inv73
@[push_cast] theorem ent73_app (us:List SV) (look:Look) (x:Nat->Xf.Loc) (k:Nat):ent73 us look x k=spOf fs73 inv73 us look x k:=rfl
def stOk (kind n:Int):Prop:=(kind=0∨kind=1)/\0<=n/\n<=6
instance (kind n:Int):Decidable (stOk kind n):=by unfold stOk;infer_instance
structure AskA where
 a:PlA
 kind:Int
 n:Int
structure TurnA where
 a:LineA
 b:Bool
structure RrA where
 L:Xf.Loc
 W:Nat
 H:Int
 ws:List Int
 w:Nat
 h:Nat
 kind:Int
 b:Bool
def ir19:IR:=
 .seq (r_ [o_ 4 (.mov (.k (.bool false)))] [4]) (.seq (r_ [m_ 5 0,c_ 6 .geq 5 0,m_ 7 6,p_ 7 (m_ 8 0),p_ 7 (c_ 9 .leq 8 1),K_ 10 7 9,m_ 11 10,p_ 11 (m_ 12 1),p_ 11 (c_ 13 .geq 12 0),K_ 14 11 13,m_ 15 14,p_ 15 (m_ 16 1),p_ 15 (c_ 17 .leq 16 6),K_ 18 15 17,m_ 4 18] [0,1,5,6,7,8,9,10,11,12,13,14,15,16,17,18]) (.ret))
set_option maxRecDepth 4000 in
theorem comp19:(Tryz.f19.body.bind fun c=>compC tab isP chkAll ir19 c)=some ir19:=by kernel_rfl
def b95_1:IR:=
 .seq (.seq (r_ [m_ 9 8,m_ 10 2,b_ 11 .lss 9 10] [9,10]) (.cond (.t 11) (.skip) (.exit 0))) (.seq (.block 1 (r_ [m_ 14 0,a_ 15 14 1,c_ 16 .quo 15 2,m_ 17 1,a_ 18 17 1,c_ 19 .quo 18 2,m_ 0 16,m_ 1 19] [11,14,15,16,17,18,19])) (r_ [m_ 12 8,a_ 13 12 1,m_ 8 13] [12,13]))
def r95_2:IR:=
 .seq (r_ [m_ 20 0,m_ 21 1,m_ 6 20,m_ 7 21] [0,1,2,8,20,21]) (.ret)
def ir95:IR:=
 .seq (r_ [z_ 6 0,z_ 7 0] [6,7]) (.seq (.seq (r_ [z_ 8 0] []) (.block 0 (.loop b95_1))) (r95_2))
def kp95_1:List Nat:=[0,1,2,8]
def kl95_1:List Nat:=[]
attribute [push_cast] kp95_1 kl95_1
set_option maxRecDepth 4000 in
theorem comp95:(Tryz.f95.body.bind fun c=>compC tab isP chkAll ir95 c)=some ir95:=by kernel_rfl
def styF:EntryP
 | [.int .i64 k,.int .i64 n]=>some (True,.bool (decide (stOk k n)))
 | _=>none
attribute [push_cast] styF
theorem p19:EntryPOk Tryz.prog 19 styF:=by
 refine⟨⟨_,Tryz.func19,by kernel_rfl,by kernel_rfl⟩,fun us p v h hp=>?_⟩
 unfold styF at h
 split at h<;>cases h
 refine tri_evS (hyp (l:=[]) (lp:=[]) trivial trivial) Tryz.func19 comp19 (rs:=[.tmp 4]) (by rfl) Tryz.ntmps19 10 ?_
 simp -implicitDefEqProofs only[push_cast,zz,seval,ir19,styF,stOk]
 exact bool_congr (by omega)
def fs95:FS where
 A:=SdA
 args:=fun a=>[.int .i64 a.w,.int .i64 a.h,.int .i64 a.n]
 mem:=fun _=>[]
 pre:=fun a=>a.w<=200/\a.h<=200/\a.n<=7
 res:=fun a x=>.tup [.int .i64 (hlf a.w a.n),.int .i64 (hlf a.h a.n)]
 out:=fun _ _=>[]
 new:=fun _ _=>[]
theorem ok95:FSOk Tryz.prog 95 fs95:=by
 refine⟨⟨_,Tryz.func95,by kernel_rfl,by kernel_rfl⟩,fun a=>⟨by simp[fs95,push_cast,noMine,argOwn,Chunk.frArg],by simp[fs95,push_cast,outOk,Chunk.ext],fun x=>.inl (by simp[fs95,push_cast,frNew,frOut,Chunk.fr])⟩,fun a hp=>?_⟩
 obtain⟨w,h,n⟩:=a
 obtain⟨h1,h2,h3⟩:w<=200/\h<=200/\n<=7:=hp
 change Tri Tryz.prog 95 [.int .i64 w,.int .i64 h,.int .i64 n] [] (postF fs95 ⟨w,h,n⟩)
 refine tri_evS (hyp (l:=[]) (lp:=[]) trivial trivial) Tryz.func95 comp95 (rs:=[.tmp 6,.tmp 7]) (by rfl) Tryz.ntmps95 10 ?_
 simp -implicitDefEqProofs only[push_cast,zz,seval,ir95]
 refine evS_loopU (A:=Nat) kp95_1 kl95_1 (fun i=>[(0,.int .i64 (hlf w i)),(1,.int .i64 (hlf h i)),(8,.int .i64 i)]) (fun _=>[]) (fun i=>i<=n) (fun i=>n-i) 0 (Nat.zero_le _) (Sub.pt ?_) ?_
 ·simp -implicitDefEqProofs only[push_cast,zz,seval,hlf]
 intro i (hi:i<=n) K hK
 simp -implicitDefEqProofs only[push_cast,zz,seval,b95_1,r95_2]
 have b1:=hlf_le w i
 have b2:=hlf_le h i
 have b3:=hlf_succ w i
 have b4:=hlf_succ h i
 refine⟨fun hl=>?_,fun hl=>?_⟩
 ·repeat refine om_ ?_
  rw[b3,b4]
  refine hK (i+1) (by omega) (by omega) _ _ (Sub.pt ?_)
  simp -implicitDefEqProofs only[push_cast,zz,seval]
 ·obtain rfl:i=n:=by omega
  refine postF.mk' (fun _=>default) [] ?_
  simp -implicitDefEqProofs only[push_cast,zz,seval,fs95]
def ent95:Entry:=spOf fs95 inv73
theorem e95:EntryOk Tryz.prog 95 ent95:=entry_of ok95 inv73
@[push_cast] theorem ent95_app (us:List SV) (look:Look) (x:Nat->Xf.Loc) (k:Nat):ent95 us look x k=spOf fs95 inv73 us look x k:=rfl
def ir75:IR:=
 .seq (r_ [o_ 1 (.box 10 (.t 0)),o_ 2 (.mov (.k (.bool false)))] [0,2]) (.seq (r_ [f_ 3 1 4,l_ 4 3,f_ 5 1 5,l_ 6 5,b_ 7 .mul 4 6,c_ 8 .eql 7 0,m_ 2 8] [1,3,4,5,6,7,8]) (.ret))
set_option maxRecDepth 4000 in
theorem comp75:(Tryz.f75.body.bind fun c=>compC tab isP chkAll ir75 c)=some ir75:=by kernel_rfl
def b94_1:IR:=
 .seq (r_ [b_ 9 .lss 8 7] []) (.seq (.cond (.t 9) (.skip) (.exit 0)) (.seq (.block 1 (.seq (r_ [m_ 10 8,m_ 5 10] [9,10]) (.seq (r_ [m_ 11 1,m_ 12 0,m_ 13 5,i_ 14 12 13 6,o_ 15 (.ld true (some 6) 0 0 (.t 14)),o_ 16 (.callv (some 4) 10 (.t 11) [.t 15])] [11,12,13,14,15]) (.cond (.t 16) (.seq (r_ [m_ 17 5,m_ 4 17] [0,1,5,7,8,16,17]) (.ret)) (.skip))))) (r_ [a_ 18 8 1,m_ 8 18] [4,5,16,18])))
def r94_2:IR:=
 .seq (r_ [z_ 4 (-1)] [0,1,7,8]) (.ret)
def ir94:IR:=
 .seq (r_ [z_ 4 0] [4]) (.seq (.seq (r_ [m_ 6 0,h_ 7 6,z_ 8 0] [6]) (.block 0 (.loop b94_1))) (r94_2))
def kp94_1:List Nat:=[0,1,7,8]
def kl94_1:List Nat:=[10,11,12,13]
attribute [push_cast] kp94_1 kl94_1
set_option maxRecDepth 4000 in
theorem comp94:(Tryz.f94.body.bind fun c=>compC tab isP chkAll ir94 c)=some ir94:=by kernel_rfl
def b74_1:IR:=
 .seq (.seq (r_ [m_ 16 6,m_ 17 0,h_ 18 17,b_ 19 .lss 16 18] [16,17,18]) (.cond (.t 19) (.skip) (.exit 0))) (.seq (.block 1 (.seq (r_ [m_ 22 0,m_ 23 6,i_ 24 22 23 6,o_ 25 (.ld true (some 6) 0 0 (.t 24)),o_ 7 (.alloc 14 [y_,y_,y_,y_,y_,y_]),s_ 6 .i64 7 25] [19,22,23,24,25]) (.seq (r_ [m_ 26 1,o_ 27 (.ld false (some 6) 0 0 (.t 7)),o_ 28 (.callv (some 4) 15 (.t 26) [.t 27]),o_ 29 (.not (.t 28))] [26,27,28]) (.cond (.t 29) (.seq (r_ [m_ 30 0,m_ 31 5,o_ 32 (.ld false (some 6) 0 0 (.t 7)),i_ 33 30 31 6,S_ 6 .i64 33 32] [7,29,30,31,32,33]) (r_ [m_ 34 5,a_ 35 34 1,m_ 5 35] [34,35])) (.skip))))) (r_ [m_ 20 6,a_ 21 20 1,m_ 6 21] [7,20,21,29]))
def r74_2:IR:=
 .seq (r_ [m_ 36 0,m_ 37 5,o_ 38 (.slc (.t 36) 6 (some (.t 37)) none),O_ (.clear [.int .i64 0,.int .i64 0,.int .i64 0,.int .i64 0,.int .i64 0,.int .i64 0] (.t 38))] [1,6,36,37,38]) (.seq (r_ [m_ 39 0,m_ 40 5,o_ 41 (.slc (.t 39) 6 none (some (.t 40))),m_ 4 41] [0,5,39,40,41]) (.ret))
def ir74:IR:=
 .seq (r_ [o_ 4 (.mov (.k nilSV))] [4]) (.seq (r_ [m_ 8 0,m_ 9 1,o_ 10 (.call (some 4) 10 94 [.t 8,.t 9]),m_ 5 10] [8,9,10]) (.seq (.seq (r_ [m_ 11 5,c_ 12 .eql 11 (-1)] [11]) (.cond (.t 12) (.seq (r_ [m_ 13 0,m_ 4 13] [0,1,5,12,13]) (.ret)) (.skip))) (.seq (.seq (r_ [m_ 14 5,a_ 15 14 1,m_ 6 15] [4,12,14,15]) (.block 0 (.loop b74_1))) (r74_2))))
def kp74_1:List Nat:=[0,1,5,6]
def kl74_1:List Nat:=[14,15,16,17,18]
attribute [push_cast] kp74_1 kl74_1
set_option maxRecDepth 4000 in
theorem comp74:(Tryz.f74.body.bind fun c=>compC tab isP chkAll ir74 c)=some ir74:=by kernel_rfl
structure Bd where
 lv:Int
 kd:Int
 x:Int
 y:Int
 w:Int
 h:Int
 deriving Inhabited,DecidableEq
def Bd.rc (x:Bd):List RC:=[.int .i64 x.lv,.int .i64 x.kd,.int .i64 x.x,.int .i64 x.y,.int .i64 x.w,.int .i64 x.h]
def Bd.sv (x:Bd):SV:=.agg [.int .i64 x.lv,.int .i64 x.kd,.int .i64 x.x,.int .i64 x.y,.int .i64 x.w,.int .i64 x.h]
attribute [push_cast] Bd.sv
def rdBd (l:List Bd) (i:Int):Bd:=l.getD i.toNat default
theorem recAt_Bd {l:List Bd} {i:Int} (h0:0<=i) (h1:i<l.length) (z:List RC) (e:List (List RC)):recAt i z (l.map Bd.rc++e)=(rdBd l i).rc:=by
 have h:i.toNat<l.length:=by omega
 unfold recAt rdBd
 simp[List.getD_eq_getElem?_getD,List.getElem?_append_left,h]
theorem recAt_Bd' {l:List Bd} {i:Int} (h0:0<=i) (h1:i<l.length) (z:List RC):recAt i z (l.map Bd.rc)=(rdBd l i).rc:=by
 have:=recAt_Bd h0 h1 z []
 rwa [List.append_nil]at this
theorem rdBd_nat {l:List Bd} {i:Nat} (h:i<l.length):rdBd l (i:Int)=l[i]:=by simp[rdBd,h]
theorem rdBd_mem {l:List Bd} {i:Nat} (h:i<l.length):rdBd l (i:Int)∈l:=by rw[rdBd_nat h];exact List.getElem_mem h
theorem Bd.noRow (l:List Bd) (k n:Nat) (fr:Bool) (y:Addr):¬ rows (.recs n fr [] (l.map Bd.rc++List.replicate k [.int .i64 0,.int .i64 0,.int .i64 0,.int .i64 0,.int .i64 0,.int .i64 0])) y:=by
 rintro⟨L,kk,xs,⟨r,hr,hin⟩,_⟩
 rcases List.mem_append.1 hr with h | h
 ·obtain⟨x,_,rfl⟩:=List.mem_map.1 h
  simp[Bd.rc]at hin
 ·obtain⟨_,rfl⟩:=List.mem_replicate.1 h
  simp at hin
def Bd.ok (x:Bd):Prop:=0<=x.w/\x.w<=200/\0<=x.h/\x.h<=200
def Bd.gone (x:Bd):Bool:=decide (x.w*x.h=0)
structure Bd1 where
 x:Bd
def fs75:FS where
 A:=Bd1
 args:=fun a=>[a.x.sv]
 mem:=fun _=>[]
 pre:=fun a=>a.x.ok
 res:=fun a _=>.bool a.x.gone
 out:=fun _ _=>[]
 new:=fun _ _=>[]
def inv75:List SV->Look->Option (Bd1×List Nat)
 | [.agg [.int .i64 lv,.int .i64 kd,.int .i64 x,.int .i64 y,.int .i64 w,.int .i64 h]],look=>some (⟨⟨lv,kd,x,y,w,h⟩⟩,[])
 | _,_=>none
attribute [push_cast] inv75
theorem ok75:FSOk Tryz.prog 75 fs75:=by
 refine⟨⟨_,Tryz.func75,by kernel_rfl,by kernel_rfl⟩,fun a=>⟨by simp[fs75,push_cast,noMine,argOwn,Chunk.frArg],by simp[fs75,push_cast,outOk,Chunk.ext],fun x=>.inl (by simp[fs75,push_cast,frNew,frOut,Chunk.fr])⟩,fun a hp=>?_⟩
 obtain⟨⟨lv,kd,x,y,w,h⟩⟩:=a
 obtain⟨h1,h2,h3,h4⟩:0<=w/\w<=200/\0<=h/\h<=200:=hp
 change Tri Tryz.prog 75 [(⟨lv,kd,x,y,w,h⟩:Bd).sv] [] (postF fs75 ⟨⟨lv,kd,x,y,w,h⟩⟩)
 have hm:=mul_bd h1 h2 h3 h4
 refine tri_evS (hyp (l:=[]) (lp:=[]) trivial trivial) Tryz.func75 comp75 (rs:=[.tmp 2]) (by rfl) Tryz.ntmps75 11 ?_
 simp -implicitDefEqProofs only[push_cast,zz,seval,ir75]
 intro X
 repeat refine om_ ?_
 refine postF.mk' (fun _=>default) [] ?_
 simp -implicitDefEqProofs only[push_cast,zz,seval,fs75,Bd.gone]
def ent75:Entry:=spOf fs75 inv75
theorem e75:EntryOk Tryz.prog 75 ent75:=entry_of ok75 inv75
@[push_cast] theorem ent75_app (us:List SV) (look:Look) (x:Nat->Xf.Loc) (k:Nat):ent75 us look x k=spOf fs75 inv75 us look x k:=rfl
structure Bds where
 L:Xf.Loc
 l:List Bd
def fs94:FS where
 A:=Bds
 args:=fun a=>[.sl 0 a.L 6 0 a.l.length,.fn 75 []]
 mem:=fun a=>[some (.ro,a.L,.recs 6 false [] (a.l.map Bd.rc))]
 pre:=fun a=>a.l.length<=1000000/\∀ x∈a.l,x.ok
 res:=fun a _=>.int .i64 (if a.l.findIdx Bd.gone<a.l.length then (a.l.findIdx Bd.gone:Nat)else -1)
 out:=fun _ _=>[]
 new:=fun _ _=>[]
def getBd:List (List RC)->Option (List Bd)
 | []=>some []
 | [.int .i64 lv,.int .i64 kd,.int .i64 x,.int .i64 y,.int .i64 w,.int .i64 h]::l=>match getBd l with | some r=>some (⟨lv,kd,x,y,w,h⟩::r) | none=>none
 | _=>none
theorem getBd_map:∀ l:List Bd,getBd (l.map Bd.rc)=some l
 | []=>rfl
 | x::l=>by simp only[List.map_cons,Bd.rc,getBd,getBd_map l]
def inv94:List SV->Look->Option (Bds×List Nat)
 | [.sl c _ 6 0 _,.fn 75 []],look=>match rowR (look c)with
  | some (L,6,_,r)=>match getBd r with | some l=>some (⟨L,l⟩,[c]) | none=>none
  | _=>none
 | _,_=>none
attribute [push_cast] inv94 getBd_map
theorem ok94:FSOk Tryz.prog 94 fs94:=by
 refine⟨⟨_,Tryz.func94,by kernel_rfl,by kernel_rfl⟩,fun a=>⟨by simp[fs94,push_cast,noMine,argOwn,Chunk.frArg],by simp[fs94,push_cast,outOk,Chunk.ext],fun x=>.inl (by simp[fs94,push_cast,frNew,frOut,Chunk.fr])⟩,fun a hp=>?_⟩
 obtain⟨L,l⟩:=a
 obtain⟨hl,hok⟩:l.length<=1000000/\∀ x∈l,x.ok:=hp
 change Tri Tryz.prog 94 [.sl 0 L 6 0 l.length,.fn 75 []] [some (.ro,L,.recs 6 false [] (l.map Bd.rc))] (postF fs94 ⟨L,l⟩)
 refine tri_evS (hyp (l:=[(75,ent75)]) (lp:=[]) ⟨e75,trivial⟩ trivial) Tryz.func94 comp94 (rs:=[.tmp 4]) (by rfl) Tryz.ntmps94 14 ?_
 simp -implicitDefEqProofs only[push_cast,zz,seval,ir94]
 refine evS_loopU (A:=Nat) kp94_1 kl94_1 (fun i=>[(8,.int .i64 i)]) (fun _=>[]) (fun i=>i<=l.length/\∀ j:Nat,j<i->(rdBd l j).gone=false) (fun i=>l.length-i) 0 ⟨Nat.zero_le _,fun j hj=>absurd hj (Nat.not_lt_zero j)⟩ (Sub.pt ?_) ?_
 ·simp -implicitDefEqProofs only[push_cast,zz,seval]
 intro i ⟨hi,hj⟩ K hK
 by_cases hi':i<l.length
 ·have r1:=recAt_Bd' (l:=l) (i:=(i:Int)) (by omega) (by omega) []
  have o1:=hok _ (rdBd_mem hi')
  have hlm:(l.map Bd.rc).length=l.length:=by rw[List.length_map]
  obtain⟨x,hx⟩:∃ x,rdBd l (i:Int)=x:=⟨_,rfl⟩
  have hx':l[i]=x:=by rw[<-rdBd_nat hi',hx]
  rw[hx]at r1 o1
  obtain⟨lv,kd,x,y,w,h⟩:=x
  obtain⟨g,hg⟩:∃ g,(⟨lv,kd,x,y,w,h⟩:Bd).gone=g:=⟨_,rfl⟩
  simp -implicitDefEqProofs only[push_cast,zz,seval,b94_1,r94_2,r1,Bd.rc,hlm,fs75,hg]
  refine⟨fun _=>?_,fun hl=>by omega⟩
  repeat refine om_ ?_
  refine⟨fun hb=>?_,fun hb=>⟨by omega,by omega,hK (i+1) ⟨by omega,fun j h=>?_⟩ (by omega) _ _ (Sub.pt ?_)⟩⟩
  ·have e:l.findIdx Bd.gone=i:=by
    rw[List.findIdx_eq hi']
    refine⟨by rw[hx',hg];exact hb,fun j h=>?_⟩
    have:=hj j h
    rwa [rdBd_nat (by omega)]at this
   refine postF.mk' (fun _=>default) [some 0] ?_
   simp -implicitDefEqProofs only[push_cast,zz,seval,fs94,e,hi',if_true]
  ·by_cases e:j=i
   ·subst e;rw[hx,hg];exact hb
   ·exact hj j (by omega)
  ·simp -implicitDefEqProofs only[push_cast,zz,seval]
 ·obtain rfl:i=l.length:=by omega
  clear hK
  have e:¬ l.findIdx Bd.gone<l.length:=fun h=>by
   have h1:=List.findIdx_getElem (w:=h)
   have h2:=hj _ h
   rw[rdBd_nat h,h1]at h2
   cases h2
  simp -implicitDefEqProofs only[push_cast,zz,seval,b94_1,r94_2,Int.lt_irrefl,true_implies,true_and]
  refine postF.mk' (fun _=>default) [some 0] ?_
  simp -implicitDefEqProofs only[push_cast,zz,seval,fs94,e,if_false]
def ent94:Entry:=spOf fs94 inv94
theorem e94:EntryOk Tryz.prog 94 ent94:=entry_of ok94 inv94
@[push_cast] theorem ent94_app (us:List SV) (look:Look) (x:Nat->Xf.Loc) (k:Nat):ent94 us look x k=spOf fs94 inv94 us look x k:=rfl
def keptBd (l:List Bd):List Bd:=l.filter fun x=>!x.gone
theorem keptBd_le (l:List Bd):(keptBd l).length<=l.length:=List.length_filter_le _ _
def fs74:FS where
 A:=Bds
 args:=fun a=>[.sl 0 a.L 6 0 a.l.length,.fn 75 []]
 mem:=fun a=>[some (.lent,a.L,.recs 6 false [] (a.l.map Bd.rc))]
 pre:=fun a=>a.l.length<=1000000/\∀ x∈a.l,x.ok
 res:=fun a _=>.sl 0 a.L 6 0 (keptBd a.l).length
 out:=fun a _=>[some (some (.recs 6 false [] ((keptBd a.l).map Bd.rc++List.replicate (a.l.length-(keptBd a.l).length) [.int .i64 0,.int .i64 0,.int .i64 0,.int .i64 0,.int .i64 0,.int .i64 0])))]
 new:=fun _ _=>[]
theorem del_step {l m:List Bd} {i j:Nat} (hij:i<j) (hj:j<l.length) (hm:m.length=l.length) (h1:m.take i=keptBd (l.take j)) (h2:m.drop j=l.drop j) :
  rdBd m j=rdBd l j/\((rdBd l j).gone=true->m.take i=keptBd (l.take (j+1)))/\((rdBd l j).gone=false->(m.set i (rdBd l j)).take (i+1)=keptBd (l.take (j+1))/\(m.set i (rdBd l j)).drop (j+1)=l.drop (j+1))/\m.drop (j+1)=l.drop (j+1):=by
 have e0:m[j]'(by omega)=l[j]:=by
  have:=congrArg (fun q=>q[0]?) h2
  simp only[List.getElem?_drop,Nat.add_zero]at this
  rw[List.getElem?_eq_getElem (by omega),List.getElem?_eq_getElem hj]at this
  exact Option.some.inj this
 have e1:l.take (j+1)=l.take j++[l[j]]:=List.take_succ_eq_append_getElem hj
 have e2:m.drop (j+1)=l.drop (j+1):=by
  have:=congrArg (List.drop 1) h2
  simpa [List.drop_drop,Nat.add_comm]using this
 refine⟨by rw[rdBd_nat hj,rdBd_nat (by omega),e0],fun h=>?_,fun h=>?_,e2⟩
 ·rw[rdBd_nat hj]at h
  rw[h1,e1];unfold keptBd;rw[List.filter_append];simp[h]
 ·rw[rdBd_nat hj]at h ⊢
  refine⟨?_,by rw[List.drop_set_of_lt (by omega),e2]⟩
  rw[List.take_succ_eq_append_getElem (by simp;omega),List.take_set_of_le (Nat.le_refl i),List.getElem_set_self,h1,e1]
  unfold keptBd;rw[List.filter_append];simp[h]
theorem kept_find {l:List Bd} (h:l.findIdx Bd.gone<l.length):l.take (l.findIdx Bd.gone)=keptBd (l.take (l.findIdx Bd.gone+1)):=by
 rw[List.take_succ_eq_append_getElem h]
 unfold keptBd
 rw[List.filter_append,List.filter_eq_self.2 fun x hx=>?_]
 ·have:=List.findIdx_getElem (w:=h);simp[this]
 ·obtain⟨j,hj,rfl⟩:=List.getElem_of_mem hx
  simp only[List.length_take]at hj
  have:=List.not_of_lt_findIdx (xs:=l) (p:=Bd.gone) (i:=j) (by omega)
  simpa using this
theorem kept_no {l:List Bd} (h:¬ l.findIdx Bd.gone<l.length):keptBd l=l:=by
 refine List.filter_eq_self.2 fun x hx=>?_
 have h1:¬ ∃ x∈l,x.gone=true:=fun q=>h (List.findIdx_lt_length.2 q)
 simp only[Bool.not_eq_true',<-Bool.not_eq_true]
 exact fun q=>h1 ⟨x,hx,q⟩
theorem ok74:FSOk Tryz.prog 74 fs74:=by
 refine⟨⟨_,Tryz.func74,by kernel_rfl,by kernel_rfl⟩,fun a=>⟨by simp[fs74,push_cast,noMine,argOwn,Chunk.frArg],by simp[fs74,push_cast,outOk,Chunk.ext],fun x=>.inr ⟨fun j L ch h=>?_,fun c ch h=>.inr fun y hy=>?_⟩⟩,fun a hp=>?_⟩
 ·simp[fs74]at h
 ·exfalso
  match c,h with
  | 0,h=>simp only[fs74,lk,Option.some.injEq]at h;subst h;exact Bd.noRow _ _ _ _ _ hy
  | c+1,h=>simp[fs74,lk]at h
 obtain⟨L,l⟩:=a
 obtain⟨hl,hok⟩:l.length<=1000000/\∀ x∈l,x.ok:=hp
 change Tri Tryz.prog 74 [.sl 0 L 6 0 l.length,.fn 75 []] [some (.lent,L,.recs 6 false [] (l.map Bd.rc))] (postF fs74 ⟨L,l⟩)
 refine tri_evS (hyp (l:=[(94,ent94),(75,ent75)]) (lp:=[]) ⟨e94,e75,trivial⟩ trivial) Tryz.func74 comp74 (rs:=[.tmp 4]) (by rfl) Tryz.ntmps74 19 ?_
 simp -implicitDefEqProofs only[push_cast,zz,seval,ir74,fs94]
 refine⟨hl,hok,?_⟩
 by_cases hf:l.findIdx Bd.gone<l.length
 case neg=>
  rw[if_neg hf]
  have e:=kept_no hf
  simp -implicitDefEqProofs only[push_cast,zz,seval,true_implies,true_and]
  refine postF.mk' (fun _=>default) [some 0] ?_
  simp -implicitDefEqProofs only[push_cast,zz,seval,fs74,e,Nat.sub_self,List.replicate_zero]
 rw[if_pos hf]
 have hk:=kept_find hf
 obtain⟨f,hfe⟩:∃ f,l.findIdx Bd.gone=f:=⟨_,rfl⟩
 rw[hfe]at hf hk ⊢
 refine⟨fun h=>by omega,fun _=>⟨by omega,by omega,?_⟩⟩
 refine evS_loopU (A:=Nat×Nat×List Bd) kp74_1 kl74_1 (fun y=>[(5,.int .i64 y.1),(6,.int .i64 y.2.1)]) (fun y=>[(0,.lent,L,.recs 6 false [] (y.2.2.map Bd.rc))])
  (fun y=>y.1<y.2.1/\y.2.1<=l.length/\y.2.2.length=l.length/\y.2.2.take y.1=keptBd (l.take y.2.1)/\y.2.2.drop y.2.1=l.drop y.2.1) (fun y=>l.length-y.2.1) (f,f+1,l) ⟨by simp only;omega,by simp only;omega,rfl,hk,rfl⟩ (Sub.pt ?_) ?_
 ·simp -implicitDefEqProofs only[push_cast,zz,seval]
 rintro⟨i,j,m⟩ ⟨h1,h2,h3,h4,h5⟩ K hK
 simp only at h1 h2 h3 h4 h5
 have hlm:(m.map Bd.rc).length=l.length:=by rw[List.length_map,h3]
 by_cases hj:j<l.length
 ·obtain⟨s1,s2,s3,s4⟩:=del_step h1 hj h3 h4 h5
  have r1:=recAt_Bd' (l:=m) (i:=(j:Int)) (by omega) (by omega) []
  have o1:=hok _ (rdBd_mem hj)
  rw[s1]at r1
  obtain⟨x,hx⟩:∃ x,rdBd l (j:Int)=x:=⟨_,rfl⟩
  rw[hx]at r1 o1 s2 s3
  obtain⟨lv,kd,x,y,w,h⟩:=x
  obtain⟨g,hg⟩:∃ g,(⟨lv,kd,x,y,w,h⟩:Bd).gone=g:=⟨_,rfl⟩
  rw[hg]at s2 s3
  simp -implicitDefEqProofs only[push_cast,zz,seval,b74_1,r74_2,r1,Bd.rc,hlm,fs75,hg]
  refine⟨fun _=>?_,fun hl=>by omega⟩
  intro X
  repeat refine om_ ?_
  refine⟨fun hb=>?_,fun hb=>?_⟩
  ·repeat refine om_ ?_
   refine hK (i+1,j+1,m.set i ⟨lv,kd,x,y,w,h⟩) ⟨by simp only;omega,by simp only;omega,by simp only[List.length_set];exact h3,(s3 (by simpa using hb)).1,(s3 (by simpa using hb)).2⟩ (by simp only;omega) _ _ (Sub.pt ?_)
   have q:(m.map Bd.rc).set i [.int .i64 lv,.int .i64 kd,.int .i64 x,.int .i64 y,.int .i64 w,.int .i64 h]=(m.set i ⟨lv,kd,x,y,w,h⟩).map Bd.rc:=by rw[List.map_set];rfl
   simp -implicitDefEqProofs only[push_cast,zz,seval,q,Int.toNat_natCast]
  ·repeat refine om_ ?_
   refine hK (i,j+1,m) ⟨by simp only;omega,by simp only;omega,h3,s2 (by simpa using hb),s4⟩ (by simp only;omega) _ _ (Sub.pt ?_)
   simp -implicitDefEqProofs only[push_cast,zz,seval]
 ·obtain rfl:j=l.length:=by omega
  clear hK
  rw[List.take_length]at h4
  have hi:i=(keptBd l).length:=by
   have:=congrArg List.length h4
   rw[List.length_take]at this;omega
  simp -implicitDefEqProofs only[push_cast,zz,seval,b74_1,r74_2,hlm,Int.lt_irrefl,true_implies,true_and]
  repeat refine om_ ?_
  refine postF.mk' (fun _=>default) [some 0] ?_
  have q:(m.map Bd.rc).take i=(keptBd l).map Bd.rc:=by rw[<-List.map_take,h4]
  have q2:((l.length:Int)-(i:Int)).toNat=l.length-(keptBd l).length:=by omega
  simp -implicitDefEqProofs only[push_cast,zz,seval,fs74,q,q2,<-hi,Int.toNat_natCast,Int.zero_add,Int.sub_zero]
def ent74:Entry:=spOf fs74 inv94
theorem e74:EntryOk Tryz.prog 74 ent74:=entry_of ok74 inv94
@[push_cast] theorem ent74_app (us:List SV) (look:Look) (x:Nat->Xf.Loc) (k:Nat):ent74 us look x k=spOf fs74 inv94 us look x k:=rfl
def b32_1:IR:=
 .seq (.seq (r_ [m_ 56 10,c_ 57 .gtr 56 0] [56]) (.cond (.t 57) (.skip) (.exit 0))) (.seq (.block 1 (.seq (r_ [m_ 60 8,m_ 61 10,c_ 62 .sub 61 1,i_ 63 60 62 2,o_ 64 (.ld true (some 2) 0 0 (.t 63)),o_ 11 (.allocI 15 .i64 2),S_ 2 .i64 11 64] [57,60,61,62,63,64]) (.seq (r_ [m_ 65 8,m_ 66 10,i_ 67 65 66 2,o_ 68 (.ld true (some 2) 0 0 (.t 67)),o_ 12 (.allocI 16 .i64 2),S_ 2 .i64 12 68] [65,66,67,68]) (.seq (R_ [o_ 69 (.idxP (.t 11) (Z_ 0) 2 1),L_ 70 69,o_ 71 (.idxP (.t 12) (Z_ 0) 2 1),L_ 72 71,b_ 73 .sub 70 72,o_ 74 (.idxP (.t 11) (Z_ 1) 2 1),L_ 75 74,o_ 76 (.idxP (.t 12) (Z_ 1) 2 1),L_ 77 76,b_ 78 .sub 75 77,m_ 13 73,m_ 14 78] [11,69,70,71,72,73,74,75,76,77,78]) (r_ [m_ 79 9,m_ 80 10,o_ 81 (.idxP (.t 12) (Z_ 0) 2 1),L_ 82 81,m_ 83 13,o_ 84 (.idxP (.t 12) (Z_ 1) 2 1),L_ 85 84,o_ 86 (.build [y_,y_,y_,y_,y_,y_] [(0,1,.t 80),(1,1,Z_ 1),(2,1,.t 82),(4,1,.t 83),(5,1,.t 85)]),m_ 87 10,o_ 88 (.idxP (.t 12) (Z_ 1) 2 1),L_ 89 88,o_ 90 (.idxP (.t 12) (Z_ 0) 2 1),L_ 91 90,m_ 92 14,o_ 93 (.build [y_,y_,y_,y_,y_,y_] [(0,1,.t 87),(1,1,Z_ 2),(3,1,.t 89),(4,1,.t 91),(5,1,.t 92)]),m_ 94 10,o_ 95 (.idxP (.t 12) (Z_ 0) 2 1),L_ 96 95,o_ 97 (.idxP (.t 12) (Z_ 1) 2 1),L_ 98 97,m_ 99 13,m_ 100 14,o_ 101 (.build [y_,y_,y_,y_,y_,y_] [(0,1,.t 94),(1,1,Z_ 3),(2,1,.t 96),(3,1,.t 98),(4,1,.t 99),(5,1,.t 100)]),o_ 102 (.brecs 17 6 .i64 [.t 86,.t 93,.t 101]),o_ 103 (.app 18 6 48 (.t 79) (.t 102)),m_ 9 103] [12,13,14,79,80,81,82,83,84,85,86,87,88,89,90,91,92,93,94,95,96,97,98,99,100,101,102,103]))))) (r_ [m_ 58 10,c_ 59 .sub 58 1,m_ 10 59] [58,59]))
def r32_2:IR:=
 .seq (r_ [m_ 104 9,o_ 105 (.call none 19 74 [.t 104,.k (.fn 75 [])]),m_ 6 105,z_ 7 0] [8,9,10,104,105]) (.ret)
def ir32:IR:=
 .seq (r_ [o_ 6 (.mov (.k nilSV)),z_ 7 0] [6,7]) (.seq (.seq (r_ [m_ 15 2,c_ 16 .lss 15 0,m_ 17 16,q_ 17 (m_ 18 2),q_ 17 (c_ 19 .gtr 18 6),k_ 20 17 19,m_ 21 20,q_ 21 (m_ 22 0),q_ 21 (c_ 23 .lss 22 0),k_ 24 21 23,m_ 25 24,q_ 25 (m_ 26 1),q_ 25 (c_ 27 .lss 26 0),k_ 28 25 27,m_ 29 28,q_ 29 (m_ 30 0),q_ 29 (c_ 31 .gtr 30 200),k_ 32 29 31,m_ 33 32,q_ 33 (m_ 34 1),q_ 33 (c_ 35 .gtr 34 200),k_ 36 33 35] [15,16,17,18,19,20,21,22,23,24,25,26,27,28,29,30,31,32,33,34,35]) (.cond (.t 36) (.seq (r_ [o_ 6 (.mov (.k nilSV)),z_ 7 2] [0,1,2,36]) (.ret)) (.skip))) (.seq (r_ [m_ 37 0,m_ 38 1,m_ 39 2,a_ 40 39 1,o_ 41 (.call (some 4) 10 73 [.t 37,.t 38,.t 40]),m_ 8 41] [0,1,6,7,36,37,38,39,40,41]) (.seq (R_ [m_ 42 2,m_ 43 8,m_ 44 2,i_ 45 43 44 2,o_ 46 (.idxP (.t 45) (Z_ 0) 2 1),L_ 47 46,m_ 48 8,m_ 49 2,i_ 50 48 49 2,o_ 51 (.idxP (.t 50) (Z_ 1) 2 1),L_ 52 51,o_ 53 (.build [y_,y_,y_,y_,y_,y_] [(0,1,.t 42),(4,1,.t 47),(5,1,.t 52)]),o_ 54 (.brecs 14 6 .i64 [.t 53]),m_ 9 54] [42,43,44,45,46,47,48,49,50,51,52,53,54]) (.seq (.seq (r_ [m_ 55 2,m_ 10 55] [2,55]) (.block 0 (.loop b32_1))) (r32_2)))))
def kp32_1:List Nat:=[8,9,10]
def kl32_1:List Nat:=[15,16,17,18]
attribute [push_cast] kp32_1 kl32_1
set_option maxRecDepth 4000 in
theorem comp32:(Tryz.f32.body.bind fun c=>compC tab isP chkAll ir32 c)=some ir32:=by kernel_rfl
def b85_1:IR:=
 .seq (.seq (r_ [m_ 56 11,c_ 57 .geq 56 1] [56]) (.cond (.t 57) (.skip) (.exit 0))) (.seq (.block 1 (.seq (r_ [m_ 61 0,m_ 62 1,m_ 63 11,c_ 64 .sub 63 1,o_ 65 (.call (some 4) 16 95 [.t 61,.t 62,.t 64]),m_ 60 65,e_ 66 60 0,e_ 67 60 1,m_ 12 66,m_ 13 67] [57,60,61,62,63,64,65,66,67]) (.seq (r_ [m_ 69 0,m_ 70 1,m_ 71 11,o_ 72 (.call (some 4) 20 95 [.t 69,.t 70,.t 71]),m_ 68 72,e_ 73 68 0,e_ 74 68 1,m_ 14 73,m_ 15 74] [68,69,70,71,72,73,74]) (.seq (r_ [m_ 75 8,m_ 76 11,m_ 77 14,m_ 78 12,m_ 79 14,b_ 80 .sub 78 79,m_ 81 15,o_ 82 (.build [y_,y_,y_,y_,y_,y_] [(0,1,.t 76),(1,1,Z_ 1),(2,1,.t 77),(4,1,.t 80),(5,1,.t 81)]),o_ 83 (.brecs 24 6 .i64 [.t 82]),o_ 84 (.app 25 6 48 (.t 75) (.t 83)),m_ 8 84] [75,76,77,78,79,80,81,82,83,84]) (.seq (r_ [m_ 85 8,m_ 86 11,m_ 87 15,m_ 88 14,m_ 89 13,m_ 90 15,b_ 91 .sub 89 90,o_ 92 (.build [y_,y_,y_,y_,y_,y_] [(0,1,.t 86),(1,1,Z_ 2),(3,1,.t 87),(4,1,.t 88),(5,1,.t 91)]),o_ 93 (.brecs 26 6 .i64 [.t 92]),o_ 94 (.app 27 6 48 (.t 85) (.t 93)),m_ 8 94] [85,86,87,88,89,90,91,92,93,94]) (r_ [m_ 95 8,m_ 96 11,m_ 97 14,m_ 98 15,m_ 99 12,m_ 100 14,b_ 101 .sub 99 100,m_ 102 13,m_ 103 15,b_ 104 .sub 102 103,o_ 105 (.build [y_,y_,y_,y_,y_,y_] [(0,1,.t 96),(1,1,Z_ 3),(2,1,.t 97),(3,1,.t 98),(4,1,.t 101),(5,1,.t 104)]),o_ 106 (.brecs 28 6 .i64 [.t 105]),o_ 107 (.app 29 6 48 (.t 95) (.t 106)),m_ 8 107] [12,13,14,15,95,96,97,98,99,100,101,102,103,104,105,106,107])))))) (r_ [m_ 58 11,c_ 59 .sub 58 1,m_ 11 59] [58,59]))
def b85_2:IR:=
 .seq (r_ [b_ 111 .lss 110 109] []) (.seq (.cond (.t 111) (.skip) (.exit 2)) (.seq (.block 3 (.seq (r_ [i_ 112 108 110 6,o_ 113 (.ld true (some 6) 0 0 (.t 112)),o_ 18 (.alloc 30 [y_,y_,y_,y_,y_,y_]),s_ 6 .i64 18 113] [111,112,113]) (.seq (r_ [f_ 114 18 4,l_ 115 114,c_ 116 .gtr 115 0,m_ 117 116,p_ 117 (f_ 118 18 5),p_ 117 (l_ 119 118),p_ 117 (c_ 120 .gtr 119 0),K_ 121 117 120] [114,115,116,117,118,119,120]) (.cond (.t 121) (r_ [m_ 122 16,o_ 123 (.ld false (some 6) 0 0 (.t 18)),o_ 124 (.brecs 31 6 .i64 [.t 123]),o_ 125 (.app 32 6 48 (.t 122) (.t 124)),m_ 16 125] [18,121,122,123,124,125]) (.skip))))) (r_ [a_ 126 110 1,m_ 110 126] [18,121,126])))
def r85_3:IR:=
 .seq (r_ [m_ 127 16,m_ 6 127,z_ 7 0] [16,108,109,110,127]) (.ret)
def r85_4:IR:=
 .seq (r_ [o_ 16 (.mov (.k nilSV))] [0,1,11]) (.seq (.seq (r_ [m_ 108 8,h_ 109 108,z_ 110 0] [8]) (.block 2 (.loop b85_2))) (r85_3))
def ir85:IR:=
 .seq (r_ [o_ 6 (.mov (.k nilSV)),z_ 7 0] [6,7]) (.seq (.seq (r_ [m_ 19 0,c_ 20 .lss 19 0,m_ 21 20,q_ 21 (m_ 22 0),q_ 21 (c_ 23 .gtr 22 200),k_ 24 21 23,m_ 25 24,q_ 25 (m_ 26 1),q_ 25 (c_ 27 .lss 26 0),k_ 28 25 27,m_ 29 28,q_ 29 (m_ 30 1),q_ 29 (c_ 31 .gtr 30 200),k_ 32 29 31,m_ 33 32,q_ 33 (m_ 34 2),q_ 33 (c_ 35 .lss 34 0),k_ 36 33 35,m_ 37 36,q_ 37 (m_ 38 2),q_ 37 (c_ 39 .gtr 38 6),k_ 40 37 39] [19,20,21,22,23,24,25,26,27,28,29,30,31,32,33,34,35,36,37,38,39]) (.cond (.t 40) (.seq (r_ [o_ 6 (.mov (.k nilSV)),z_ 7 2] [0,1,2,40]) (.ret)) (.skip))) (.seq (r_ [o_ 8 (.mov (.k nilSV))] [6,7,40]) (.seq (r_ [m_ 42 0,m_ 43 1,m_ 44 2,o_ 45 (.call (some 4) 10 95 [.t 42,.t 43,.t 44]),m_ 41 45,e_ 46 41 0,e_ 47 41 1,m_ 9 46,m_ 10 47] [41,42,43,44,45,46,47]) (.seq (r_ [m_ 48 8,m_ 49 2,m_ 50 9,m_ 51 10,o_ 52 (.build [y_,y_,y_,y_,y_,y_] [(0,1,.t 49),(4,1,.t 50),(5,1,.t 51)]),o_ 53 (.brecs 14 6 .i64 [.t 52]),o_ 54 (.app 15 6 48 (.t 48) (.t 53)),m_ 8 54] [9,10,48,49,50,51,52,53,54]) (.seq (.seq (r_ [m_ 55 2,m_ 11 55] [2,55]) (.block 0 (.loop b85_1))) (r85_4))))))
def kp85_1:List Nat:=[0,1,8,11]
def kl85_1:List Nat:=[16,17,18,19,20,21,22,23,24,25,26,27,28,29]
attribute [push_cast] kp85_1 kl85_1
def kp85_2:List Nat:=[16,108,109,110]
def kl85_2:List Nat:=[30,31,32]
attribute [push_cast] kp85_2 kl85_2
set_option maxRecDepth 4000 in
theorem comp85:(Tryz.f85.body.bind fun c=>compC tab isP chkAll ir85 c)=some ir85:=by kernel_rfl
def bd0 (w h n:Nat):Bd:=⟨n,0,0,0,hlf w n,hlf h n⟩
def bd3 (w h i:Nat):List Bd:=[⟨i,1,hlf w i,0,(hlf w (i-1):Int)-hlf w i,hlf h i⟩,⟨i,2,0,hlf h i,hlf w i,(hlf h (i-1):Int)-hlf h i⟩,⟨i,3,hlf w i,hlf h i,(hlf w (i-1):Int)-hlf w i,(hlf h (i-1):Int)-hlf h i⟩]
def bdD (w h n:Nat):Nat->List Bd
 | 0=>[bd0 w h n]
 | k+1=>bdD w h n k++bd3 w h (n-k)
def bdN (k:Nat):Nat:=1+3*k
theorem bdD_length (w h n:Nat):∀ k,(bdD w h n k).length=bdN k
 | 0=>rfl
 | k+1=>by rw[bdD,List.length_append,bdD_length w h n k];simp[bd3,bdN];omega
theorem bdD_ok {w h n:Nat} (hw:w<=200) (hh:h<=200):∀ k,k<=n->∀ x∈bdD w h n k,x.ok
 | 0,_,x,hx=>by
  have b1:=hlf_le w n
  have b2:=hlf_le h n
  simp only[bdD,List.mem_singleton]at hx
  subst hx
  simp only[Bd.ok,bd0];omega
 | k+1,hk,x,hx=>by
  rw[bdD,List.mem_append]at hx
  rcases hx with hx | hx
  ·exact bdD_ok hw hh k (by omega) x hx
  ·obtain⟨i,hi⟩:∃ i,n-k=i+1:=⟨n-k-1,by omega⟩
   rw[hi]at hx
   have b1:=hlf_le w i
   have b2:=hlf_le h i
   have b3:=hlf_mono w i
   have b4:=hlf_mono h i
   simp only[bd3,Nat.add_sub_cancel,List.mem_cons,List.not_mem_nil,or_false]at hx
   rcases hx with rfl | rfl | rfl<;>simp only[Bd.ok]<;>omega
def bnOk (w h n:Int):Prop:=0<=n/\n<=6/\0<=w/\w<=200/\0<=h/\h<=200
instance (w h n:Int):Decidable (bnOk w h n):=by unfold bnOk;infer_instance
def bnA (w h n:Int):List Bd:=if bnOk w h n then bdD w.toNat h.toNat n.toNat n.toNat else []
def bnL (w h n:Int):List Bd:=keptBd (bnA w h n)
theorem bnL_le (w h n:Int):(bnL w h n).length<=19:=by
 refine Nat.le_trans (keptBd_le _) ?_
 unfold bnA
 split
 ·rename_i H;rw[bdD_length];obtain⟨h1,h2,_⟩:=H;unfold bdN;omega
 ·exact Nat.zero_le _
structure BnA where
 w:Int
 h:Int
 n:Int
def bnZ (w h n:Int):List (List RC):=(bnL w h n).map Bd.rc++List.replicate ((bnA w h n).length-(bnL w h n).length) [.int .i64 0,.int .i64 0,.int .i64 0,.int .i64 0,.int .i64 0,.int .i64 0]
def fs32:FS where
 A:=BnA
 args:=fun a=>[.int .i64 a.w,.int .i64 a.h,.int .i64 a.n]
 mem:=fun _=>[]
 pre:=fun _=>True
 res:=fun a x=>.tup [.sl 0 (lx (bnOk a.w a.h a.n) x 0) (if bnOk a.w a.h a.n then 6 else 1) 0 (bnL a.w a.h a.n).length,.int .i64 (if bnOk a.w a.h a.n then 0 else 2)]
 out:=fun _ _=>[]
 new:=fun a x=>[(lx (bnOk a.w a.h a.n) x 0,.recs 6 false [] (bnZ a.w a.h a.n))]
def inv32:List SV->Look->Option (BnA×List Nat)
 | [.int .i64 w,.int .i64 h,.int .i64 n],look=>some (⟨w,h,n⟩,[])
 | _,_=>none
attribute [push_cast] inv32
theorem ok32:FSOk Tryz.prog 32 fs32:=by
 refine⟨⟨_,Tryz.func32,by kernel_rfl,by kernel_rfl⟩,fun a=>⟨by simp[fs32,push_cast,noMine,argOwn,Chunk.frArg],by simp[fs32,push_cast,outOk,Chunk.ext],fun x=>.inr ⟨fun j L ch h=>.inr fun y hy=>?_,fun c ch h=>?_⟩⟩,fun a hp=>?_⟩
 ·exfalso
  match j,h with
  | 0,h=>
   simp only[fs32,List.getElem?_cons_zero,Option.some.injEq,Prod.mk.injEq]at h
   obtain⟨_,rfl⟩:=h;exact Bd.noRow _ _ _ _ _ hy
  | j+1,h=>simp[fs32]at h
 ·simp[fs32,lk]at h
 obtain⟨w,h,n⟩:=a
 change Tri Tryz.prog 32 [.int .i64 w,.int .i64 h,.int .i64 n] [] (postF fs32 ⟨w,h,n⟩)
 refine tri_evS (hyp (l:=[(73,ent73),(74,ent74)]) (lp:=[]) ⟨e73,e74,trivial⟩ trivial) Tryz.func32 comp32 (rs:=[.tmp 6,.tmp 7]) (by rfl) Tryz.ntmps32 23 ?_
 simp -implicitDefEqProofs only[push_cast,zz,seval,ir32]
 refine⟨fun hb=>?_,fun hg=>?_⟩
 ·have e:¬ bnOk w h n:=fun H=>by obtain⟨q1,q2,q3,q4,q5,q6⟩:=H;omega
  have e1:bnA w h n=[]:=if_neg e
  have e2:bnL w h n=[]:=by unfold bnL;rw[e1];rfl
  refine postF.mk' (fun _=>default) [none] ?_
  simp -implicitDefEqProofs only[push_cast,zz,seval,fs32,bnZ,e,e1,e2,if_false,lx,List.length_nil,List.map_nil,Nat.sub_self,List.replicate_zero]
 have e:bnOk w h n:=by unfold bnOk;omega
 obtain⟨q1,q2,q3,q4,q5,q6⟩:=id e
 obtain⟨w,rfl⟩:∃ m:Nat,w=(m:Int):=⟨w.toNat,by omega⟩
 obtain⟨h,rfl⟩:∃ m:Nat,h=(m:Int):=⟨h.toNat,by omega⟩
 obtain⟨n,rfl⟩:∃ m:Nat,n=(m:Int):=⟨n.toNat,by omega⟩
 have en:((n:Int)+1).toNat=n+1:=by omega
 have r1:=recAt_tabR (i:=n) (n:=n+1) (by omega) (sdR w h) []
 simp -implicitDefEqProofs only[push_cast,zz,seval,fs73,Int.toNat_natCast,en,r1,sdR,esz,tabR_length]
 intro X
 repeat refine om_ ?_
 intro X1
 repeat refine om_ ?_
 refine evS_loopU (A:=Nat×Nat×Xf.Loc) kp32_1 kl32_1 (fun y=>[(9,.sl 14 y.2.2 6 0 (bdN y.1)),(10,.int .i64 y.2.1)]) (fun y=>[(14,.mine,y.2.2,.recs 6 true [] ((bdD w h n y.1).map Bd.rc))]) (fun y=>y.1+y.2.1=n) (fun y=>y.2.1) (0,n,X1 12 14) (Nat.zero_add n) (Sub.pt ?_) ?_
 ·simp -implicitDefEqProofs only[push_cast,zz,seval,bdD,bd0,Bd.rc,List.map_cons,List.map_nil,Nat.mul_zero,show bdN 0=1 from rfl]
 rintro⟨k,lv,N⟩ (hk:k+lv=n) K hK
 have hlen:((bdD w h n k).map Bd.rc).length=bdN k:=by rw[List.length_map,bdD_length]
 have hN3:bdN k=1+3*k:=rfl
 have hN4:bdN (k+1)=1+3*(k+1):=rfl
 by_cases h0:0<lv
 ·obtain⟨lv,rfl⟩:∃ i,lv=i+1:=⟨lv-1,by omega⟩
  have e1:((lv+1:Nat):Int)-1=(lv:Int):=by omega
  have r2:=recAt_tabR (i:=lv) (n:=n+1) (by omega) (sdR w h) []
  have r3:=recAt_tabR (i:=lv+1) (n:=n+1) (by omega) (sdR w h) []
  have b1:=hlf_le w lv
  have b2:=hlf_le h lv
  have b3:=hlf_mono w lv
  have b4:=hlf_mono h lv
  have e0:∀ a b:Int,rd [a,b] 0=a:=fun _ _=>rfl
  have e2:∀ a b:Int,rd [a,b] 1=b:=fun _ _=>rfl
  generalize hlv:((lv+1:Nat):Int)=lvi at e1 r3
  simp -implicitDefEqProofs only[push_cast,zz,seval,b32_1,r32_2,hlv,e1,r2,r3,sdR,e0,e2,hlen,tabR_length]
  refine⟨fun _=>?_,fun hl=>by omega⟩
  intro X2
  repeat refine om_ ?_
  intro X3
  repeat refine om_ ?_
  intro X4
  repeat refine om_ ?_
  have q:(bdD w h n k).map Bd.rc++[[.int .i64 lvi,.int .i64 1,.int .i64 (hlf w (lv+1)),.int .i64 0,.int .i64 ((hlf w lv:Int)-hlf w (lv+1)),.int .i64 (hlf h (lv+1))],[.int .i64 lvi,.int .i64 2,.int .i64 0,.int .i64 (hlf h (lv+1)),.int .i64 (hlf w (lv+1)),.int .i64 ((hlf h lv:Int)-hlf h (lv+1))],[.int .i64 lvi,.int .i64 3,.int .i64 (hlf w (lv+1)),.int .i64 (hlf h (lv+1)),.int .i64 ((hlf w lv:Int)-hlf w (lv+1)),.int .i64 ((hlf h lv:Int)-hlf h (lv+1))]]=(bdD w h n (k+1)).map Bd.rc:=by
   rw[bdD,List.map_append,show n-k=lv+1 by omega]
   simp[bd3,Bd.rc,<-hlv]
  refine hK (k+1,lv,X4 24 18) (show k+1+lv=n by omega) (show lv<lv+1 by omega) _ _ (Sub.of (mkG 23 [(10,10),(14,18)]) ?_)
  simp -implicitDefEqProofs only[push_cast,zz,seval,q]
  omega
 ·obtain rfl:lv=0:=by omega
  obtain rfl:k=n:=by omega
  clear hK
  have hall:bnA w h k=bdD w h k k:=by unfold bnA;rw[if_pos e];simp only[Int.toNat_natCast]
  have hg2:getBd ((bdD w h k k).map Bd.rc)=some (bdD w h k k):=getBd_map _
  have hle:=bdD_length w h k k
  have hok:=bdD_ok (w:=w) (h:=h) (n:=k) (by omega) (by omega) k (Nat.le_refl _)
  simp -implicitDefEqProofs only[push_cast,zz,seval,b32_1,r32_2,fs74,hg2,hle,Int.lt_irrefl,true_implies,true_and]
  refine⟨by omega,hok,postF.mk' (fun _=>N) [some 14] ?_⟩
  have hL:bnL w h k=keptBd (bdD w h k k):=by unfold bnL;rw[hall]
  simp -implicitDefEqProofs only[push_cast,zz,seval,fs32,bnZ,hL,hall,hle,e,if_true,lx]
def ent32:Entry:=spOf fs32 inv32
theorem e32:EntryOk Tryz.prog 32 ent32:=entry_of ok32 inv32
@[push_cast] theorem ent32_app (us:List SV) (look:Look) (x:Nat->Xf.Loc) (k:Nat):ent32 us look x k=spOf fs32 inv32 us look x k:=rfl
theorem bd_keep {x:Bd} (h:x.ok):(0<x.w/\0<x.h)↔x.gone=false:=by
 obtain⟨h1,h2,h3,h4⟩:=h
 unfold Bd.gone
 rw[decide_eq_false_iff_not,Int.mul_eq_zero]
 omega
theorem kept_take {l:List Bd} {i:Nat} (h:i<l.length):keptBd (l.take (i+1))=keptBd (l.take i)++(if (rdBd l i).gone=false then [rdBd l i]else []):=by
 rw[List.take_succ_eq_append_getElem h,rdBd_nat h]
 unfold keptBd
 rw[List.filter_append]
 by_cases g:l[i].gone=false
 ·rw[if_pos g];simp[g]
 ·rw[if_neg g];simp[g]
def fs85:FS where
 A:=BnA
 args:=fun a=>[.int .i64 a.w,.int .i64 a.h,.int .i64 a.n]
 mem:=fun _=>[]
 pre:=fun _=>True
 res:=fun a x=>.tup [.sl 0 (lx (0<(bnL a.w a.h a.n).length) x 0) (esz 6 (bnL a.w a.h a.n).length) 0 (bnL a.w a.h a.n).length,.int .i64 (if bnOk a.w a.h a.n then 0 else 2)]
 out:=fun _ _=>[]
 new:=fun a x=>[(lx (0<(bnL a.w a.h a.n).length) x 0,.recs 6 true [] ((bnL a.w a.h a.n).map Bd.rc))]
set_option maxHeartbeats 1000000 in
theorem ok85:FSOk Tryz.prog 85 fs85:=by
 refine⟨⟨_,Tryz.func85,by kernel_rfl,by kernel_rfl⟩,fun a=>⟨by simp[fs85,push_cast,noMine,argOwn,Chunk.frArg],by simp[fs85,push_cast,outOk,Chunk.ext],fun x=>.inl (by simp[fs85,push_cast,frNew,frOut,Chunk.fr])⟩,fun a hp=>?_⟩
 obtain⟨w,h,n⟩:=a
 change Tri Tryz.prog 85 [.int .i64 w,.int .i64 h,.int .i64 n] [] (postF fs85 ⟨w,h,n⟩)
 refine tri_evS (hyp (l:=[(95,ent95)]) (lp:=[]) ⟨e95,trivial⟩ trivial) Tryz.func85 comp85 (rs:=[.tmp 6,.tmp 7]) (by rfl) Tryz.ntmps85 33 ?_
 simp -implicitDefEqProofs only[push_cast,zz,seval,ir85]
 refine⟨fun hb=>?_,fun hg=>?_⟩
 ·have e:¬ bnOk w h n:=fun H=>by obtain⟨q1,q2,q3,q4,q5,q6⟩:=H;omega
  have e1:bnA w h n=[]:=if_neg e
  have e2:bnL w h n=[]:=by unfold bnL;rw[e1];rfl
  refine postF.mk' (fun _=>default) [none] ?_
  simp -implicitDefEqProofs only[push_cast,zz,seval,fs85,e,e2,if_false,lx,List.length_nil,List.map_nil,Nat.lt_irrefl,esz]
 have e:bnOk w h n:=by unfold bnOk;omega
 obtain⟨q1,q2,q3,q4,q5,q6⟩:=id e
 obtain⟨w,rfl⟩:∃ m:Nat,w=(m:Int):=⟨w.toNat,by omega⟩
 obtain⟨h,rfl⟩:∃ m:Nat,h=(m:Int):=⟨h.toNat,by omega⟩
 obtain⟨n,rfl⟩:∃ m:Nat,n=(m:Int):=⟨n.toNat,by omega⟩
 simp -implicitDefEqProofs only[push_cast,zz,seval,fs95,Int.toNat_natCast]
 repeat refine om_ ?_
 intro X
 repeat refine om_ ?_
 refine evS_loopU (A:=Nat×Nat×Xf.Loc) kp85_1 kl85_1 (fun y=>[(8,.sl 15 y.2.2 6 0 (bdN y.1)),(11,.int .i64 y.2.1)]) (fun y=>[(15,.mine,y.2.2,.recs 6 true [] ((bdD w h n y.1).map Bd.rc))]) (fun y=>y.1+y.2.1=n) (fun y=>y.2.1) (0,n,X 6 15) (Nat.zero_add n) (Sub.pt ?_) ?_
 ·simp -implicitDefEqProofs only[push_cast,zz,seval,bdD,bd0,Bd.rc,List.map_cons,List.map_nil,Nat.mul_zero,show bdN 0=1 from rfl]
 rintro⟨k,lv,N⟩ (hk:k+lv=n) K hK
 have hlen:((bdD w h n k).map Bd.rc).length=bdN k:=by rw[List.length_map,bdD_length]
 have hN3:bdN k=1+3*k:=rfl
 have hN4:bdN (k+1)=1+3*(k+1):=rfl
 by_cases h0:0<lv
 ·obtain⟨lv,rfl⟩:∃ i,lv=i+1:=⟨lv-1,by omega⟩
  have e1:((lv+1:Nat):Int)-1=(lv:Int):=by omega
  have b1:=hlf_le w lv
  have b2:=hlf_le h lv
  have b3:=hlf_mono w lv
  have b4:=hlf_mono h lv
  generalize hlv:((lv+1:Nat):Int)=lvi at e1
  have en:lvi.toNat=lv+1:=by omega
  simp -implicitDefEqProofs only[push_cast,zz,seval,b85_1,r85_4,fs95,hlv,e1,en,hlen,Int.toNat_natCast,List.length_append,List.length_cons,List.length_nil]
  refine⟨fun _=>?_,fun hl=>by omega⟩
  repeat refine om_ ?_
  intro X2
  repeat refine om_ ?_
  intro X3
  repeat refine om_ ?_
  intro X4
  repeat refine om_ ?_
  have q:(bdD w h n k).map Bd.rc++[[.int .i64 lvi,.int .i64 1,.int .i64 (hlf w (lv+1)),.int .i64 0,.int .i64 ((hlf w lv:Int)-hlf w (lv+1)),.int .i64 (hlf h (lv+1))]]++[[.int .i64 lvi,.int .i64 2,.int .i64 0,.int .i64 (hlf h (lv+1)),.int .i64 (hlf w (lv+1)),.int .i64 ((hlf h lv:Int)-hlf h (lv+1))]]++[[.int .i64 lvi,.int .i64 3,.int .i64 (hlf w (lv+1)),.int .i64 (hlf h (lv+1)),.int .i64 ((hlf w lv:Int)-hlf w (lv+1)),.int .i64 ((hlf h lv:Int)-hlf h (lv+1))]]=(bdD w h n (k+1)).map Bd.rc:=by
   rw[bdD,List.map_append,show n-k=lv+1 by omega]
   simp[bd3,Bd.rc,<-hlv]
  refine hK (k+1,lv,X4 12 29) (show k+1+lv=n by omega) (show lv<lv+1 by omega) _ _ (Sub.of (mkG 33 [(14,14),(15,29)]) ?_)
  simp -implicitDefEqProofs only[push_cast,zz,seval,q]
  omega
 ·obtain rfl:lv=0:=by omega
  obtain rfl:k=n:=by omega
  clear hK
  have hall:bnA w h k=bdD w h k k:=by unfold bnA;rw[if_pos e];simp only[Int.toNat_natCast]
  have hle:=bdD_length w h k k
  have hok:=bdD_ok (w:=w) (h:=h) (n:=k) (by omega) (by omega) k (Nat.le_refl _)
  have hL:bnL w h k=keptBd (bdD w h k k):=by unfold bnL;rw[hall]
  generalize bdD w h k k=l at hlen hle hok hL
  have hz:¬ (1:Int)<=0:=by decide
  simp -implicitDefEqProofs only[push_cast,zz,seval,b85_1,r85_4,hz,true_implies,true_and]
  refine evS_loopU (A:=Nat×Xf.Loc) kp85_2 kl85_2 (fun y=>[(16,.sl 32 y.2 (esz 6 (keptBd (l.take y.1)).length) 0 (keptBd (l.take y.1)).length),(110,.int .i64 y.1)]) (fun y=>[(32,.mine,y.2,.recs 6 true [] ((keptBd (l.take y.1)).map Bd.rc))])
   (fun y=>y.1<=l.length/\((keptBd (l.take y.1)).length=0->y.2=nilLoc)) (fun y=>l.length-y.1) (0,nilLoc) ⟨Nat.zero_le _,fun _=>rfl⟩ (Sub.pt ?_) ?_
  ·simp -implicitDefEqProofs only[push_cast,zz,seval,List.take_zero,keptBd,List.filter_nil,List.length_nil,List.map_nil,esz]
  rintro⟨i,N2⟩ ⟨(hi:i<=l.length),(hN:(keptBd (l.take i)).length=0->N2=nilLoc)⟩ K2 hK2
  by_cases hi':i<l.length
  ·have r1:=recAt_Bd' (l:=l) (i:=(i:Int)) (by omega) (by omega) []
   have o1:=hok _ (rdBd_mem hi')
   have kt:=kept_take hi'
   obtain⟨x,hx⟩:∃ x,rdBd l (i:Int)=x:=⟨_,rfl⟩
   rw[hx]at r1 o1 kt
   have kp:=bd_keep o1
   obtain⟨lv,kd,x,y,w',h'⟩:=x
   simp only at kp
   simp -implicitDefEqProofs only[push_cast,zz,seval,b85_2,r85_3,r1,Bd.rc,hlen,hle,List.length_map]
   refine⟨fun _=>?_,fun hl=>by omega⟩
   intro X1
   have hkl:=keptBd_le (l.take i)
   rw[List.length_take]at hkl
   repeat refine om_ ?_
   refine⟨fun hc=>?_,fun hc=>?_⟩
   ·rw[if_pos (kp.1 hc)]at kt
    intro X2
    repeat refine om_ ?_
    refine hK2 (i+1,X2 3 32) ⟨show i+1<=l.length by omega,fun q=>?_⟩ (show l.length-(i+1)<l.length-i by omega) _ _ (Sub.pt ?_)
    ·simp only[kt,List.length_append,List.length_cons,List.length_nil]at q;omega
    ·have q:(keptBd (l.take i)).map Bd.rc++[[.int .i64 lv,.int .i64 kd,.int .i64 x,.int .i64 y,.int .i64 w',.int .i64 h']]=(keptBd (l.take (i+1))).map Bd.rc:=by rw[kt,List.map_append];rfl
     have q2:(keptBd (l.take (i+1))).length=(keptBd (l.take i)).length+1:=by rw[kt];simp
     simp -implicitDefEqProofs only[push_cast,zz,seval,q,q2,esz]
   ·rw[if_neg (fun q=>hc (kp.2 q)),List.append_nil]at kt
    repeat refine om_ ?_
    refine hK2 (i+1,N2) ⟨show i+1<=l.length by omega,fun q=>hN (by rw[<-kt];exact q)⟩ (show l.length-(i+1)<l.length-i by omega) _ _ (Sub.pt ?_)
    simp -implicitDefEqProofs only[push_cast,zz,seval,kt]
  ·obtain rfl:i=l.length:=by omega
   clear hK2
   rw[List.take_length]at hN ⊢
   simp -implicitDefEqProofs only[push_cast,zz,seval,b85_2,r85_3,hle,Int.lt_irrefl,true_implies,true_and,not_false_eq_true]
   refine postF.mk' (fun _=>N2) [some 32] ?_
   by_cases h0:0<(keptBd l).length
   ·simp -implicitDefEqProofs only[push_cast,zz,seval,fs85,hL,h0,e,if_true,lx]
   ·obtain rfl:=hN (by omega)
    simp -implicitDefEqProofs only[push_cast,zz,seval,fs85,hL,h0,e,if_true,if_false,lx]
def ent85:Entry:=spOf fs85 inv32
theorem e85:EntryOk Tryz.prog 85 ent85:=entry_of ok85 inv32
@[push_cast] theorem ent85_app (us:List SV) (look:Look) (x:Nat->Xf.Loc) (k:Nat):ent85 us look x k=spOf fs85 inv32 us look x k:=rfl
def inBd (b:Bd) (r c:Int):Bool:=decide (b.x<=c/\c<b.x+b.w/\b.y<=r/\r<b.y+b.h)
def cov (l:List Bd) (r c:Int):Nat:=l.countP fun b=>inBd b r c
theorem cov_app (l m:List Bd) (r c:Int):cov (l++m) r c=cov l r c+cov m r c:=List.countP_append
theorem cov_one (b:Bd) (r c:Int):cov [b] r c=if b.x<=c/\c<b.x+b.w/\b.y<=r/\r<b.y+b.h then 1 else 0:=by
 unfold cov inBd
 by_cases h:b.x<=c/\c<b.x+b.w/\b.y<=r/\r<b.y+b.h<;>simp[h]
theorem cov_three (a b d:Bd) (r c:Int):cov [a,b,d] r c=cov [a] r c+(cov [b] r c+cov [d] r c):=by
 rw[<-cov_app,<-cov_app];rfl
theorem three_sum {W H w h r c:Int} (h1:0<=w) (h2:w<=W) (h3:0<=h) (h4:h<=H) (hr:0<=r) (hc:0<=c) :
  (if r<h/\c<w then 1 else 0)+((if w<=c/\c<w+(W-w)/\0<=r/\r<0+h then 1 else 0)+((if 0<=c/\c<0+w/\h<=r/\r<h+(H-h)then 1 else 0)+(if w<=c/\c<w+(W-w)/\h<=r/\r<h+(H-h)then 1 else 0)))=if r<H/\c<W then 1 else (0:Nat):=by
 by_cases a:c<w<;>by_cases b:r<h<;>by_cases A:c<W<;>by_cases B:r<H <;>
  simp[a,b,A,B,hr,hc,show w<=c↔¬ c<w by omega,show h<=r↔¬ r<h by omega,show w+(W-w)=W by omega,show h+(H-h)=H by omega]<;>omega
theorem cov_down (w h n:Nat) (r c:Int) (hr:0<=r) (hc:0<=c):∀ k,k<=n->cov (bdD w h n k) r c=if r<hlf h (n-k)/\c<hlf w (n-k)then 1 else 0
 | 0,_=>by
  rw[bdD,cov_one]
  simp only[bd0,Nat.sub_zero,Int.zero_add,hr,hc,true_and]
  by_cases a:c<hlf w n<;>by_cases b:r<hlf h n<;>simp[a,b]
 | k+1,hk=>by
  obtain⟨i,hi⟩:∃ i,n-k=i+1:=⟨n-k-1,by omega⟩
  have hi2:n-(k+1)=i:=by omega
  rw[bdD,cov_app,cov_down w h n r c hr hc k (by omega),hi,hi2,bd3,cov_three,cov_one,cov_one,cov_one]
  simp only[Nat.add_sub_cancel]
  exact three_sum (by omega) (by have:=hlf_mono w i;omega) (by omega) (by have:=hlf_mono h i;omega) hr hc
theorem gone_out {b:Bd} (h:b.gone=true) (hk:b.ok) (r c:Int):inBd b r c=false:=by
 obtain⟨h1,h2,h3,h4⟩:=hk
 unfold Bd.gone at h
 rw[decide_eq_true_eq,Int.mul_eq_zero]at h
 unfold inBd
 rw[decide_eq_false_iff_not]
 omega
theorem cov_kept {l:List Bd} (hl:∀ x∈l,x.ok) (r c:Int):cov (keptBd l) r c=cov l r c:=by
 unfold cov keptBd
 rw[List.countP_filter]
 refine List.countP_congr fun b hb=>?_
 cases hg:b.gone with
 | false=>simp
 | true=>simp[gone_out hg (hl b hb) r c]
theorem cov_all {w h n:Nat} (hw:w<=200) (hh:h<=200) (r c:Nat) (hr:r<h) (hc:c<w):cov (keptBd (bdD w h n n)) r c=1:=by
 rw[cov_kept (bdD_ok hw hh n (Nat.le_refl n)),cov_down w h n r c (by omega) (by omega) n (Nat.le_refl n),Nat.sub_self,if_pos]
 simp only[hlf];omega
theorem kept_in {w h n:Nat} (hw:w<=200) (hh:h<=200) {b:Bd} (hb:b∈keptBd (bdD w h n n)):0<=b.x/\0<=b.y/\1<=b.w/\1<=b.h/\b.x+b.w<=w/\b.y+b.h<=h:=by
 have hm:b∈bdD w h n n/\b.gone=false:=by
  unfold keptBd at hb
  rw[List.mem_filter]at hb
  exact⟨hb.1,by simpa using hb.2⟩
 have ho:=bdD_ok hw hh n (Nat.le_refl n) b hm.1
 have hp:=(bd_keep ho).2 hm.2
 have key:∀ k,k<=n->∀ x∈bdD w h n k,0<=x.x/\0<=x.y/\x.x+x.w<=w/\x.y+x.h<=h:=by
  intro k
  induction k with
  | zero=>
   intro _ x hx
   have b1:=hlf_le w n
   have b2:=hlf_le h n
   simp only[bdD,List.mem_singleton]at hx
   subst hx
   simp only[bd0];omega
  | succ k ih=>
   intro hk x hx
   rw[bdD,List.mem_append]at hx
   rcases hx with hx | hx
   ·exact ih (by omega) x hx
   ·obtain⟨i,hi⟩:∃ i,n-k=i+1:=⟨n-k-1,by omega⟩
    rw[hi]at hx
    have b1:=hlf_le w i
    have b2:=hlf_le h i
    have b3:=hlf_mono w i
    have b4:=hlf_mono h i
    simp only[bd3,Nat.add_sub_cancel,List.mem_cons,List.not_mem_nil,or_false]at hx
    rcases hx with rfl | rfl | rfl<;>simp only<;>omega
 have:=key n (Nat.le_refl n) b hm.1
 omega
theorem cov_take {l:List Bd} {i:Nat} (h:i<l.length) (r c:Int):cov (l.take (i+1)) r c=cov (l.take i) r c+(if inBd (rdBd l i) r c=true then 1 else 0):=by
 rw[List.take_succ_eq_append_getElem h,cov_app,rdBd_nat h]
 unfold cov
 by_cases e:inBd l[i] r c=true<;>simp[e]
def b78_1:IR:=
 .seq (r_ [c_ 5 .lss 4 32] []) (.seq (.cond (.t 5) (.skip) (.exit 0)) (.seq (.block 1 (.seq (r_ [m_ 6 4,m_ 3 6] [5,6]) (.seq (r_ [m_ 7 3,m_ 8 2,o_ 9 (.idxP (.t 1) (.t 7) 32 1),S_ 1 .i64 9 8] [3,7,8,9]) (r_ [m_ 10 2,m_ 11 2,c_ 12 .quo 11 8,b_ 13 .sub 10 12,m_ 2 13] [10,11,12,13])))) (r_ [a_ 14 4 1,m_ 4 14] [14])))
def r78_2:IR:=
 .seq (r_ [o_ 15 (.ld true (some 32) 0 0 (.t 1)),S_ 32 .i64 0 15] [1,2,4,15]) (.ret)
def ir78:IR:=
 .seq (r_ [o_ 0 (.allocI 10 .i64 32)] []) (.seq (r_ [o_ 1 (.allocI 11 .i64 32)] []) (.seq (r_ [z_ 2 2048] []) (.seq (.seq (r_ [z_ 4 0] []) (.block 0 (.loop b78_1))) (r78_2))))
def kp78_1:List Nat:=[0,1,2,4]
def kl78_1:List Nat:=[]
attribute [push_cast] kp78_1 kl78_1
set_option maxRecDepth 4000 in
theorem comp78:(Tryz.f78.body.bind fun c=>compC tab isP chkAll ir78 c)=some ir78:=by kernel_rfl
def ir84:IR:=
 .seq (r_ [o_ 3 (.box 10 (.t 0)),z_ 6 0] [0,6]) (.seq (.seq (r_ [m_ 9 1,c_ 10 .eql 9 1] [1,9]) (.cond (.t 10) (.seq (r_ [m_ 11 2,c_ 12 .quo 11 256,m_ 13 2,c_ 14 .rem 13 256,m_ 7 12,m_ 8 14] [2,3,10,11,12,13,14]) (.seq (r_ [m_ 15 8,o_ 16 (.bin 0 .mul (Z_ 2) (.t 15)),a_ 17 16 1,c_ 18 .mul 17 4096,m_ 19 7,o_ 20 (.bin 0 .mul (Z_ 2) (.t 19)),m_ 21 8,o_ 22 (.bin 0 .mul (Z_ 2) (.t 21)),b_ 23 .add 20 22,a_ 24 23 2,b_ 25 .quo 18 24,o_ 26 (.mx (.t 25) (Z_ 1)),o_ 27 (.mn (.t 26) (Z_ 4095)),m_ 6 27] [7,8,15,16,17,18,19,20,21,22,23,24,25,26,27]) (.ret))) (.skip))) (.seq (.seq (r_ [m_ 28 2,c_ 29 .geq 28 32] [6,10,28]) (.cond (.t 29) (.seq (r_ [m_ 30 2,c_ 31 .sub 30 32,o_ 32 (.idxP (.t 3) (.t 31) 32 1),l_ 33 32,o_ 34 (.bin 0 .sub (Z_ 4096) (.t 33)),m_ 6 34] [2,3,29,30,31,32,33,34]) (.ret)) (.skip))) (.seq (r_ [m_ 35 2,o_ 36 (.idxP (.t 3) (.t 35) 32 1),l_ 37 36,m_ 6 37] [2,3,29,35,36,37]) (.ret))))
set_option maxRecDepth 4000 in
theorem comp84:(Tryz.f84.body.bind fun c=>compC tab isP chkAll ir84 c)=some ir84:=by kernel_rfl
def qs:List Int:=[2048,1792,1568,1372,1201,1051,920,805,705,617,540,473,414,363,318,279,245,215,189,166,146,128,112,98,86,76,67,59,52,46,41,36]
def qsV:List SV:=[.int .i64 2048,.int .i64 1792,.int .i64 1568,.int .i64 1372,.int .i64 1201,.int .i64 1051,.int .i64 920,.int .i64 805,.int .i64 705,.int .i64 617,.int .i64 540,.int .i64 473,.int .i64 414,.int .i64 363,.int .i64 318,.int .i64 279,.int .i64 245,.int .i64 215,.int .i64 189,.int .i64 166,.int .i64 146,.int .i64 128,.int .i64 112,.int .i64 98,.int .i64 86,.int .i64 76,.int .i64 67,.int .i64 59,.int .i64 52,.int .i64 46,.int .i64 41,.int .i64 36]
theorem qs_len:qs.length=32:=rfl
theorem qsV_len:qsV.length=32:=rfl
theorem qsV_ints:intsV .i64 qs 32=qsV:=rfl
theorem qsV_as:asInts .i64 qsV=some qs:=rfl
theorem qsV_map:qsV=qs.map (fun n=>.int .i64 n):=rfl
theorem qsV_get (k:Nat) (h:k<32):getL qsV k=some (.int .i64 (rd qs (k:Nat))):=by
 rw[getL_eq,qsV_map,List.getElem?_map,List.getElem?_eq_getElem (by rw[qs_len];exact h),rd_lt qs k (by rw[qs_len];exact h)]
 rfl
theorem qs_bd:∀ k,k<32->0<=rd qs (k:Nat)/\rd qs (k:Nat)<=2048/\1<=rd qs (k:Nat):=by decide +kernel
def qst:Nat->List Int×Int
 | 0=>(intsZ 32,2048)
 | k+1=>((qst k).1.set k (qst k).2,(qst k).2-(qst k).2 / 8)
theorem qst_len:∀ k,(qst k).1.length=32
 | 0=>rfl
 | k+1=>by rw[qst,List.length_set,qst_len k]
theorem qst_bd:∀ k,0<=(qst k).2/\(qst k).2<=2048
 | 0=>by decide
 | k+1=>by have:=qst_bd k;rw[qst];simp only;omega
theorem qst_end:(qst 32).1=qs:=by decide +kernel
def chancesF:EntryP
 | []=>some (True,.agg qsV)
 | _=>none
attribute [push_cast] chancesF
set_option maxRecDepth 4000 in
theorem p78:EntryPOk Tryz.prog 78 chancesF:=by
 refine⟨⟨_,Tryz.func78,by kernel_rfl,by kernel_rfl⟩,fun us p v h hp=>?_⟩
 unfold chancesF at h
 split at h<;>cases h
 refine tri_evS (hyp (l:=[]) (lp:=[]) trivial trivial) Tryz.func78 comp78 (rs:=[.cell 0 (some 32)]) (by rfl) Tryz.ntmps78 12 ?_
 simp -implicitDefEqProofs only[push_cast,zz,seval,ir78]
 intro X X1
 refine evS_loopU (A:=Nat) kp78_1 kl78_1 (fun k=>[(4,.int .i64 k),(2,.int .i64 (qst k).2)]) (fun k=>[(11,.mine,⟨(X1 0 11).b,(X1 0 11).o,false,32⟩,.ints .i64 (qst k).1)]) (fun k=>k<=32) (fun k=>32-k) 0 (Nat.zero_le _) (Sub.pt ?_) ?_
 ·have e0:qst 0=(intsZ 32,2048):=rfl
  simp -implicitDefEqProofs only[push_cast,zz,seval,e0]
 intro k hk K hK
 have hk:k<=32:=hk
 have hb:=qst_bd k
 have hl:=qst_len k
 by_cases hk':k<32
 ·have e1:qst (k+1)=((qst k).1.set k (qst k).2,(qst k).2-(qst k).2 / 8):=rfl
  obtain⟨⟨x,q⟩,hx⟩:∃ x,qst k=x:=⟨_,rfl⟩
  rw[hx]at e1 hb hl
  simp only at e1 hb hl
  have hki:(k:Int)<32:=by omega
  simp -implicitDefEqProofs only[push_cast,zz,seval,b78_1,hx,hl,Int.toNat_natCast,hki]
  repeat refine om_ ?_
  refine hK (k+1) (show k+1<=32 by omega) (show 32-(k+1)<32-k by omega) _ _ (Sub.pt ?_)
  simp -implicitDefEqProofs only[push_cast,zz,seval,e1]
 ·have hk2:k=32:=by omega
  have hq:(qst k).1=qs:=by rw[hk2,qst_end]
  have hki:¬ (k:Int)<32:=by omega
  clear hK
  simp -implicitDefEqProofs only[push_cast,zz,seval,b78_1,hq,hki,qsV_ints,qsV_as,qs_len,r78_2]
  rfl
def chP (kind s:Int):Int:=
 if kind=1 then min (max ((2*(s % 256)+1)*4096 / (2*(s / 256)+2*(s % 256)+2)) 1) 4095
 else if 32<=s then 4096-rd qs (s-32)else rd qs s
def nxP (kind s bit:Int):Int:=
 if kind=1 then
  (if bit=0 then (if s / 256=255 then 256*(s / 256 / 2+1)+s % 256 / 2 else 256*(s / 256+1)+s % 256)
   else (if s % 256=255 then 256*(s / 256 / 2)+(s % 256 / 2+1)else 256*(s / 256)+(s % 256+1)))
 else if bit=s / 32 then 32*(s / 32)+min (s % 32+1) 31
 else if s % 32=0 then 32*bit+s % 32
 else 32*(s / 32)+(s % 32-(1+s % 32 / 4))
def sttOk (kind s:Int):Prop:=0<=s/\(kind=1->s<65536)/\(kind≠1->s<64)
theorem chP_bd {kind s:Int} (h:sttOk kind s):1<=chP kind s/\chP kind s<=4095:=by
 obtain⟨h0,h1,h2⟩:=h
 unfold chP
 split
 ·omega
 rename_i hk
 have h2:=h2 hk
 split
 ·obtain⟨k,hk⟩:∃ k:Nat,s-32=k:=⟨(s-32).toNat,by omega⟩
  rw[hk]
  have:=qs_bd k (by omega)
  omega
 ·obtain⟨k,rfl⟩:∃ k:Nat,s=k:=⟨s.toNat,by omega⟩
  have:=qs_bd k (by omega)
  omega
theorem nxP_ok {kind s bit:Int} (h:sttOk kind s) (hb:bit=0∨bit=1):sttOk kind (nxP kind s bit):=by
 obtain⟨h0,h1,h2⟩:=h
 unfold nxP sttOk
 by_cases hk:kind=1
 ·have h1:=h1 hk
  simp only[hk,if_true]
  refine⟨?_,fun _=>?_,fun h=>absurd rfl h⟩<;>(repeat' split)<;>omega
 ·have h2:=h2 hk
  simp only[hk,if_false]
  refine⟨?_,fun h=>h.elim,fun h=>?_⟩<;>(repeat' split)<;>omega
def chanceF:EntryP
 | [.agg cs,.int .i64 kind,.int .i64 s]=>some (cs=qsV/\sttOk kind s,.int .i64 (chP kind s))
 | _=>none
def nextF:EntryP
 | [.int .i64 kind,.int .i64 s,.int .i64 bit]=>some (sttOk kind s/\(bit=0∨bit=1),.int .i64 (nxP kind s bit))
 | _=>none
attribute [push_cast] chanceF nextF
theorem p84:EntryPOk Tryz.prog 84 chanceF:=by
 refine⟨⟨_,Tryz.func84,by kernel_rfl,by kernel_rfl⟩,fun us p v h hp=>?_⟩
 unfold chanceF at h
 split at h<;>cases h
 rename_i cs kind s
 obtain⟨rfl,h0,h1,h2⟩:=hp
 refine tri_evS (hyp (l:=[]) (lp:=[]) trivial trivial) Tryz.func84 comp84 (rs:=[.tmp 6]) (by rfl) Tryz.ntmps84 11 ?_
 by_cases hk:kind=1
 ·subst hk
  have h1:=h1 rfl
  have e:chP 1 s=min (max ((2*(s % 256)+1)*4096 / (2*(s / 256)+2*(s % 256)+2)) 1) 4095:=by unfold chP;rw[if_pos rfl]
  have hd1:0<=(2*(s % 256)+1)*4096 / (2*(s / 256)+2*(s % 256)+2):=Int.ediv_nonneg (by omega) (by omega)
  have hd2:(2*(s % 256)+1)*4096 / (2*(s / 256)+2*(s % 256)+2)<=(2*(s % 256)+1)*4096:=Int.ediv_le_self _ (by omega)
  simp -implicitDefEqProofs only[push_cast,zz,seval,ir84,e]
  repeat refine om_ ?_
  omega
 have h2:=h2 hk
 by_cases h32:32<=s
 ·have e:chP kind s=4096-rd qs (s-32):=by unfold chP;rw[if_neg hk,if_pos h32]
  have hg:getL qsV (s-32).toNat=some (.int .i64 (rd qs (s-32))):=by
   obtain⟨k,hk⟩:∃ k:Nat,s-32=k:=⟨(s-32).toNat,by omega⟩
   rw[hk,Int.toNat_natCast]
   exact qsV_get k (by omega)
  have hb:0<=rd qs (s-32)/\rd qs (s-32)<=2048:=by
   obtain⟨k,hk⟩:∃ k:Nat,s-32=k:=⟨(s-32).toNat,by omega⟩
   rw[hk]
   have:=qs_bd k (by omega)
   omega
  simp -implicitDefEqProofs only[push_cast,zz,seval,ir84,e,hk,h32,hg,Nat.mul_one]
  omega
 ·have e:chP kind s=rd qs s:=by unfold chP;rw[if_neg hk,if_neg h32]
  have hg:getL qsV s.toNat=some (.int .i64 (rd qs s)):=by
   obtain⟨k,rfl⟩:∃ k:Nat,s=k:=⟨s.toNat,by omega⟩
   rw[Int.toNat_natCast]
   exact qsV_get k (by omega)
  simp -implicitDefEqProofs only[push_cast,zz,seval,ir84,e,hk,h32,hg,Nat.mul_one]
  omega
def ir83:IR:=
 .seq (r_ [z_ 6 0] [6]) (.seq (.seq (r_ [m_ 10 0,c_ 11 .eql 10 1] [0,10]) (.cond (.t 11) (.seq (r_ [m_ 12 1,c_ 13 .quo 12 256,m_ 14 1,c_ 15 .rem 14 256,o_ 16 (.build [y_,y_] [(0,1,.t 13),(1,1,.t 15)]),o_ 7 (.allocI 10 .i64 2),S_ 2 .i64 7 16] [1,11,12,13,14,15,16]) (.seq (.seq (r_ [m_ 17 2,o_ 18 (.idxP (.t 7) (.t 17) 2 1),L_ 19 18,c_ 20 .eql 19 255] [17,18,19]) (.cond (.t 20) (r_ [o_ 21 (.idxP (.t 7) (Z_ 0) 2 1),L_ 22 21,c_ 23 .quo 22 2,o_ 24 (.idxP (.t 7) (Z_ 1) 2 1),L_ 25 24,c_ 26 .quo 25 2,o_ 27 (.idxP (.t 7) (Z_ 0) 2 1),S_ 1 .i64 27 23,o_ 28 (.idxP (.t 7) (Z_ 1) 2 1),S_ 1 .i64 28 26] [20,21,22,23,24,25,26,27,28]) (.skip))) (.seq (r_ [m_ 29 2,o_ 30 (.idxP (.t 7) (.t 29) 2 1),L_ 31 30,a_ 32 31 1,o_ 33 (.idxP (.t 7) (.t 29) 2 1),S_ 1 .i64 33 32] [2,20,29,30,31,32,33]) (.seq (r_ [o_ 34 (.idxP (.t 7) (Z_ 0) 2 1),L_ 35 34,o_ 36 (.bin 0 .mul (Z_ 256) (.t 35)),o_ 37 (.idxP (.t 7) (Z_ 1) 2 1),L_ 38 37,b_ 39 .add 36 38,m_ 6 39] [7,34,35,36,37,38,39]) (.ret))))) (.skip))) (.seq (r_ [m_ 40 1,c_ 41 .quo 40 32,m_ 42 1,c_ 43 .rem 42 32,m_ 8 41,m_ 9 43] [1,6,11,40,41,42,43]) (.seq (.block 0 (.seq (r_ [m_ 50 2,m_ 51 8,b_ 52 .eql 50 51,m_ 49 52] [50,51,52]) (.cond (.t 49) (r_ [m_ 53 9,a_ 54 53 1,o_ 55 (.mn (.t 54) (Z_ 31)),m_ 9 55] [2,49,53,54,55]) (.seq (r_ [m_ 57 9,c_ 58 .eql 57 0,m_ 56 58] [49,57,58]) (.cond (.t 56) (r_ [m_ 59 2,m_ 8 59] [2,56,59]) (r_ [m_ 44 9,m_ 45 9,c_ 46 .quo 45 4,o_ 47 (.bin 0 .add (Z_ 1) (.t 46)),b_ 48 .sub 44 47,m_ 9 48] [2,44,45,46,47,48,56])))))) (.seq (r_ [m_ 60 8,o_ 61 (.bin 0 .mul (Z_ 32) (.t 60)),m_ 62 9,b_ 63 .add 61 62,m_ 6 63] [8,9,60,61,62,63]) (.ret)))))
set_option maxRecDepth 4000 in
theorem comp83:(Tryz.f83.body.bind fun c=>compC tab isP chkAll ir83 c)=some ir83:=by kernel_rfl
def ir77:IR:=
 .seq (r_ [z_ 2 0] []) (.seq (.seq (r_ [m_ 3 0,o_ 4 (.bin 0 .geq (.t 3) (.k (.int .u64 4294967296)))] [3]) (.cond (.t 4) (.seq (r_ [m_ 5 0,o_ 6 (.bin 0 .shr (.t 5) (.k (.int .u64 32))),m_ 0 6] [2,4,5,6]) (r_ [z_ 2 32] [])) (.skip))) (.seq (.seq (r_ [m_ 7 0,o_ 8 (.bin 0 .geq (.t 7) (.k (.int .u64 65536)))] [4,7]) (.cond (.t 8) (.seq (r_ [m_ 9 0,o_ 10 (.bin 0 .shr (.t 9) (.k (.int .u64 16))),m_ 0 10] [8,9,10]) (r_ [m_ 11 2,a_ 12 11 16,m_ 2 12] [11,12])) (.skip))) (.seq (.seq (r_ [m_ 13 0,o_ 14 (.bin 0 .geq (.t 13) (.k (.int .u64 256)))] [8,13]) (.cond (.t 14) (.seq (r_ [m_ 15 0,o_ 16 (.bin 0 .shr (.t 15) (.k (.int .u64 8))),m_ 0 16] [14,15,16]) (r_ [m_ 17 2,a_ 18 17 8,m_ 2 18] [17,18])) (.skip))) (.seq (r_ [m_ 19 2,m_ 20 0,o_ 21 (.cvt 0 .u8 (.t 20)),o_ 22 (.tabI len8L (.t 21)),o_ 23 (.cvt 0 .i64 (.t 22)),b_ 24 .add 19 23,m_ 2 24] [0,14,19,20,21,22,23,24]) (.ret)))))
set_option maxRecDepth 4000 in
theorem comp77:(Tryz.f77.body.bind fun c=>compC tab isP chkAll ir77 c)=some ir77:=by kernel_rfl
def ir34:IR:=
 .seq (r_ [z_ 2 0] [2]) (.seq (.cond (.k (.bool false)) (.seq (r_ [m_ 3 0,o_ 4 (.cvt 0 .u32 (.t 3)),o_ 5 (.call (some 4) 10 76 [.t 4]),m_ 2 5] [0,3,4,5]) (.ret)) (.skip)) (.seq (r_ [m_ 6 0,o_ 7 (.callp 77 [.t 6]),m_ 2 7] [0,6,7]) (.ret)))
set_option maxRecDepth 4000 in
theorem comp34:(Tryz.f34.body.bind fun c=>compC tab isP chkAll ir34 c)=some ir34:=by kernel_rfl
def ir33:IR:=
 .seq (r_ [z_ 2 0] [2]) (.seq (r_ [m_ 3 0,m_ 4 0,o_ 5 (.neg 0 (.t 4)),o_ 6 (.mx (.t 3) (.t 5)),m_ 2 6] [0,3,4,5,6]) (.ret))
set_option maxRecDepth 4000 in
theorem comp33:(Tryz.f33.body.bind fun c=>compC tab isP chkAll ir33 c)=some ir33:=by kernel_rfl
def ir9:IR:=
 .seq (r_ [o_ 4 (.mov (.k (.bool false)))] [4]) (.seq (r_ [m_ 5 0,c_ 6 .geq 5 0,m_ 7 6,p_ 7 (m_ 8 0),p_ 7 (c_ 9 .leq 8 6),K_ 10 7 9,m_ 11 10,p_ 11 (m_ 12 1),p_ 11 (c_ 13 .eql 12 0),p_ 11 (m_ 14 13),q_ 14 (m_ 15 1),q_ 14 (c_ 16 .eql 15 1),p_ 11 (k_ 17 14 16),K_ 18 11 17,m_ 4 18] [0,1,5,6,7,8,9,10,11,12,13,14,15,16,17,18]) (.ret))
set_option maxRecDepth 4000 in
theorem comp9:(Tryz.f9.body.bind fun c=>compC tab isP chkAll ir9 c)=some ir9:=by kernel_rfl
theorem rd2_0 (a b:Int):rd [a,b] 0=a:=rfl
theorem rd2_1 (a b:Int):rd [a,b] 1=b:=rfl
theorem set2_0 (a b c:Int):[a,b].set 0 c=[c,b]:=rfl
theorem set2_1 (a b c:Int):[a,b].set 1 c=[a,c]:=rfl
theorem i0:Int.toNat 0=0:=rfl
theorem i1:Int.toNat 1=1:=rfl
set_option maxRecDepth 4000 in
theorem p83:EntryPOk Tryz.prog 83 nextF:=by
 refine⟨⟨_,Tryz.func83,by kernel_rfl,by kernel_rfl⟩,fun us p v h hp=>?_⟩
 unfold nextF at h
 split at h<;>cases h
 rename_i kind s bit
 obtain⟨⟨h0,h1,h2⟩,hb⟩:=hp
 refine tri_evS (hyp (l:=[]) (lp:=[]) trivial trivial) Tryz.func83 comp83 (rs:=[.tmp 6]) (by rfl) Tryz.ntmps83 11 ?_
 by_cases hk:kind=1
 ·subst hk
  have h1:=h1 rfl
  rcases hb with rfl | rfl
  ·have e:nxP 1 s 0=if s / 256=255 then 256*(s / 256 / 2+1)+s % 256 / 2 else 256*(s / 256+1)+s % 256:=by unfold nxP;rw[if_pos rfl,if_pos rfl]
   by_cases hn:s / 256=255
   ·rw[if_pos hn]at e
    simp -implicitDefEqProofs only[push_cast,zz,seval,ir83,e,rd2_0,rd2_1,set2_0,set2_1,i0,i1,hn]
    omega
   ·rw[if_neg hn]at e
    simp -implicitDefEqProofs only[push_cast,zz,seval,ir83,e,rd2_0,rd2_1,set2_0,set2_1,i0,i1,hn]
    omega
  ·have e:nxP 1 s 1=if s % 256=255 then 256*(s / 256 / 2)+(s % 256 / 2+1)else 256*(s / 256)+(s % 256+1):=by unfold nxP;rw[if_pos rfl,if_neg (by decide)]
   by_cases hn:s % 256=255
   ·rw[if_pos hn]at e
    simp -implicitDefEqProofs only[push_cast,zz,seval,ir83,e,rd2_0,rd2_1,set2_0,set2_1,i0,i1,hn]
    omega
   ·rw[if_neg hn]at e
    simp -implicitDefEqProofs only[push_cast,zz,seval,ir83,e,rd2_0,rd2_1,set2_0,set2_1,i0,i1,hn]
    omega
 have h2:=h2 hk
 have e:nxP kind s bit=if bit=s / 32 then 32*(s / 32)+min (s % 32+1) 31 else if s % 32=0 then 32*bit+s % 32 else 32*(s / 32)+(s % 32-(1+s % 32 / 4)):=by unfold nxP;rw[if_neg hk]
 by_cases hm:bit=s / 32
 ·rw[if_pos hm]at e
  subst hm
  simp -implicitDefEqProofs only[push_cast,zz,seval,ir83,e,hk]
  omega
 rw[if_neg hm]at e
 by_cases hz:s % 32=0
 ·rw[if_pos hz]at e
  simp -implicitDefEqProofs only[push_cast,zz,seval,ir83,e,hk,hm,hz]
  omega
 ·rw[if_neg hz]at e
  simp -implicitDefEqProofs only[push_cast,zz,seval,ir83,e,hk,hm,hz]
  omega
def lenN (n:Nat):Nat:=if n=0 then 0 else Nat.log2 n+1
theorem lenN_half {n:Nat} (h:1<=n):lenN n=lenN (n / 2)+1:=by
 unfold lenN
 rw[if_neg (by omega)]
 by_cases h2:2<=n
 ·rw[if_neg (by omega),Nat.log2_def n,if_pos h2]
 ·have:n=1:=by omega
  subst this
  rfl
theorem lenN_256 {n:Nat} (h:256<=n):lenN n=lenN (n / 256)+8:=by
 rw[lenN_half (by omega),lenN_half (n:=n / 2) (by omega),lenN_half (n:=n / 2 / 2) (by omega),lenN_half (n:=n / 2 / 2 / 2) (by omega),lenN_half (n:=n / 2 / 2 / 2 / 2) (by omega),lenN_half (n:=n / 2 / 2 / 2 / 2 / 2) (by omega),
  lenN_half (n:=n / 2 / 2 / 2 / 2 / 2 / 2) (by omega),lenN_half (n:=n / 2 / 2 / 2 / 2 / 2 / 2 / 2) (by omega)]
 simp only[Nat.div_div_eq_div_mul]
theorem lenN_bd:∀ n:Nat,n<2^lenN n/\(1<=n->2^(lenN n-1)<=n):=by
 intro n
 induction n using Nat.strongRecOn with
 | ind n ih=>
  by_cases h:1<=n
  ·rw[lenN_half h]
   obtain⟨a,b⟩:=ih (n / 2) (by omega)
   rw[Nat.add_sub_cancel,Nat.pow_succ]
   refine⟨by omega,fun _=>?_⟩
   by_cases h2:1<=n / 2
   ·have b:=b h2
    have hp:lenN (n / 2)=lenN (n / 2)-1+1:=by rw[lenN_half h2];omega
    rw[hp,Nat.pow_succ];omega
   ·have:n / 2=0:=by omega
    rw[this];exact h
  ·have:n=0:=by omega
   subst this
   exact⟨by decide,fun h=>absurd h (by decide)⟩
set_option maxRecDepth 4000 in
theorem len8_eq:∀ k,k<256->rd len8L (k:Nat)=lenN k:=by decide +kernel
set_option maxRecDepth 4000 in
theorem len8_len:((len8L.length:Nat):Int)=256:=by decide +kernel
def lenP (x:Int):Int:=lenN x.toNat
theorem lenP_8 {x:Int} (h0:0<=x) (h:x<256):rd len8L x=lenP x:=by
 obtain⟨k,rfl⟩:∃ k:Nat,x=k:=⟨x.toNat,by omega⟩
 unfold lenP
 rw[Int.toNat_natCast]
 exact len8_eq k (by omega)
theorem lenP_256 {x:Int} (h:256<=x):lenP x=lenP (x / 256)+8:=by
 obtain⟨k,rfl⟩:∃ k:Nat,x=k:=⟨x.toNat,by omega⟩
 unfold lenP
 rw[show((k:Int) / 256).toNat=k / 256 by omega,Int.toNat_natCast,lenN_256 (by omega)]
 rfl
theorem lenP_bd {x:Int} (h0:0<=x) (h:x<256):0<=lenP x/\lenP x<=8:=by
 have:∀ k,k<256->lenN k<=8:=by decide +kernel
 have:=this x.toNat (by omega)
 unfold lenP
 omega
def lenF:EntryP
 | [.int .u64 x]=>some (0<=x/\x<4294967296,.int .i64 (lenP x))
 | _=>none
attribute [push_cast] lenF
theorem pw8:(2:Int)^8=256:=rfl
theorem pw16:(2:Int)^16=65536:=rfl
theorem pw24:(2:Int)^24=16777216:=rfl
theorem bits64:((IntKind.u64.bits:Nat):Int)=64:=rfl
theorem p77:EntryPOk Tryz.prog 77 lenF:=by
 refine⟨⟨_,Tryz.func77,by kernel_rfl,by kernel_rfl⟩,fun us p v h hp=>?_⟩
 unfold lenF at h
 split at h<;>cases h
 rename_i x
 obtain⟨h0,h1⟩:=hp
 refine tri_evS (hyp (l:=[]) (lp:=[]) trivial trivial) Tryz.func77 comp77 (rs:=[.tmp 2]) (by rfl) Tryz.ntmps77 10 ?_
 have hlt:¬ 4294967296<=x:=by omega
 have hl:=len8_len
 have hb64:=bits64
 by_cases h16:65536<=x
 ·have e1:lenP x=lenP (x / 65536)+16:=by
   rw[lenP_256 (by omega),lenP_256 (x:=x / 256) (by omega),show x / 256 / 256=x / 65536 by omega]
   omega
  by_cases h8:256<=x / 65536
  ·have e2:=lenP_256 h8
   have e3:=lenP_8 (x:=x / 65536 / 256) (by omega) (by omega)
   have b:=lenP_bd (x:=x / 65536 / 256) (by omega) (by omega)
   rw[e2]at e1
   simp -implicitDefEqProofs only[push_cast,zz,seval,ir77,hlt,h16,h8,pw16,pw8,hl,e3]
   simp only[SV.int.injEq,true_and]
   omega
  ·have e3:=lenP_8 (x:=x / 65536) (by omega) (by omega)
   have b:=lenP_bd (x:=x / 65536) (by omega) (by omega)
   simp -implicitDefEqProofs only[push_cast,zz,seval,ir77,hlt,h16,h8,pw16,pw8,hl,e3]
   simp only[SV.int.injEq,true_and]
   omega
 ·by_cases h8:256<=x
  ·have e2:=lenP_256 h8
   have e3:=lenP_8 (x:=x / 256) (by omega) (by omega)
   have b:=lenP_bd (x:=x / 256) (by omega) (by omega)
   simp -implicitDefEqProofs only[push_cast,zz,seval,ir77,hlt,h16,h8,pw16,pw8,hl,e3]
   simp only[SV.int.injEq,true_and]
   omega
  ·have e3:=lenP_8 (x:=x) (by omega) (by omega)
   have b:=lenP_bd (x:=x) (by omega) (by omega)
   simp -implicitDefEqProofs only[push_cast,zz,seval,ir77,hlt,h16,h8,pw16,pw8,hl,e3]
   omega
theorem p34:EntryPOk Tryz.prog 34 lenF:=by
 refine⟨⟨_,Tryz.func34,by kernel_rfl,by kernel_rfl⟩,fun us p v h hp=>?_⟩
 unfold lenF at h
 split at h<;>cases h
 rename_i x
 obtain⟨h0,h1⟩:=hp
 refine tri_evS (hyp (l:=[]) (lp:=[(77,lenF)]) trivial ⟨p77,trivial⟩) Tryz.func34 comp34 (rs:=[.tmp 2]) (by rfl) Tryz.ntmps34 14 ?_
 simp -implicitDefEqProofs only[push_cast,zz,seval,ir34]
 omega
def absF:EntryP
 | [.int .i64 n]=>some (-1000000000000<=n/\n<=1000000000000,.int .i64 (max n (-n)))
 | _=>none
def argsOk (levels kind:Int):Prop:=0<=levels/\levels<=6/\(kind=0∨kind=1)
instance argsOk_dec (levels kind:Int):Decidable (argsOk levels kind):=by unfold argsOk;infer_instance
def rightF:EntryP
 | [.int .i64 l,.int .i64 k]=>some (True,.bool (decide (argsOk l k)))
 | _=>none
attribute [push_cast] absF rightF
theorem p33:EntryPOk Tryz.prog 33 absF:=by
 refine⟨⟨_,Tryz.func33,by kernel_rfl,by kernel_rfl⟩,fun us p v h hp=>?_⟩
 unfold absF at h
 split at h<;>cases h
 rename_i x
 refine tri_evS (hyp (l:=[]) (lp:=[]) trivial trivial) Tryz.func33 comp33 (rs:=[.tmp 2]) (by rfl) Tryz.ntmps33 10 ?_
 simp -implicitDefEqProofs only[push_cast,zz,seval,ir33]
 omega
theorem p9:EntryPOk Tryz.prog 9 rightF:=by
 refine⟨⟨_,Tryz.func9,by kernel_rfl,by kernel_rfl⟩,fun us p v h hp=>?_⟩
 unfold rightF at h
 split at h<;>cases h
 rename_i l k
 refine tri_evS (hyp (l:=[]) (lp:=[]) trivial trivial) Tryz.func9 comp9 (rs:=[.tmp 4]) (by rfl) Tryz.ntmps9 10 ?_
 simp -implicitDefEqProofs only[push_cast,zz,seval,ir9]
 exact⟨fun h=>⟨h.1,h.2,fun hk=>⟨h.1,h.2,hk⟩⟩,Iff.rfl⟩
def ir46:IR:=
 .seq (r_ [o_ 4 (.mov (.k (.int .u64 0)))] [4]) (.seq (R_ [m_ 7 0,n_ 8 7,f_ 9 8 35,l_ 10 9,m_ 11 0,n_ 12 11,f_ 13 12 34,l_ 14 13,b_ 15 .sub 10 14,m_ 16 0,n_ 17 16,f_ 18 17 2,o_ 19 (.ld false (some 32) 0 0 (.t 18)),m_ 20 0,n_ 21 20,f_ 22 21 0,f_ 23 22 0,l_ 24 23,m_ 25 0,n_ 26 25,f_ 27 26 0,f_ 28 27 1,l_ 29 28,m_ 30 1,i_ 31 29 30 1,L_ 32 31,o_ 33 (.callp 84 [.t 19,.t 24,.t 32]),o_ 34 (.cvt 0 .u64 (.t 33)),m_ 5 15,m_ 6 34] [1,7,8,9,10,11,12,13,14,15,16,17,18,19,20,21,22,23,24,25,26,27,28,29,30,31,32,33,34]) (.seq (r_ [m_ 35 0,n_ 36 35,f_ 37 36 34,l_ 38 37,m_ 39 5,o_ 40 (.bin 0 .quo (.t 39) (.k (.int .u64 4096))),m_ 41 6,b_ 42 .mul 40 41,b_ 43 .add 38 42,m_ 44 5,o_ 45 (.bin 0 .rem (.t 44) (.k (.int .u64 4096))),m_ 46 6,b_ 47 .mul 45 46,o_ 48 (.bin 0 .quo (.t 47) (.k (.int .u64 4096))),b_ 49 .add 43 48,m_ 4 49] [0,5,6,35,36,37,38,39,40,41,42,43,44,45,46,47,48,49]) (.ret)))
set_option maxRecDepth 4000 in
theorem comp46:(Tryz.f46.body.bind fun c=>compC tab isP chkAll ir46 c)=some ir46:=by kernel_rfl
def ir47:IR:=
 .seq (r_ [o_ 2 (.mov (.k (.bool false)))] [2]) (.seq (R_ [m_ 3 0,n_ 4 3,f_ 5 4 34,l_ 6 5,o_ 7 (.bin 0 .shr (.t 6) (.k (.int .u64 24))),m_ 8 0,n_ 9 8,f_ 10 9 35,l_ 11 10,o_ 12 (.bin 0 .shr (.t 11) (.k (.int .u64 24))),b_ 13 .eql 7 12,m_ 2 13] [0,3,4,5,6,7,8,9,10,11,12,13]) (.ret))
set_option maxRecDepth 4000 in
theorem comp47:(Tryz.f47.body.bind fun c=>compC tab isP chkAll ir47 c)=some ir47:=by kernel_rfl
def ir48:IR:=
 .seq (r_ [o_ 2 (.mov (.k (.int .u8 0)))] [2]) (.seq (r_ [m_ 4 0,n_ 5 4,f_ 6 5 34,l_ 7 6,o_ 8 (.bin 0 .shr (.t 7) (.k (.int .u64 24))),o_ 9 (.cvt 0 .u8 (.t 8)),m_ 3 9] [4,5,6,7,8,9]) (.seq (r_ [m_ 10 0,m_ 11 0,n_ 12 11,f_ 13 12 34,l_ 14 13,o_ 15 (.bin 0 .shl (.t 14) (.k (.int .u64 8))),o_ 16 (.bin 0 .and (.t 15) (.k (.int .u64 4294967295))),n_ 17 10,f_ 18 17 34,s_ 1 .i64 18 16] [10,11,12,13,14,15,16,17,18]) (.seq (r_ [m_ 19 0,m_ 20 0,n_ 21 20,f_ 22 21 35,l_ 23 22,o_ 24 (.bin 0 .shl (.t 23) (.k (.int .u64 8))),o_ 25 (.bin 0 .and (.t 24) (.k (.int .u64 4294967295))),o_ 26 (.bin 0 .or (.t 25) (.k (.int .u64 255))),n_ 27 19,f_ 28 27 35,s_ 1 .i64 28 26] [0,19,20,21,22,23,24,25,26,27,28]) (.seq (r_ [m_ 29 3,m_ 2 29] [3,29]) (.ret)))))
set_option maxRecDepth 4000 in
theorem comp48:(Tryz.f48.body.bind fun c=>compC tab isP chkAll ir48 c)=some ir48:=by kernel_rfl
def ir45:IR:=
 .seq (.seq (r_ [m_ 8 2,c_ 9 .eql 8 1] [8]) (.cond (.t 9) (r_ [m_ 10 0,m_ 11 3,n_ 12 10,f_ 13 12 35,s_ 1 .i64 13 11] [3,9,10,11,12,13]) (r_ [m_ 14 0,m_ 15 3,o_ 16 (.bin 0 .add (.t 15) (.k (.int .u64 1))),n_ 17 14,f_ 18 17 34,s_ 1 .i64 18 16] [3,9,14,15,16,17,18]))) (R_ [m_ 19 0,n_ 20 19,f_ 21 20 0,f_ 22 21 1,l_ 23 22,m_ 24 1,m_ 25 0,n_ 26 25,f_ 27 26 0,f_ 28 27 0,l_ 29 28,m_ 30 0,n_ 31 30,f_ 32 31 0,f_ 33 32 1,l_ 34 33,m_ 35 1,i_ 36 34 35 1,L_ 37 36,m_ 38 2,o_ 39 (.callp 83 [.t 29,.t 37,.t 38]),i_ 40 23 24 1,S_ 1 .i64 40 39] [0,1,2,19,20,21,22,23,24,25,26,27,28,29,30,31,32,33,34,35,36,37,38,39,40])
set_option maxRecDepth 4000 in
theorem comp45:(Tryz.f45.body.bind fun c=>compC tab isP chkAll ir45 c)=some ir45:=by kernel_rfl
section 
variable (r:List SV) (v:SV)
@[push_cast] theorem gq32:getL (qsV++r) 32=getL r 0:=rfl
@[push_cast] theorem gq33:getL (qsV++r) 33=getL r 1:=rfl
@[push_cast] theorem gq34:getL (qsV++r) 34=getL r 2:=rfl
@[push_cast] theorem gq35:getL (qsV++r) 35=getL r 3:=rfl
@[push_cast] theorem gq36:getL (qsV++r) 36=getL r 4:=rfl
@[push_cast] theorem gq37:getL (qsV++r) 37=getL r 5:=rfl
@[push_cast] theorem gq38:getL (qsV++r) 38=getL r 6:=rfl
@[push_cast] theorem gq39:getL (qsV++r) 39=getL r 7:=rfl
@[push_cast] theorem sq32:setL (qsV++r) 32 v=qsV++setL r 0 v:=rfl
@[push_cast] theorem sq33:setL (qsV++r) 33 v=qsV++setL r 1 v:=rfl
@[push_cast] theorem sq34:setL (qsV++r) 34 v=qsV++setL r 2 v:=rfl
@[push_cast] theorem sq35:setL (qsV++r) 35 v=qsV++setL r 3 v:=rfl
@[push_cast] theorem sq36:setL (qsV++r) 36 v=qsV++setL r 4 v:=rfl
@[push_cast] theorem sq37:setL (qsV++r) 37 v=qsV++setL r 5 v:=rfl
@[push_cast] theorem sq38:setL (qsV++r) 38 v=qsV++setL r 6 v:=rfl
@[push_cast] theorem sq39:setL (qsV++r) 39 v=qsV++setL r 7 v:=rfl
@[push_cast] theorem tq32:takeL (qsV++r) 32=some qsV:=by simp[qsV,takeL]
@[push_cast] theorem dq32:dropL (qsV++r) 32=r:=by simp[qsV,dropL]
@[push_cast] theorem rq (f:Nat->Nat):relabs f (qsV++r)=qsV++relabs f r:=rfl
@[push_cast] theorem eqvs_q (s:List SV):eqvs (qsV++r) (qsV++s)=eqvs r s:=by simp[qsV,eqvs,eqv]
end
mutual
theorem eqv_rfl:∀ v,eqv v v
 | .int k n=>by simp only[eqv]
 | .bool b=>by simp only[eqv]
 | .ptr c L i s f=>by simp only[eqv,and_self]
 | .sl c L s lo n=>by simp only[eqv,and_self]
 | .agg cs=>by simp only[eqv];exact eqvs_rfl cs
 | .tup cs=>by simp only[eqv];exact eqvs_rfl cs
 | .fn f cs=>by simp only[eqv,true_and];exact eqvs_rfl cs
 | .val v=>by simp only[eqv]
theorem eqvs_rfl:∀ cs,eqvs cs cs
 | []=>by simp only[eqvs]
 | c::cs=>by simp only[eqvs];exact⟨eqv_rfl c,eqvs_rfl cs⟩
end
@[push_cast] theorem eqv_rfl' (v:SV):eqv v v=True:=eq_true (eqv_rfl v)
@[push_cast] theorem eqvs_rfl' (cs:List SV):eqvs cs cs=True:=eq_true (eqvs_rfl cs)
def ivV (kind:Int) (LS:Xf.Loc) (n low high:Int) (rest:List SV):List SV:=.int .i64 kind::.sl 1 LS 1 0 n::(qsV++.int .u64 low::.int .u64 high::rest)
def stsOk (kind:Int) (st:List Int):Prop:=(kind=0∨kind=1)/\∀ s∈st,sttOk kind s
theorem stsOk.at {kind:Int} {st:List Int} (h:stsOk kind st) {i:Int} (h0:0<=i) (h1:i<st.length):sttOk kind (rd st i):=by
 obtain⟨k,rfl⟩:∃ k:Nat,i=k:=⟨i.toNat,by omega⟩
 rw[rd_lt st k (by omega)]
 exact h.2 _ (List.getElem_mem _)
theorem stsOk.set {kind:Int} {st:List Int} (h:stsOk kind st) {i:Nat} {s:Int} (hs:sttOk kind s):stsOk kind (st.set i s):=by
 refine⟨h.1,fun x hx=>?_⟩
 rcases List.mem_or_eq_of_mem_set hx with h1 | h1
 ·exact h.2 x h1
 ·rw[h1];exact hs
def midP (low high p:Int):Int:=low+(high-low) / 4096*p+(high-low) % 4096*p / 4096
theorem midP_bd {low high p:Int} (h0:0<=low) (h1:low<=high) (h2:high<4294967296) (hp0:1<=p) (hp1:p<=4095) :
  0<=(high-low) / 4096*p/\(high-low) / 4096*p<=4294967296/\0<=(high-low) % 4096*p/\(high-low) % 4096*p<=16777216/\low<=midP low high p/\midP low high p<=high/\(low<high->midP low high p<high):=by
 unfold midP
 obtain⟨r,hr⟩:∃ r,high-low=r:=⟨_,rfl⟩
 rw[hr]
 have hr0:0<=r:=by omega
 obtain⟨a,ha⟩:∃ a,r / 4096=a:=⟨_,rfl⟩
 obtain⟨b,hb⟩:∃ b,r % 4096=b:=⟨_,rfl⟩
 rw[ha,hb]
 have hab:r=4096*a+b:=by omega
 have ha0:0<=a:=by omega
 have ha1:a<=1048576:=by omega
 have hb0:0<=b:=by omega
 have hb1:b<4096:=by omega
 have m1:=mul_bd ha0 ha1 (show 0<=p by omega) hp1
 have m2:=mul_bd hb0 (show b<=4095 by omega) (show 0<=p by omega) hp1
 have m3:a*p<=a*4095:=Int.mul_le_mul_of_nonneg_left hp1 ha0
 have m4:b*p<=b*4095:=Int.mul_le_mul_of_nonneg_left hp1 hb0
 refine⟨m1.1,by omega,m2.1,by omega,by omega,by omega,by omega⟩
structure IvA where
 L:Xf.Loc
 LS:Xf.Loc
 kind:Int
 st:List Int
 low:Int
 high:Int
 rest:List SV
 ctx:Int
 bit:Int
def IvA.ok (a:IvA):Prop:=stsOk a.kind a.st/\a.st.length<=1000000/\0<=a.low/\a.low<a.high/\a.high<4294967296
def restR:List SV->Option (List SV×Nat)
 | .sl d L s lo n::r=>some (.sl 2 L s lo n::r,d)
 | _=>none
def invIv:List SV->Look->Option (IvA×List Nat)
 | .ptr c _ 0 0 0::us,look=>match rowC (look c)with
  | some (L,.int .i64 kind::.sl d LS 1 0 _::r)=>match dropL r 32,rowI (look d)with
   | .int .u64 low::.int .u64 high::r,some (_,.i64,st)=>match restR r with
    | some (rest,e)=>match us with
     | []=>some (⟨L,LS,kind,st,low,high,rest,0,0⟩,[c,d,e])
     | [.int .i64 ctx]=>some (⟨L,LS,kind,st,low,high,rest,ctx,0⟩,[c,d,e])
     | [.int .i64 ctx,.int .i64 bit,_]=>some (⟨L,LS,kind,st,low,high,rest,ctx,bit⟩,[c,d,e])
     | _=>none
    | none=>none
   | _,_=>none
  | _=>none
 | _,_=>none
attribute [push_cast] restR invIv
def fs46:FS where
 A:=IvA
 args:=fun a=>[.ptr 0 a.L 0 0 0,.int .i64 a.ctx]
 mem:=fun a=>[some (.ro,a.L,.cells (ivV a.kind a.LS a.st.length a.low a.high a.rest)),some (.ro,a.LS,.ints .i64 a.st),none]
 pre:=fun a=>a.ok/\0<=a.ctx/\a.ctx<a.st.length
 res:=fun a _=>.int .u64 (midP a.low a.high (chP a.kind (rd a.st a.ctx)))
 out:=fun _ _=>[]
 new:=fun _ _=>[]
theorem ok46:FSOk Tryz.prog 46 fs46:=by
 refine⟨⟨_,Tryz.func46,by kernel_rfl,by kernel_rfl⟩,fun a=>⟨by simp[fs46,push_cast,noMine,argOwn,Chunk.frArg],by simp[fs46,push_cast,outOk,Chunk.ext],fun x=>.inl (by simp[fs46,push_cast,frNew,frOut,Chunk.fr])⟩,fun a hp=>?_⟩
 obtain⟨L,LS,kind,st,low,high,rest,ctx,bit⟩:=a
 obtain⟨⟨h1,h2,h3,h4,h5⟩,h6,h7⟩:(stsOk kind st/\st.length<=1000000/\0<=low/\low<high/\high<4294967296)/\0<=ctx/\ctx<st.length:=hp
 have hs:=h1.at h6 h7
 have hc:=chP_bd hs
 change Tri Tryz.prog 46 [.ptr 0 L 0 0 0,.int .i64 ctx] [some (.ro,L,.cells (ivV kind LS st.length low high rest)),some (.ro,LS,.ints .i64 st),none] (postF fs46 ⟨L,LS,kind,st,low,high,rest,ctx,bit⟩)
 refine tri_evS (hyp (l:=[]) (lp:=[(84,chanceF)]) trivial ⟨p84,trivial⟩) Tryz.func46 comp46 (rs:=[.tmp 4]) (by rfl) Tryz.ntmps46 10 ?_
 obtain⟨s,hss⟩:∃ s,rd st ctx=s:=⟨_,rfl⟩
 rw[hss]at hs hc
 obtain⟨p,hpp⟩:∃ p,chP kind s=p:=⟨_,rfl⟩
 rw[hpp]at hc
 have hb:=midP_bd h3 (Int.le_of_lt h4) h5 hc.1 hc.2
 unfold midP at hb
 simp -implicitDefEqProofs only[push_cast,zz,seval,ir46,ivV,hss,hpp,hs]
 repeat refine om_ ?_
 refine postF.mk' (fun _=>default) [some 0,some 1,none] ?_
 simp -implicitDefEqProofs only[push_cast,zz,seval,fs46,ivV,hss,hpp,midP]
def ent46:Entry:=spOf fs46 invIv
theorem e46:EntryOk Tryz.prog 46 ent46:=entry_of ok46 invIv
@[push_cast] theorem ent46_app (us:List SV) (look:Look) (x:Nat->Xf.Loc) (k:Nat):ent46 us look x k=spOf fs46 invIv us look x k:=rfl
def fs47:FS where
 A:=IvA
 args:=fun a=>[.ptr 0 a.L 0 0 0]
 mem:=fun a=>[some (.ro,a.L,.cells (ivV a.kind a.LS a.st.length a.low a.high a.rest)),none,none]
 pre:=fun a=>True
 res:=fun a _=>.bool (decide (a.low / 16777216=a.high / 16777216))
 out:=fun _ _=>[]
 new:=fun _ _=>[]
theorem ok47:FSOk Tryz.prog 47 fs47:=by
 refine⟨⟨_,Tryz.func47,by kernel_rfl,by kernel_rfl⟩,fun a=>⟨by simp[fs47,push_cast,noMine,argOwn,Chunk.frArg],by simp[fs47,push_cast,outOk,Chunk.ext],fun x=>.inl (by simp[fs47,push_cast,frNew,frOut,Chunk.fr])⟩,fun a hp=>?_⟩
 obtain⟨L,LS,kind,st,low,high,rest,ctx,bit⟩:=a
 change Tri Tryz.prog 47 [.ptr 0 L 0 0 0] [some (.ro,L,.cells (ivV kind LS st.length low high rest)),none,none] (postF fs47 ⟨L,LS,kind,st,low,high,rest,ctx,bit⟩)
 refine tri_evS (hyp (l:=[]) (lp:=[]) trivial trivial) Tryz.func47 comp47 (rs:=[.tmp 2]) (by rfl) Tryz.ntmps47 10 ?_
 have hb64:=bits64
 simp -implicitDefEqProofs only[push_cast,zz,seval,ir47,ivV,pw24]
 repeat refine om_ ?_
 refine postF.mk' (fun _=>default) [some 0,none,none] ?_
 simp -implicitDefEqProofs only[push_cast,zz,seval,fs47,ivV]
def ent47:Entry:=spOf fs47 invIv
theorem e47:EntryOk Tryz.prog 47 ent47:=entry_of ok47 invIv
@[push_cast] theorem ent47_app (us:List SV) (look:Look) (x:Nat->Xf.Loc) (k:Nat):ent47 us look x k=spOf fs47 invIv us look x k:=rfl
theorem wrap64 (x:Nat) (h:x<18446744073709551616):IntKind.u64.wrap x=x:=inR_wrap (k:=.u64) (by simp only[inR,push_cast];omega)
theorem and_top {x:Int} (h0:0<=x) (h1:x<18446744073709551616):bitop .and .u64 x 4294967295=x % 4294967296:=by
 obtain⟨k,rfl⟩:∃ k:Nat,x=k:=⟨x.toNat,by omega⟩
 have e:((BitVec.ofInt 64 (k:Int)) &&& (BitVec.ofInt 64 4294967295)).toNat=k % 4294967296:=by
  rw[BitVec.toNat_and,BitVec.toNat_ofInt,BitVec.toNat_ofInt]
  rw[show(((4294967295:Int) % ((2^64:Nat):Int)).toNat)=2^32-1 by decide,Nat.and_two_pow_sub_one_eq_mod]
  omega
 show IntKind.u64.wrap _=_
 have e':(BitVec.toNat ((BitVec.ofInt IntKind.u64.bits (k:Int)) &&& (BitVec.ofInt IntKind.u64.bits 4294967295)))=k % 4294967296:=e
 simp only[e']
 rw[wrap64 _ (by omega)]
 omega
theorem or_255 {x:Int} (h0:0<=x) (h1:x<18446744073709551616) (h2:x % 256=0):bitop .or .u64 x 255=x+255:=by
 obtain⟨k,rfl⟩:∃ k:Nat,x=k:=⟨x.toNat,by omega⟩
 have e:((BitVec.ofInt 64 (k:Int)) ||| (BitVec.ofInt 64 255)).toNat=k+255:=by
  rw[BitVec.toNat_or,BitVec.toNat_ofInt,BitVec.toNat_ofInt]
  rw[show(((255:Int) % ((2^64:Nat):Int)).toNat)=255 by decide]
  rw[show(((k:Int) % ((2^64:Nat):Int)).toNat)=2^8*(k / 256) by omega]
  rw[<-Nat.two_pow_add_eq_or_of_lt (by decide)]
  omega
 show IntKind.u64.wrap _=_
 have e':(BitVec.toNat ((BitVec.ofInt IntKind.u64.bits (k:Int)) ||| (BitVec.ofInt IntKind.u64.bits 255)))=k+255:=e
 simp only[e']
 rw[wrap64 _ (by omega)]
 omega
def fs48:FS where
 A:=IvA
 args:=fun a=>[.ptr 0 a.L 0 0 0]
 mem:=fun a=>[some (.lent,a.L,.cells (ivV a.kind a.LS a.st.length a.low a.high a.rest)),none,none]
 pre:=fun a=>0<=a.low/\a.low<4294967296/\0<=a.high/\a.high<4294967296
 res:=fun a _=>.int .u8 (a.low / 16777216)
 out:=fun a _=>[some (some (.cells (ivV a.kind a.LS a.st.length (a.low % 16777216*256) (a.high % 16777216*256+255) a.rest)))]
 new:=fun _ _=>[]
theorem ok48:FSOk Tryz.prog 48 fs48:=by
 refine⟨⟨_,Tryz.func48,by kernel_rfl,by kernel_rfl⟩,fun a=>⟨by simp[fs48,ivV,push_cast,noMine,argOwn,Chunk.frArg],by simp[fs48,ivV,push_cast,outOk,Chunk.ext],fun x=>.inl (by simp[fs48,ivV,push_cast,frNew,frOut,Chunk.fr])⟩,fun a hp=>?_⟩
 obtain⟨L,LS,kind,st,low,high,rest,ctx,bit⟩:=a
 obtain⟨h0,h1,h2,h3⟩:0<=low/\low<4294967296/\0<=high/\high<4294967296:=hp
 change Tri Tryz.prog 48 [.ptr 0 L 0 0 0] [some (.lent,L,.cells (ivV kind LS st.length low high rest)),none,none] (postF fs48 ⟨L,LS,kind,st,low,high,rest,ctx,bit⟩)
 refine tri_evS (hyp (l:=[]) (lp:=[]) trivial trivial) Tryz.func48 comp48 (rs:=[.tmp 2]) (by rfl) Tryz.ntmps48 10 ?_
 have hb64:=bits64
 have e1:=and_top (x:=low*256) (by omega) (by omega)
 have e2:=and_top (x:=high*256) (by omega) (by omega)
 have e3:=or_255 (x:=high*256 % 4294967296) (by omega) (by omega) (by omega)
 have e4:low*256 % 4294967296=low % 16777216*256:=by omega
 have e5:high*256 % 4294967296=high % 16777216*256:=by omega
 rw[e4]at e1
 rw[e5]at e2 e3
 simp -implicitDefEqProofs only[push_cast,zz,seval,ir48,ivV,pw24,pw8,e1,e2,e3]
 repeat refine om_ ?_
 refine postF.mk' (fun _=>default) [some 0,none,none] ?_
 simp -implicitDefEqProofs only[push_cast,zz,seval,fs48,ivV]
def ent48:Entry:=spOf fs48 invIv
theorem e48:EntryOk Tryz.prog 48 ent48:=entry_of ok48 invIv
@[push_cast] theorem ent48_app (us:List SV) (look:Look) (x:Nat->Xf.Loc) (k:Nat):ent48 us look x k=spOf fs48 invIv us look x k:=rfl
def fs45:FS where
 A:=IvA
 args:=fun a=>[.ptr 0 a.L 0 0 0,.int .i64 a.ctx,.int .i64 a.bit,.int .u64 (midP a.low a.high (chP a.kind (rd a.st a.ctx)))]
 mem:=fun a=>[some (.lent,a.L,.cells (ivV a.kind a.LS a.st.length a.low a.high a.rest)),some (.lent,a.LS,.ints .i64 a.st),none]
 pre:=fun a=>a.ok/\0<=a.ctx/\a.ctx<a.st.length/\(a.bit=0∨a.bit=1)
 res:=fun a _=>.tup []
 out:=fun a _=>[some (some (.cells (ivV a.kind a.LS a.st.length (if a.bit=1 then a.low else midP a.low a.high (chP a.kind (rd a.st a.ctx))+1) (if a.bit=1 then midP a.low a.high (chP a.kind (rd a.st a.ctx))else a.high) a.rest))),
  some (some (.ints .i64 (a.st.set a.ctx.toNat (nxP a.kind (rd a.st a.ctx) a.bit))))]
 new:=fun _ _=>[]
theorem ok45:FSOk Tryz.prog 45 fs45:=by
 refine⟨⟨_,Tryz.func45,by kernel_rfl,by kernel_rfl⟩,fun a=>⟨by simp[fs45,ivV,push_cast,noMine,argOwn,Chunk.frArg],by simp[fs45,ivV,push_cast,outOk,Chunk.ext],fun x=>.inl (by simp[fs45,ivV,push_cast,frNew,frOut,Chunk.fr])⟩,fun a hp=>?_⟩
 obtain⟨L,LS,kind,st,low,high,rest,ctx,bit⟩:=a
 obtain⟨⟨h1,h2,h3,h4,h5⟩,h6,h7,h8⟩:(stsOk kind st/\st.length<=1000000/\0<=low/\low<high/\high<4294967296)/\0<=ctx/\ctx<st.length/\(bit=0∨bit=1):=hp
 have hs:=h1.at h6 h7
 have hc:=chP_bd hs
 have hb:=midP_bd h3 (Int.le_of_lt h4) h5 hc.1 hc.2
 change Tri Tryz.prog 45 [.ptr 0 L 0 0 0,.int .i64 ctx,.int .i64 bit,.int .u64 (midP low high (chP kind (rd st ctx)))] [some (.lent,L,.cells (ivV kind LS st.length low high rest)),some (.lent,LS,.ints .i64 st),none] (postF fs45 ⟨L,LS,kind,st,low,high,rest,ctx,bit⟩)
 refine tri_evS (hyp (l:=[]) (lp:=[(83,nextF)]) trivial ⟨p83,trivial⟩) Tryz.func45 comp45 (rs:=[]) (by rfl) Tryz.ntmps45 10 ?_
 obtain⟨m,hm⟩:∃ m,midP low high (chP kind (rd st ctx))=m:=⟨_,rfl⟩
 obtain⟨s,hss⟩:∃ s,rd st ctx=s:=⟨_,rfl⟩
 rw[hss]at hs
 rw[hm]at hb ⊢
 rw[hss]at hm
 have h01:¬ (0:Int)=1:=by decide
 by_cases hbit:bit=1
 ·subst hbit
  simp -implicitDefEqProofs only[push_cast,zz,seval,ir45,ivV,hss,hs]
  repeat refine om_ ?_
  refine postF.mk' (fun _=>default) [some 0,some 1,none] ?_
  simp -implicitDefEqProofs only[push_cast,zz,seval,fs45,ivV,hm,hss,List.length_set]
 ·obtain rfl:bit=0:=by omega
  simp -implicitDefEqProofs only[push_cast,zz,seval,ir45,ivV,hss,hs,h01]
  repeat refine om_ ?_
  refine postF.mk' (fun _=>default) [some 0,some 1,none] ?_
  simp -implicitDefEqProofs only[push_cast,zz,seval,fs45,ivV,hm,hss,List.length_set,h01]
def ent45:Entry:=spOf fs45 invIv
theorem e45:EntryOk Tryz.prog 45 ent45:=entry_of ok45 invIv
@[push_cast] theorem ent45_app (us:List SV) (look:Look) (x:Nat->Xf.Loc) (k:Nat):ent45 us look x k=spOf fs45 invIv us look x k:=rfl
def ir44:IR:=
 .seq (r_ [o_ 2 (.mov (.k (.bool false)))] [2]) (.seq (r_ [m_ 3 0,o_ 4 (.binN .eql (.t 3) (.k nilP)),m_ 5 4,q_ 5 (m_ 6 0),q_ 5 (n_ 7 6),q_ 5 (f_ 8 7 37),q_ 5 (l_ 9 8),q_ 5 (o_ 10 (.not (.t 9))),k_ 11 5 10,m_ 2 11] [0,3,4,5,6,7,8,9,10,11]) (.ret))
set_option maxRecDepth 4000 in
theorem comp44:(Tryz.f44.body.bind fun c=>compC tab isP chkAll ir44 c)=some ir44:=by kernel_rfl
def b15_1:IR:=
 .seq (.seq (r_ [m_ 43 0,n_ 44 43,f_ 45 44 0,o_ 46 (.call (some 4) 22 47 [.t 45])] [43,44,45]) (.cond (.t 46) (.skip) (.exit 1))) (.block 2 (.regT (.split 4 8 (.leaf [0,1,2,3,4,5,6,7,8,9,10,11,12,13]) (.leaf [0,1,2,3,5,6,7,8,4,9,10,11,12,13])) [m_ 47 0,m_ 48 0,n_ 49 48,f_ 50 49 36,⟨some 51,none,⟨[26,27,28,29,30],[]⟩,.ld false none 0 0 (.t 50)⟩,m_ 52 0,n_ 53 52,f_ 54 53 0,o_ 55 (.call none 26 48 [.t 54]),o_ 56 (.bslice 30 [.t 55]),o_ 57 (.app 31 1 1 (.t 51) (.t 56)),n_ 58 47,f_ 59 58 36,s_ 1 .u8 59 57] [46,47,48,49,50,51,52,53,54,55,56,57,58,59] []))
def r15_2:IR:=
 .seq (r_ [z_ 6 0] [0]) (.ret)
def ir15:IR:=
 .seq (r_ [z_ 6 0] [6]) (.seq (.block 0 (.seq (r_ [m_ 8 0,o_ 9 (.call (some 4) 10 44 [.t 8]),m_ 7 9] [8,9]) (.cond (.t 7) (.seq (r_ [z_ 6 7] [0,1,2,7]) (.ret)) (.seq (r_ [m_ 11 1,c_ 12 .lss 11 0,m_ 13 12,q_ 13 (m_ 14 1),q_ 13 (m_ 15 0),q_ 13 (n_ 16 15),q_ 13 (f_ 17 16 0),q_ 13 (f_ 18 17 0),q_ 13 (f_ 19 18 1),q_ 13 (l_ 20 19),q_ 13 (h_ 21 20),q_ 13 (b_ 22 .geq 14 21),k_ 23 13 22,m_ 24 23,q_ 24 (m_ 25 2),q_ 24 (c_ 26 .neq 25 0),q_ 24 (m_ 27 26),p_ 27 (m_ 28 2),p_ 27 (c_ 29 .neq 28 1),q_ 24 (K_ 30 27 29),k_ 31 24 30,m_ 10 31] [7,11,12,13,14,15,16,17,18,19,20,21,22,23,24,25,26,27,28,29,30,31]) (.cond (.t 10) (.seq (r_ [z_ 6 2] [0,1,2,10]) (.ret)) (.skip)))))) (.seq (R_ [m_ 32 0,n_ 33 32,f_ 34 33 0,m_ 35 1,m_ 36 2,m_ 37 0,n_ 38 37,f_ 39 38 0,m_ 40 1,o_ 41 (.call (some 4) 14 46 [.t 39,.t 40]),o_ 42 (.call none 18 45 [.t 34,.t 35,.t 36,.t 41])] [1,2,6,10,32,33,34,35,36,37,38,39,40,41,42]) (.seq (.block 1 (.loop b15_1)) (r15_2))))
def kp15_1:List Nat:=[0]
def kl15_1:List Nat:=[22,23,24,25,26,27,28,29,30,31]
attribute [push_cast] kp15_1 kl15_1
set_option maxRecDepth 4000 in
theorem comp15:(Tryz.f15.body.bind fun c=>compC tab isP chkAll ir15 c)=some ir15:=by kernel_rfl
def normP:Nat->Int->Int->List Int×Int×Int
 | 0,l,h=>([],l,h)
 | n+1,l,h=>if l / 16777216=h / 16777216 then (l / 16777216::(normP n (l % 16777216*256) (h % 16777216*256+255)).1,(normP n (l % 16777216*256) (h % 16777216*256+255)).2)else ([],l,h)
def pw256:Nat->Int
 | 0=>4294967296
 | 1=>16777216
 | 2=>65536
 | 3=>256
 | _=>1
def nrm (n:Nat) (l h:Int):Prop:=n<=4/\0<=l/\l<=h/\h<4294967296/\l % pw256 n=0/\h % pw256 n=pw256 n-1
theorem nrm_0 {l h:Int} (H:nrm 0 l h):¬ l / 16777216=h / 16777216:=by
 obtain⟨_,h1,h2,h3,h4,h5⟩:=H
 simp only[pw256]at h4 h5
 omega
theorem nrm_step {n:Nat} {l h:Int} (H:nrm (n+1) l h) (e:l / 16777216=h / 16777216):nrm n (l % 16777216*256) (h % 16777216*256+255):=by
 obtain⟨h0,h1,h2,h3,h4,h5⟩:=H
 have hn:n=0∨n=1∨n=2∨n=3:=by omega
 rcases hn with rfl | rfl | rfl | rfl<;>simp only[pw256,nrm]at h4 h5 ⊢<;>omega
theorem nrm_4 {l h:Int} (h0:0<=l) (h1:l<=h) (h2:h<4294967296):nrm 4 l h:=⟨by omega,h0,h1,h2,by simp only[pw256];omega,by simp only[pw256];omega⟩
theorem norm_no (n:Nat) {l h:Int} (e:¬ l / 16777216=h / 16777216):normP n l h=([],l,h):=by
 cases n with
 | zero=>rfl
 | succ n=>rw[normP,if_neg e]
theorem norm_yes {n:Nat} {l h:Int} (e:l / 16777216=h / 16777216):normP (n+1) l h=(l / 16777216::(normP n (l % 16777216*256) (h % 16777216*256+255)).1,(normP n (l % 16777216*256) (h % 16777216*256+255)).2):=by
 rw[normP,if_pos e]
theorem norm_bd:∀ (n:Nat) {l h:Int},nrm n l h->(normP n l h).1.length<=n/\0<=(normP n l h).2.1/\(normP n l h).2.1<(normP n l h).2.2/\(normP n l h).2.2<4294967296/\¬ (normP n l h).2.1 / 16777216=(normP n l h).2.2 / 16777216
 | n,l,h,H=>by
  by_cases e:l / 16777216=h / 16777216
  ·cases n with
   | zero=>exact absurd e (nrm_0 H)
   | succ n=>
    have ih:=norm_bd n (nrm_step H e)
    rw[norm_yes e]
    simp only[List.length_cons]
    exact⟨by omega,ih.2⟩
  ·rw[norm_no n e]
   obtain⟨h0,h1,h2,h3,h4,h5⟩:=H
   simp only[List.length_nil]
   refine⟨by omega,h1,by omega,h3,e⟩
structure EnS where
 kind:Int
 st:List Int
 low:Int
 high:Int
 out:List Int
def ivOk2 (kind:Int) (st:List Int) (low high:Int):Prop:=stsOk kind st/\st.length<=1000000/\0<=low/\low<high/\high<4294967296/\¬ low / 16777216=high / 16777216
def EnS.ok (e:EnS):Prop:=ivOk2 e.kind e.st e.low e.high
def lowP (kind:Int) (st:List Int) (low high ctx bit:Int):Int:=if bit=1 then low else midP low high (chP kind (rd st ctx))+1
def highP (kind:Int) (st:List Int) (low high ctx bit:Int):Int:=if bit=1 then midP low high (chP kind (rd st ctx))else high
theorem nrm_part {kind:Int} {st:List Int} {low high ctx bit:Int} (H:ivOk2 kind st low high) (h0:0<=ctx) (h1:ctx<st.length):nrm 4 (lowP kind st low high ctx bit) (highP kind st low high ctx bit):=by
 obtain⟨a1,a2,a3,a4,a5,a6⟩:=H
 have hc:=chP_bd (a1.at h0 h1)
 have hb:=midP_bd a3 (Int.le_of_lt a4) a5 hc.1 hc.2
 unfold lowP highP
 split
 ·exact nrm_4 a3 (by omega) (by omega)
 ·exact nrm_4 (by omega) (by omega) a5
def putP (e:EnS) (ctx bit:Int):EnS:=
 ⟨e.kind,e.st.set ctx.toNat (nxP e.kind (rd e.st ctx) bit),(normP 4 (lowP e.kind e.st e.low e.high ctx bit) (highP e.kind e.st e.low e.high ctx bit)).2.1,(normP 4 (lowP e.kind e.st e.low e.high ctx bit) (highP e.kind e.st e.low e.high ctx bit)).2.2,e.out++(normP 4 (lowP e.kind e.st e.low e.high ctx bit) (highP e.kind e.st e.low e.high ctx bit)).1⟩
theorem putP_ok {e:EnS} {ctx bit:Int} (H:e.ok) (h0:0<=ctx) (h1:ctx<e.st.length) (hb:bit=0∨bit=1):(putP e ctx bit).ok/\(putP e ctx bit).out.length<=e.out.length+4/\(putP e ctx bit).st.length=e.st.length/\(putP e ctx bit).kind=e.kind:=by
 have hn:=norm_bd 4 (nrm_part (bit:=bit) H h0 h1)
 obtain⟨a1,a2,a3,a4,a5,a6⟩:=H
 unfold putP EnS.ok ivOk2
 simp only[List.length_set,List.length_append]
 exact⟨⟨a1.set (nxP_ok (a1.at h0 h1) hb),a2,hn.2.1,hn.2.2.1,hn.2.2.2.1,hn.2.2.2.2⟩,by omega,trivial,trivial⟩
structure EnA where
 L:Xf.Loc
 LS:Xf.Loc
 LO:Xf.Loc
 e:EnS
 ctx:Int
 bit:Int
def enV (LS:Xf.Loc) (e:EnS) (d:Nat) (LO:Xf.Loc):List SV:=ivV e.kind LS e.st.length e.low e.high [.sl d LO 1 0 e.out.length,.bool true]
def enM (a:EnA):Mem:=[some (.ro,a.L,.cells (enV a.LS a.e 2 a.LO)),some (.ro,a.LS,.ints .i64 a.e.st),some (.ro,a.LO,.ints .u8 a.e.out)]
def rowO (look:Look) (e:Nat):Option (Xf.Loc×List Int):=
 bif e==4096 then some (nilLoc,[])else match rowI (look e)with
  | some (L,.u8,xs)=>some (L,xs)
  | _=>none
def invEn:List SV->Look->Option (EnA×List Nat)
 | .ptr c _ 0 0 0::us,look=>match rowC (look c)with
  | some (L,.int .i64 kind::.sl d LS 1 0 _::r)=>match dropL r 32,rowI (look d)with
   | [.int .u64 low,.int .u64 high,.sl e _ 1 0 _,.bool true],some (_,.i64,st)=>match rowO look e with
    | some (LO,out)=>match us with
     | []=>some (⟨L,LS,LO,⟨kind,st,low,high,out⟩,0,0⟩,[c,d,e])
     | [.int .i64 ctx,.int .i64 bit]=>some (⟨L,LS,LO,⟨kind,st,low,high,out⟩,ctx,bit⟩,[c,d,e])
     | _=>none
    | none=>none
   | _,_=>none
  | _=>none
 | _,_=>none
attribute [push_cast] rowO invEn
def fs44:FS where
 A:=EnA
 args:=fun a=>[.ptr 0 a.L 0 0 0]
 mem:=fun a=>enM a
 pre:=fun a=>True
 res:=fun a _=>.bool false
 out:=fun _ _=>[]
 new:=fun _ _=>[]
theorem ok44:FSOk Tryz.prog 44 fs44:=by
 refine⟨⟨_,Tryz.func44,by kernel_rfl,by kernel_rfl⟩,fun a=>⟨by simp[fs44,enM,push_cast,noMine,argOwn,Chunk.frArg],by simp[fs44,enM,push_cast,outOk,Chunk.ext],fun x=>.inl (by simp[fs44,enM,push_cast,frNew,frOut,Chunk.fr])⟩,fun a hp=>?_⟩
 obtain⟨L,LS,LO,⟨kind,st,low,high,out⟩,ctx,bit⟩:=a
 change Tri Tryz.prog 44 [.ptr 0 L 0 0 0] (enM ⟨L,LS,LO,⟨kind,st,low,high,out⟩,ctx,bit⟩) (postF fs44 ⟨L,LS,LO,⟨kind,st,low,high,out⟩,ctx,bit⟩)
 refine tri_evS (hyp (l:=[]) (lp:=[]) trivial trivial) Tryz.func44 comp44 (rs:=[.tmp 2]) (by rfl) Tryz.ntmps44 10 ?_
 simp -implicitDefEqProofs only[push_cast,zz,seval,ir44,enM,enV,ivV]
 repeat refine om_ ?_
 refine postF.mk' (fun _=>default) [some 0,some 1,some 2] ?_
 simp -implicitDefEqProofs only[push_cast,zz,seval,fs44,enM,enV,ivV]
def ent44:Entry:=spOf fs44 invEn
theorem e44:EntryOk Tryz.prog 44 ent44:=entry_of ok44 invEn
@[push_cast] theorem ent44_app (us:List SV) (look:Look) (x:Nat->Xf.Loc) (k:Nat):ent44 us look x k=spOf fs44 invEn us look x k:=rfl
def fs15:FS where
 A:=EnA
 args:=fun a=>[.ptr 0 a.L 0 0 0,.int .i64 a.ctx,.int .i64 a.bit]
 mem:=fun a=>[some (.lent,a.L,.cells (enV a.LS a.e 2 a.LO)),some (.lent,a.LS,.ints .i64 a.e.st),some (.lent,a.LO,.ints .u8 a.e.out)]
 pre:=fun a=>a.e.ok/\0<=a.ctx/\a.ctx<a.e.st.length/\(a.bit=0∨a.bit=1)/\a.e.out.length<=100000000
 res:=fun a _=>.int .i64 0
 out:=fun a x=>[some (some (.cells (enV a.LS (putP a.e a.ctx a.bit) 3 (x 0)))),some (some (.ints .i64 (putP a.e a.ctx a.bit).st)),some none]
 new:=fun a x=>[(x 0,.ints .u8 (putP a.e a.ctx a.bit).out)]
 newGot:=true
set_option maxHeartbeats 1000000 in
theorem ok15:FSOk Tryz.prog 15 fs15:=by
 refine⟨⟨_,Tryz.func15,by kernel_rfl,by kernel_rfl⟩,fun a=>⟨by simp[fs15,enV,ivV,push_cast,noMine,argOwn,Chunk.frArg],by simp[fs15,enV,ivV,push_cast,outOk,Chunk.ext],fun x=>.inl (by simp[fs15,enV,ivV,push_cast,frNew,frOut,Chunk.fr])⟩,fun a hp=>?_⟩
 obtain⟨L,LS,LO,⟨kind,st,low,high,out⟩,ctx,bit⟩:=a
 obtain⟨h1,h2,h3,h4,h5⟩:ivOk2 kind st low high/\0<=ctx/\ctx<st.length/\(bit=0∨bit=1)/\out.length<=100000000:=hp
 have hn:=nrm_part (bit:=bit) h1 h2 h3
 obtain⟨E,hE⟩:∃ E,putP ⟨kind,st,low,high,out⟩ ctx bit=E:=⟨_,rfl⟩
 have hE1:E.kind=kind:=by rw[<-hE];rfl
 have hE2:E.st=st.set ctx.toNat (nxP kind (rd st ctx) bit):=by rw[<-hE];rfl
 have hE3:(out++(normP 4 (lowP kind st low high ctx bit) (highP kind st low high ctx bit)).1,(normP 4 (lowP kind st low high ctx bit) (highP kind st low high ctx bit)).2)=(E.out,E.low,E.high):=by rw[<-hE];rfl
 have hl0:(if bit=1 then low else midP low high (chP kind (rd st ctx))+1)=lowP kind st low high ctx bit:=rfl
 have hh0:(if bit=1 then midP low high (chP kind (rd st ctx))else high)=highP kind st low high ctx bit:=rfl
 have hok:(⟨L,LS,kind,st,low,high,[.sl 2 LO 1 0 out.length,.bool true],ctx,bit⟩:IvA).ok:=⟨h1.1,h1.2.1,h1.2.2.1,h1.2.2.2.1,h1.2.2.2.2.1⟩
 simp only[IvA.ok]at hok
 change Tri Tryz.prog 15 [.ptr 0 L 0 0 0,.int .i64 ctx,.int .i64 bit] [some (.lent,L,.cells (enV LS ⟨kind,st,low,high,out⟩ 2 LO)),some (.lent,LS,.ints .i64 st),some (.lent,LO,.ints .u8 out)] (postF fs15 ⟨L,LS,LO,⟨kind,st,low,high,out⟩,ctx,bit⟩)
 refine tri_evS (hyp (l:=[(44,ent44),(46,ent46),(45,ent45),(47,ent47),(48,ent48)]) (lp:=[]) ⟨e44,e46,e45,e47,e48,trivial⟩ trivial) Tryz.func15 comp15 (rs:=[.tmp 6]) (by rfl) Tryz.ntmps15 32 ?_
 have c1:¬ ctx<0:=by omega
 have c2:¬ (st.length:Int)<=ctx:=by omega
 have c3:¬ (¬ bit=0/\¬ bit=1):=by omega
 simp -implicitDefEqProofs only[push_cast,zz,seval,ir15,enV,ivV,fs44,fs46,fs45,enM,c1,c2,c3,h2,h3,h4,IvA.ok,hok,hl0,hh0]
 obtain⟨l0,hll⟩:∃ l,lowP kind st low high ctx bit=l:=⟨_,rfl⟩
 obtain⟨g0,hgg⟩:∃ l,highP kind st low high ctx bit=l:=⟨_,rfl⟩
 obtain⟨S,hSS⟩:∃ l,st.set ctx.toNat (nxP kind (rd st ctx) bit)=l:=⟨_,rfl⟩
 have hSl:S.length=st.length:=by rw[<-hSS,List.length_set]
 rw[hll,hgg]at hn hE3 ⊢
 rw[hSS]at hE2 ⊢
 refine evS_loopU (A:=Nat×Xf.Loc×Int×Int×List Int) kp15_1 kl15_1 (fun y=>[]) (fun y=>[(0,.lent,L,.cells (ivV kind LS st.length y.2.2.1 y.2.2.2.1 [.sl 2 y.2.1 1 0 y.2.2.2.2.length,.bool true])),(2,.got,y.2.1,.ints .u8 y.2.2.2.2)])
  (fun y=>nrm y.1 y.2.2.1 y.2.2.2.1/\(y.2.2.2.2++(normP y.1 y.2.2.1 y.2.2.2.1).1,(normP y.1 y.2.2.1 y.2.2.2.1).2)=(E.out,E.low,E.high)/\y.2.2.2.2.length+y.1<=100000004) (fun y=>y.1) (4,LO,l0,g0,out) ⟨hn,hE3,by simp only;omega⟩ (Sub.pt ?_) ?_
 ·simp -implicitDefEqProofs only[push_cast,zz,seval,ivV]
 intro ⟨n,M,l,g,o⟩ ⟨(hn:nrm n l g),(he:(o++(normP n l g).1,(normP n l g).2)=(E.out,E.low,E.high)),(ho:o.length+n<=100000004)⟩ K hK
 obtain⟨n0,n1,n2,n3,n4,n5⟩:=id hn
 by_cases e:l / 16777216=g / 16777216
 ·cases n with
  | zero=>exact absurd e (nrm_0 hn)
  | succ n=>
   have hs:=nrm_step hn e
   rw[norm_yes e]at he
   have he':((o++[l / 16777216])++(normP n (l % 16777216*256) (g % 16777216*256+255)).1,(normP n (l % 16777216*256) (g % 16777216*256+255)).2)=(E.out,E.low,E.high):=by
    rw[<-he,List.append_assoc];rfl
   have hb:0<=l/\l<4294967296/\0<=g/\g<4294967296:=by omega
   rw[e]at he'
   simp -implicitDefEqProofs only[push_cast,zz,seval,b15_1,ivV,fs47,fs48,e,hb,hSl]
   intro X
   repeat refine om_ ?_
   refine hK (n,X 10 31,l % 16777216*256,g % 16777216*256+255,o++[g / 16777216]) ⟨hs,he',by simp only[List.length_append,List.length_singleton];omega⟩ (Nat.lt_succ_self n) _ _ (Sub.of (mkG 40 [(0,0),(1,1),(2,31)]) ?_)
   simp -implicitDefEqProofs only[push_cast,zz,seval,ivV,List.length_append]
 ·rw[norm_no n e,List.append_nil]at he
  have e1:E.out=o:=(congrArg Prod.fst he).symm
  have e2:E.low=l:=(congrArg (fun x=>x.2.1) he).symm
  have e3:E.high=g:=(congrArg (fun x=>x.2.2) he).symm
  clear hK
  simp -implicitDefEqProofs only[push_cast,zz,seval,b15_1,r15_2,ivV,fs47,e,hSl]
  refine postF.mk' (fun _=>M) [some 0,some 1,none,some 2] ?_
  simp -implicitDefEqProofs only[push_cast,zz,seval,fs15,enV,ivV,hE,hE1,hE2,e1,e2,e3,hSl]
def ent15:Entry:=spOf fs15 invEn
theorem e15:EntryOk Tryz.prog 15 ent15:=entry_of ok15 invEn
@[push_cast] theorem ent15_app (us:List SV) (look:Look) (x:Nat->Xf.Loc) (k:Nat):ent15 us look x k=spOf fs15 invEn us look x k:=rfl
def ir49:IR:=
 .seq (r_ [o_ 1 (.box 10 (.t 0)),o_ 2 (.alloc 11 [y_,nilSV])] [0]) (.seq (R_ [f_ 3 1 0,⟨some 4,none,⟨[12,13],[]⟩,.ld false none 0 0 (.t 3)⟩,o_ 5 (.bslice 12 []),f_ 6 1 1,⟨some 7,none,⟨[12],[]⟩,.ld false none 0 0 (.t 6)⟩,o_ 8 (.app 13 1 8 (.t 5) (.t 7)),o_ 9 (.build [y_,nilSV] [(0,1,.t 4),(1,1,.t 8)]),s_ 2 .i64 2 9] [1,3,4,5,6,7,8,9]) (.ret))
set_option maxRecDepth 4000 in
theorem comp49:(Tryz.f49.body.bind fun c=>compC tab isP chkAll ir49 c)=some ir49:=by kernel_rfl
def b35_1:IR:=
 .seq (r_ [b_ 27 .lss 26 25] []) (.seq (.cond (.t 27) (.skip) (.exit 0)) (.seq (.block 1 (.seq (r_ [i_ 28 24 26 1,L_ 29 28,m_ 5 29] [27,28,29]) (.seq (r_ [m_ 30 5,c_ 31 .lss 30 0,m_ 32 31,q_ 32 (m_ 33 5),q_ 32 (m_ 34 3),q_ 32 (b_ 35 .geq 33 34),k_ 36 32 35] [5,30,31,32,33,34,35]) (.cond (.t 36) (.seq (r_ [o_ 2 (.mov (.k (.bool false)))] [3,24,25,26,36]) (.ret)) (.skip))))) (r_ [a_ 37 26 1,m_ 26 37] [2,36,37])))
def r35_2:IR:=
 .seq (r_ [o_ 2 (.mov (.k (.bool true)))] [3,24,25,26]) (.ret)
def ir35:IR:=
 .seq (r_ [o_ 1 (.box 10 (.t 0)),o_ 2 (.mov (.k (.bool false)))] [0,2]) (.seq (.seq (r_ [f_ 6 1 0,l_ 7 6,c_ 8 .neq 7 0,m_ 9 8,p_ 9 (f_ 10 1 0),p_ 9 (l_ 11 10),p_ 9 (c_ 12 .neq 11 1),K_ 13 9 12,m_ 14 13,q_ 14 (f_ 15 1 1),q_ 14 (l_ 16 15),q_ 14 (h_ 17 16),q_ 14 (c_ 18 .gtr 17 8192),k_ 19 14 18] [6,7,8,9,10,11,12,13,14,15,16,17,18]) (.cond (.t 19) (.seq (r_ [o_ 2 (.mov (.k (.bool false)))] [1,19]) (.ret)) (.skip))) (.seq (r_ [z_ 3 64] [2,19]) (.seq (.seq (r_ [f_ 20 1 0,l_ 21 20,c_ 22 .eql 21 1] [20,21]) (.cond (.t 22) (r_ [z_ 3 65536] [22]) (.skip))) (.seq (.seq (r_ [f_ 23 1 1,l_ 24 23,h_ 25 24,z_ 26 0] [1,22,23]) (.block 0 (.loop b35_1))) (r35_2)))))
def kp35_1:List Nat:=[3,24,25,26]
def kl35_1:List Nat:=[]
attribute [push_cast] kp35_1 kl35_1
set_option maxRecDepth 4000 in
theorem comp35:(Tryz.f35.body.bind fun c=>compC tab isP chkAll ir35 c)=some ir35:=by kernel_rfl
def ir36:IR:=
 .seq (r_ [o_ 1 (.box 10 (.t 0)),o_ 2 (.alloc 11 [y_,nilSV,y_,y_,y_,y_,y_,y_,y_,y_,y_,y_,y_,y_,y_,y_,y_,y_,y_,y_,y_,y_,y_,y_,y_,y_,y_,y_,y_,y_,y_,y_,y_,y_,.int .u64 0,.int .u64 0])] [0]) (.seq (r_ [o_ 3 (.ld false (some 2) 0 0 (.t 1)),o_ 4 (.call (some 4) 12 49 [.t 3]),o_ 5 (.callp 78 []),o_ 6 (.build [y_,nilSV,y_,y_,y_,y_,y_,y_,y_,y_,y_,y_,y_,y_,y_,y_,y_,y_,y_,y_,y_,y_,y_,y_,y_,y_,y_,y_,y_,y_,y_,y_,y_,y_,.int .u64 0,.int .u64 0] [(0,2,.t 4),(2,32,.t 5),(35,1,.k (.int .u64 4294967295))]),s_ 36 .i64 2 6] [1,3,4,5,6]) (.ret))
set_option maxRecDepth 4000 in
theorem comp36:(Tryz.f36.body.bind fun c=>compC tab isP chkAll ir36 c)=some ir36:=by kernel_rfl
def ir12:IR:=
 .seq (r_ [o_ 1 (.box 10 (.t 0)),o_ 2 (.mov (.k nilP)),z_ 3 0] [0,2,3]) (.seq (.seq (r_ [o_ 4 (.ld false (some 2) 0 0 (.t 1)),o_ 5 (.call (some 4) 11 35 [.t 4]),o_ 6 (.not (.t 5))] [4,5]) (.cond (.t 6) (.seq (r_ [o_ 2 (.mov (.k nilP)),z_ 3 10] [1,6]) (.ret)) (.skip))) (.seq (r_ [o_ 7 (.ld false (some 2) 0 0 (.t 1)),o_ 8 (.call (some 4) 15 36 [.t 7]),o_ 9 (.build [y_,nilSV,y_,y_,y_,y_,y_,y_,y_,y_,y_,y_,y_,y_,y_,y_,y_,y_,y_,y_,y_,y_,y_,y_,y_,y_,y_,y_,y_,y_,y_,y_,y_,y_,.int .u64 0,.int .u64 0,nilSV,.bool false] [(0,36,.t 8),(37,1,.k (.bool true))]),o_ 10 (.box 19 (.t 9)),m_ 2 10,z_ 3 0] [1,6,7,8,9,10]) (.ret)))
set_option maxRecDepth 4000 in
theorem comp12:(Tryz.f12.body.bind fun c=>compC tab isP chkAll ir12 c)=some ir12:=by kernel_rfl
def ir16:IR:=
 .seq (r_ [o_ 2 (.alloc 10 [y_,nilSV])] []) (.seq (.seq (r_ [m_ 3 0,o_ 4 (.call (some 4) 11 44 [.t 3])] [3]) (.cond (.t 4) (.seq (r_ [o_ 5 (.build [y_,nilSV] []),s_ 2 .i64 2 5] [0,4,5]) (.ret)) (.skip))) (.seq (r_ [m_ 6 0,n_ 7 6,f_ 8 7 0,f_ 9 8 0,o_ 10 (.ld false (some 2) 0 0 (.t 9)),o_ 11 (.call (some 4) 15 49 [.t 10]),s_ 2 .i64 2 11] [0,4,6,7,8,9,10,11]) (.ret)))
set_option maxRecDepth 4000 in
theorem comp16:(Tryz.f16.body.bind fun c=>compC tab isP chkAll ir16 c)=some ir16:=by kernel_rfl
def b17_2:IR:=
 .seq (r_ [b_ 39 .lss 38 37] []) (.seq (.cond (.t 39) (.skip) (.exit 2)) (.seq (.block 3 (.seq (r_ [m_ 40 38,m_ 6 40] [39,40]) (r_ [m_ 41 3,m_ 42 0,n_ 43 42,f_ 44 43 0,f_ 45 44 35,l_ 46 45,m_ 47 6,o_ 48 (.bin 0 .mul (Z_ 8) (.t 47)),o_ 49 (.bin 0 .sub (Z_ 24) (.t 48)),b_ 50 .shr 46 49,o_ 51 (.cvt 1 .u8 (.t 50)),o_ 52 (.bslice 16 [.t 51]),o_ 53 (.app 17 1 1 (.t 41) (.t 52)),m_ 3 53] [6,41,42,43,44,45,46,47,48,49,50,51,52,53]))) (r_ [a_ 54 38 1,m_ 38 54] [54])))
def r17_3:IR:=
 .seq (r_ [m_ 55 3,m_ 2 55] [0,3,37,38,55]) (.ret)
def r17_4:IR:=
 r_ [a_ 56 15 1,m_ 15 56] [2,4,36,56]
def b17_1:IR:=
 .seq (r_ [c_ 16 .lss 15 5] []) (.seq (.cond (.t 16) (.skip) (.exit 0)) (.seq (.block 1 (.seq (r_ [m_ 17 15,m_ 4 17] [16,17]) (.seq (r_ [m_ 18 4,o_ 19 (.bin 0 .mul (Z_ 8) (.t 18)),o_ 20 (.bin 0 .sub (Z_ 32) (.t 19)),o_ 21 (.cvt 0 .u64 (.t 20)),m_ 5 21] [18,19,20,21]) (.seq (R_ [m_ 22 0,n_ 23 22,f_ 24 23 0,f_ 25 24 35,l_ 26 25,m_ 27 5,b_ 28 .shr 26 27,m_ 29 5,b_ 30 .shl 28 29,m_ 31 0,n_ 32 31,f_ 33 32 0,f_ 34 33 34,l_ 35 34,b_ 36 .geq 30 35] [5,22,23,24,25,26,27,28,29,30,31,32,33,34,35]) (.cond (.t 36) (.seq (.seq (r_ [m_ 37 4,z_ 38 0] [4,15,36]) (.block 2 (.loop b17_2))) (r17_3)) (.skip)))))) (r17_4)))
def r17_5:IR:=
 .seq (r_ [m_ 57 3,m_ 2 57] [0,3,15,57]) (.ret)
def ir17:IR:=
 .seq (r_ [o_ 2 (.mov (.k nilSV))] [2]) (.seq (.seq (r_ [m_ 7 0,o_ 8 (.call (some 4) 10 44 [.t 7])] [7]) (.cond (.t 8) (.seq (r_ [o_ 2 (.mov (.k nilSV))] [0,8]) (.ret)) (.skip))) (.seq (r_ [o_ 9 (.bslice 14 []),m_ 10 0,n_ 11 10,f_ 12 11 36,l_ 13 12,o_ 14 (.app 15 1 1 (.t 9) (.t 13)),m_ 3 14] [2,8,9,10,11,12,13,14]) (.seq (.seq (r_ [z_ 15 0] []) (.block 0 (.loop b17_1))) (r17_5))))
def kp17_2:List Nat:=[0,3,37,38]
def kl17_2:List Nat:=[16,17]
attribute [push_cast] kp17_2 kl17_2
def kp17_1:List Nat:=[0,3,15]
def kl17_1:List Nat:=[16,17]
attribute [push_cast] kp17_1 kl17_1
set_option maxRecDepth 4000 in
theorem comp17:(Tryz.f17.body.bind fun c=>compC tab isP chkAll ir17 c)=some ir17:=by kernel_rfl
structure MdA where
 L:Xf.Loc
 kind:Int
 st:List Int
def mdM (a:MdA):Mem:=[some (.ro,a.L,.ints .i64 a.st)]
def invMd:List SV->Look->Option (MdA×List Nat)
 | .agg [.int .i64 kind,.sl c _ 1 0 _]::_,look=>match rowI (look c)with
  | some (L,.i64,st)=>some (⟨L,kind,st⟩,[c])
  | _=>none
 | _,_=>none
attribute [push_cast] invMd
def mdOk (kind:Int) (st:List Int):Prop:=stsOk kind st/\st.length<=8192
def fs49:FS where
 A:=MdA
 args:=fun a=>[.agg [.int .i64 a.kind,.sl 0 a.L 1 0 a.st.length]]
 mem:=mdM
 pre:=fun a=>a.st.length<=1000000
 res:=fun a x=>.agg [.int .i64 a.kind,.sl 1 (x 0) 1 0 a.st.length]
 out:=fun _ _=>[]
 new:=fun a x=>[(x 0,.ints .i64 a.st)]
theorem ok49:FSOk Tryz.prog 49 fs49:=by
 refine⟨⟨_,Tryz.func49,by kernel_rfl,by kernel_rfl⟩,fun a=>⟨by simp[fs49,mdM,push_cast,noMine,argOwn,Chunk.frArg],by simp[fs49,mdM,push_cast,outOk,Chunk.ext],fun x=>.inl (by simp[fs49,mdM,push_cast,frNew,frOut,Chunk.fr])⟩,fun a hp=>?_⟩
 obtain⟨L,kind,st⟩:=a
 have hp:st.length<=1000000:=hp
 change Tri Tryz.prog 49 [.agg [.int .i64 kind,.sl 0 L 1 0 st.length]] [some (.ro,L,.ints .i64 st)] (postF fs49 ⟨L,kind,st⟩)
 refine tri_evS (hyp (l:=[]) (lp:=[]) trivial trivial) Tryz.func49 comp49 (rs:=[.cell 2 (some 2)]) (by rfl) Tryz.ntmps49 14 ?_
 simp -implicitDefEqProofs only[push_cast,zz,seval,ir49]
 intro X X1
 repeat refine om_ ?_
 refine postF.mk' (fun _=>X1 5 13) [some 0,some 13] ?_
 simp -implicitDefEqProofs only[push_cast,zz,seval,fs49,mdM]
def ent49:Entry:=spOf fs49 invMd
theorem e49:EntryOk Tryz.prog 49 ent49:=entry_of ok49 invMd
@[push_cast] theorem ent49_app (us:List SV) (look:Look) (x:Nat->Xf.Loc) (k:Nat):ent49 us look x k=spOf fs49 invMd us look x k:=rfl
def fs35:FS where
 A:=MdA
 args:=fun a=>[.agg [.int .i64 a.kind,.sl 0 a.L 1 0 a.st.length]]
 mem:=mdM
 pre:=fun a=>mdOk a.kind a.st
 res:=fun a _=>.bool true
 out:=fun _ _=>[]
 new:=fun _ _=>[]
theorem ok35:FSOk Tryz.prog 35 fs35:=by
 refine⟨⟨_,Tryz.func35,by kernel_rfl,by kernel_rfl⟩,fun a=>⟨by simp[fs35,mdM,push_cast,noMine,argOwn,Chunk.frArg],by simp[fs35,mdM,push_cast,outOk,Chunk.ext],fun x=>.inl (by simp[fs35,mdM,push_cast,frNew,frOut,Chunk.fr])⟩,fun a hp=>?_⟩
 obtain⟨L,kind,st⟩:=a
 obtain⟨⟨h1,h2⟩,h3⟩:((kind=0∨kind=1)/\∀ s∈st,sttOk kind s)/\st.length<=8192:=hp
 change Tri Tryz.prog 35 [.agg [.int .i64 kind,.sl 0 L 1 0 st.length]] [some (.ro,L,.ints .i64 st)] (postF fs35 ⟨L,kind,st⟩)
 refine tri_evS (hyp (l:=[]) (lp:=[]) trivial trivial) Tryz.func35 comp35 (rs:=[.tmp 2]) (by rfl) Tryz.ntmps35 11 ?_
 have c1:¬ (¬ kind=0/\¬ kind=1):=by omega
 have c2:¬ (8192:Int)<st.length:=by omega
 obtain⟨e,he⟩:∃ e:Int,e=if kind=1 then 65536 else 64:=⟨_,rfl⟩
 have hall:∀ i:Nat,i<st.length->0<=rd st i/\rd st i<e:=fun i hi=>by
  rw[rd_lt st i hi]
  obtain⟨a,b,c⟩:=h2 _ (List.getElem_mem hi)
  rw[he]
  split
  ·exact⟨a,b (by assumption)⟩
  ·exact⟨a,c (by assumption)⟩
 have loop:∀ (X:Xf.Loc),evS (spList []) (spPList []) (retK [RV.tmp 2] (postF fs35 ⟨L,kind,st⟩)) [Xf.Item.code (IR.loop b35_1),Xf.Item.blk 0,Xf.Item.code r35_2] (upS (List.replicate 38 none) [(3,.int .i64 e),(24,.sl 0 L 1 0 st.length),(25,.int .i64 st.length),(26,.int .i64 0)])
   [some (.ro,L,.ints .i64 st),none,none,none,none,none,none,none,none,none,some (.mine,X,.cells [.int .i64 kind,.sl 0 L 1 0 st.length]),none]:=fun X=>by
  refine evS_loopU (A:=Nat) kp35_1 kl35_1 (fun i=>[(26,.int .i64 i)]) (fun i=>[]) (fun i=>i<=st.length) (fun i=>st.length-i) 0 (Nat.zero_le _) (Sub.pt ?_) ?_
  ·simp -implicitDefEqProofs only[push_cast,zz,seval]
  intro i hi K hK
  have hi:i<=st.length:=hi
  by_cases hi':i<st.length
  ·obtain⟨a1,a2⟩:=hall i hi'
   have hii:(i:Int)<st.length:=by omega
   obtain⟨s,hs⟩:∃ s,rd st i=s:=⟨_,rfl⟩
   rw[hs]at a1 a2
   have a3:¬ s<0:=by omega
   have a4:¬ e<=s:=by omega
   simp -implicitDefEqProofs only[push_cast,zz,seval,b35_1,hs,hii,a3,a4]
   repeat refine om_ ?_
   refine hK (i+1) (show i+1<=st.length by omega) (show st.length-(i+1)<st.length-i by omega) _ _ (Sub.pt ?_)
   simp -implicitDefEqProofs only[push_cast,zz,seval]
  ·obtain rfl:i=st.length:=by omega
   clear hK
   simp -implicitDefEqProofs only[push_cast,zz,seval,b35_1,r35_2,Int.lt_irrefl]
   refine postF.mk' (fun _=>default) [some 0] ?_
   simp -implicitDefEqProofs only[push_cast,zz,seval,fs35,mdM]
 rcases h1 with rfl | rfl
 ·rw[if_neg (by decide)]at he
  subst he
  simp -implicitDefEqProofs only[push_cast,zz,seval,ir35,c1,c2]
  intro X
  first | exact⟨fun h=>absurd h (by decide),fun _=>loop _⟩ | exact loop _
 ·rw[if_pos rfl]at he
  subst he
  simp -implicitDefEqProofs only[push_cast,zz,seval,ir35,c1,c2]
  intro X
  exact loop _
def ent35:Entry:=spOf fs35 invMd
theorem e35:EntryOk Tryz.prog 35 ent35:=entry_of ok35 invMd
@[push_cast] theorem ent35_app (us:List SV) (look:Look) (x:Nat->Xf.Loc) (k:Nat):ent35 us look x k=spOf fs35 invMd us look x k:=rfl
def fs36:FS where
 A:=MdA
 args:=fun a=>[.agg [.int .i64 a.kind,.sl 0 a.L 1 0 a.st.length]]
 mem:=mdM
 pre:=fun a=>a.st.length<=1000000
 res:=fun a x=>.agg (ivV a.kind (x 0) a.st.length 0 4294967295 [])
 out:=fun _ _=>[]
 new:=fun a x=>[(x 0,.ints .i64 a.st)]
set_option maxRecDepth 8000 in
theorem ok36:FSOk Tryz.prog 36 fs36:=by
 refine⟨⟨_,Tryz.func36,by kernel_rfl,by kernel_rfl⟩,fun a=>⟨by simp[fs36,mdM,push_cast,noMine,argOwn,Chunk.frArg],by simp[fs36,mdM,push_cast,outOk,Chunk.ext],fun x=>.inl (by simp[fs36,mdM,push_cast,frNew,frOut,Chunk.fr])⟩,fun a hp=>?_⟩
 obtain⟨L,kind,st⟩:=a
 have hp:st.length<=1000000:=hp
 change Tri Tryz.prog 36 [.agg [.int .i64 kind,.sl 0 L 1 0 st.length]] [some (.ro,L,.ints .i64 st)] (postF fs36 ⟨L,kind,st⟩)
 refine tri_evS (hyp (l:=[(49,ent49)]) (lp:=[(78,chancesF)]) ⟨e49,trivial⟩ ⟨p78,trivial⟩) Tryz.func36 comp36 (rs:=[.cell 2 (some 36)]) (by rfl) Tryz.ntmps36 16 ?_
 simp -implicitDefEqProofs only[push_cast,zz,seval,ir36,fs49,mdM,qsV]
 intro X X1
 repeat refine om_ ?_
 refine postF.mk' (fun _=>X1 1 12) [some 0,some 12] ?_
 simp -implicitDefEqProofs only[push_cast,zz,seval,fs36,mdM,ivV,qsV]
def ent36:Entry:=spOf fs36 invMd
theorem e36:EntryOk Tryz.prog 36 ent36:=entry_of ok36 invMd
@[push_cast] theorem ent36_app (us:List SV) (look:Look) (x:Nat->Xf.Loc) (k:Nat):ent36 us look x k=spOf fs36 invMd us look x k:=rfl
def newEn (kind:Int) (st:List Int):EnS:=⟨kind,st,0,4294967295,[]⟩
def fs12:FS where
 A:=MdA
 args:=fun a=>[.agg [.int .i64 a.kind,.sl 0 a.L 1 0 a.st.length]]
 mem:=mdM
 pre:=fun a=>mdOk a.kind a.st
 res:=fun a x=>.tup [.ptr 2 (x 1) 0 0 0,.int .i64 0]
 out:=fun _ _=>[]
 new:=fun a x=>[(x 0,.ints .i64 a.st),(x 1,.cells (enV (x 0) (newEn a.kind a.st) 4096 nilLoc))]
set_option maxRecDepth 8000 in
theorem ok12:FSOk Tryz.prog 12 fs12:=by
 refine⟨⟨_,Tryz.func12,by kernel_rfl,by kernel_rfl⟩,fun a=>⟨by simp[fs12,mdM,push_cast,noMine,argOwn,Chunk.frArg],by simp[fs12,mdM,push_cast,outOk,Chunk.ext],fun x=>.inl (by simp[fs12,mdM,push_cast,frNew,frOut,Chunk.fr])⟩,fun a hp=>?_⟩
 obtain⟨L,kind,st⟩:=a
 have hp':mdOk kind st:=hp
 have hl:st.length<=1000000:=by have:=hp'.2;omega
 change Tri Tryz.prog 12 [.agg [.int .i64 kind,.sl 0 L 1 0 st.length]] [some (.ro,L,.ints .i64 st)] (postF fs12 ⟨L,kind,st⟩)
 refine tri_evS (hyp (l:=[(35,ent35),(36,ent36)]) (lp:=[]) ⟨e35,e36,trivial⟩ trivial) Tryz.func12 comp12 (rs:=[.tmp 2,.tmp 3]) (by rfl) Tryz.ntmps12 20 ?_
 simp -implicitDefEqProofs only[push_cast,zz,seval,ir12,fs35,fs36,mdM,ivV,qsV,hp',hl]
 intro X
 repeat refine om_ ?_
 intro X1
 repeat refine om_ ?_
 refine postF.mk' (fun j=>if j=0 then X1 1 15 else X1 3 19) [some 0,some 15,some 19] ?_
 simp -implicitDefEqProofs only[push_cast,zz,seval,fs12,mdM,enV,ivV,qsV,newEn]
def ent12:Entry:=spOf fs12 invMd
theorem e12:EntryOk Tryz.prog 12 ent12:=entry_of ok12 invMd
@[push_cast] theorem ent12_app (us:List SV) (look:Look) (x:Nat->Xf.Loc) (k:Nat):ent12 us look x k=spOf fs12 invMd us look x k:=rfl
def fs16:FS where
 A:=EnA
 args:=fun a=>[.ptr 0 a.L 0 0 0]
 mem:=enM
 pre:=fun a=>a.e.st.length<=1000000
 res:=fun a x=>.agg [.int .i64 a.e.kind,.sl 3 (x 0) 1 0 a.e.st.length]
 out:=fun _ _=>[]
 new:=fun a x=>[(x 0,.ints .i64 a.e.st)]
theorem ok16:FSOk Tryz.prog 16 fs16:=by
 refine⟨⟨_,Tryz.func16,by kernel_rfl,by kernel_rfl⟩,fun a=>⟨by simp[fs16,enM,push_cast,noMine,argOwn,Chunk.frArg],by simp[fs16,enM,push_cast,outOk,Chunk.ext],fun x=>.inl (by simp[fs16,enM,push_cast,frNew,frOut,Chunk.fr])⟩,fun a hp=>?_⟩
 obtain⟨L,LS,LO,⟨kind,st,low,high,out⟩,ctx,bit⟩:=a
 have hl:st.length<=1000000:=hp
 change Tri Tryz.prog 16 [.ptr 0 L 0 0 0] (enM ⟨L,LS,LO,⟨kind,st,low,high,out⟩,ctx,bit⟩) (postF fs16 ⟨L,LS,LO,⟨kind,st,low,high,out⟩,ctx,bit⟩)
 refine tri_evS (hyp (l:=[(44,ent44),(49,ent49)]) (lp:=[]) ⟨e44,e49,trivial⟩ trivial) Tryz.func16 comp16 (rs:=[.cell 2 (some 2)]) (by rfl) Tryz.ntmps16 19 ?_
 simp -implicitDefEqProofs only[push_cast,zz,seval,ir16,enM,enV,ivV,fs44,fs49,mdM,hl]
 intro X
 repeat refine om_ ?_
 intro X1
 repeat refine om_ ?_
 refine postF.mk' (fun j=>X1 5 15) [some 0,some 1,some 2,some 15] ?_
 simp -implicitDefEqProofs only[push_cast,zz,seval,fs16,enM,enV,ivV]
def ent16:Entry:=spOf fs16 invEn
theorem e16:EntryOk Tryz.prog 16 ent16:=entry_of ok16 invEn
@[push_cast] theorem ent16_app (us:List SV) (look:Look) (x:Nat->Xf.Loc) (k:Nat):ent16 us look x k=spOf fs16 invEn us look x k:=rfl
def cutP (g:Int) (n:Nat):Int:=g / 2^(32-8*(n:Int)).toNat*2^(32-8*(n:Int)).toNat
theorem pow_pos' (k:Nat):(0:Int)<2^k:=Int.pow_pos (by decide)
theorem cutP_bd {g:Int} (h:0<=g) (n:Nat):0<=cutP g n/\cutP g n<=g:=by
 have hp:=pow_pos' (32-8*(n:Int)).toNat
 exact⟨Int.mul_nonneg (Int.ediv_nonneg h (Int.le_of_lt hp)) (Int.le_of_lt hp),Int.ediv_mul_le g (Int.ne_of_gt hp)⟩
def bytP (g:Int) (i:Nat):Int:=IntKind.u8.wrap (g / 2^(24-8*(i:Int)).toNat)
def endN (l g:Int):Nat:=if l<=cutP g 0 then 0 else if l<=cutP g 1 then 1 else if l<=cutP g 2 then 2 else if l<=cutP g 3 then 3 else 4
theorem endN_eq {l g:Int} {n:Nat} (hn:n<=4) (h:∀ m,m<n->¬ l<=cutP g m) (hc:n<4->l<=cutP g n):endN l g=n:=by
 have hn5:n=0∨n=1∨n=2∨n=3∨n=4:=by omega
 unfold endN
 rcases hn5 with rfl | rfl | rfl | rfl | rfl
 ·rw[if_pos (hc (by decide))]
 ·rw[if_neg (h 0 (by decide)),if_pos (hc (by decide))]
 ·rw[if_neg (h 0 (by decide)),if_neg (h 1 (by decide)),if_pos (hc (by decide))]
 ·rw[if_neg (h 0 (by decide)),if_neg (h 1 (by decide)),if_neg (h 2 (by decide)),if_pos (hc (by decide))]
 ·rw[if_neg (h 0 (by decide)),if_neg (h 1 (by decide)),if_neg (h 2 (by decide)),if_neg (h 3 (by decide))]
theorem cutP_4 (g:Int):cutP g 4=g:=by
 have e:(32-8*((4:Nat):Int)).toNat=0:=rfl
 unfold cutP
 rw[e]
 omega
def endP (l g:Int):List Int:=(List.range (endN l g)).map (bytP g)
def encEnd (e:EnS):List Int:=e.out++endP e.low e.high
def fs17:FS where
 A:=EnA
 args:=fun a=>[.ptr 0 a.L 0 0 0]
 mem:=enM
 pre:=fun a=>a.e.ok/\a.e.out.length<=200000000
 res:=fun a x=>.sl 3 (x 0) 1 0 (encEnd a.e).length
 out:=fun _ _=>[]
 new:=fun a x=>[(x 0,.ints .u8 (encEnd a.e))]
set_option maxHeartbeats 1000000 in
theorem ok17:FSOk Tryz.prog 17 fs17:=by
 refine⟨⟨_,Tryz.func17,by kernel_rfl,by kernel_rfl⟩,fun a=>⟨by simp[fs17,enM,push_cast,noMine,argOwn,Chunk.frArg],by simp[fs17,enM,push_cast,outOk,Chunk.ext],fun x=>.inl (by simp[fs17,enM,push_cast,frNew,frOut,Chunk.fr])⟩,fun a hp=>?_⟩
 obtain⟨L,LS,LO,⟨kind,st,low,high,out⟩,ctx,bit⟩:=a
 obtain⟨⟨h1,h2,h3,h4,h5,h6⟩,h7⟩:ivOk2 kind st low high/\out.length<=200000000:=hp
 change Tri Tryz.prog 17 [.ptr 0 L 0 0 0] (enM ⟨L,LS,LO,⟨kind,st,low,high,out⟩,ctx,bit⟩) (postF fs17 ⟨L,LS,LO,⟨kind,st,low,high,out⟩,ctx,bit⟩)
 refine tri_evS (hyp (l:=[(44,ent44)]) (lp:=[]) ⟨e44,trivial⟩ trivial) Tryz.func17 comp17 (rs:=[.tmp 2]) (by rfl) Tryz.ntmps17 18 ?_
 simp -implicitDefEqProofs only[push_cast,zz,seval,ir17,enM,enV,ivV,fs44]
 intro X
 repeat refine om_ ?_
 have hb64:=bits64
 obtain⟨M,hM⟩:∃ M,X 5 15=M:=⟨_,rfl⟩
 rw[hM]
 refine evS_loopU (A:=Nat) kp17_1 kl17_1 (fun n=>[(15,.int .i64 n)]) (fun n=>[]) (fun n=>n<=4/\∀ m,m<n->¬ low<=cutP high m) (fun n=>5-n) 0 ⟨by omega,fun m hm=>by omega⟩ (Sub.pt ?_) ?_
 ·simp -implicitDefEqProofs only[push_cast,zz,seval]
 intro n ⟨(hn:n<=4),(hm:∀ m,m<n->¬ low<=cutP high m)⟩ K hK
 have hn5:(n:Int)<5:=by omega
 have hc:=cutP_bd (g:=high) (by omega) n
 have hq0:0<=high / 2^(32-8*(n:Int)).toNat:=Int.ediv_nonneg (by omega) (Int.le_of_lt (pow_pos' _))
 have hq1:high / 2^(32-8*(n:Int)).toNat*2^(32-8*(n:Int)).toNat=cutP high n:=rfl
 by_cases hlow:low<=cutP high n
 ·clear hK
  have he:endN low high=n:=endN_eq hn hm fun _=>hlow
  simp -implicitDefEqProofs only[push_cast,zz,seval,b17_1,hn5,hq1,hlow]
  repeat refine om_ ?_
  have hlen:∀ i:Nat,(((out++(List.range i).map (bytP high)).length:Nat):Int)=out.length+i:=fun i=>by rw[List.length_append,List.length_map,List.length_range];omega
  refine evS_loopU (A:=Nat×Xf.Loc) kp17_2 kl17_2 (fun y=>[(3,.sl 15 y.2 1 0 (out.length+y.1)),(38,.int .i64 y.1)]) (fun y=>[(15,.mine,y.2,.ints .u8 (out++(List.range y.1).map (bytP high)))])
   (fun y=>y.1<=n) (fun y=>n-y.1) (0,M) (Nat.zero_le _) (Sub.pt ?_) ?_
  ·simp -implicitDefEqProofs only[push_cast,zz,seval,List.range_zero]
  intro ⟨i,N⟩ hi K hK
  have hi:i<=n:=hi
  by_cases hi':i<n
  ·have hii:(i:Int)<n:=by omega
   have hb:IntKind.u8.wrap (high / 2^(24-8*(i:Int)).toNat)=bytP high i:=rfl
   have ha:(out++(List.range i).map (bytP high))++[bytP high i]=out++(List.range (i+1)).map (bytP high):=by rw[List.range_succ,List.map_append,List.append_assoc];rfl
   have hl:=hlen i
   obtain⟨o,ho⟩:∃ o,out++(List.range i).map (bytP high)=o:=⟨_,rfl⟩
   rw[ho]at ha hl
   have hl2:(out.length:Int)+i=o.length:=hl.symm
   simp -implicitDefEqProofs only[push_cast,zz,seval,b17_2,hii,hb,ho,hl2]
   intro X2
   repeat refine om_ ?_
   refine hK (i+1,X2 12 17) (show i+1<=n by omega) (show n-(i+1)<n-i by omega) _ _ (Sub.of (mkG 24 [(0,0),(1,1),(2,2),(15,17)]) ?_)
   have hl3:(out.length:Int)+((i:Int)+1)=o.length+1:=by omega
   simp -implicitDefEqProofs only[push_cast,zz,seval,ha,hl3]
  ·obtain rfl:i=n:=by omega
   clear hK
   have hf:out++(List.range i).map (bytP high)=encEnd ⟨kind,st,low,high,out⟩:=by unfold encEnd endP;rw[he]
   have hl:=hlen i
   rw[hf]at hl
   simp -implicitDefEqProofs only[push_cast,zz,seval,b17_2,r17_3,Int.lt_irrefl,hf]
   refine postF.mk' (fun _=>N) [some 0,some 1,some 2,some 15] ?_
   simp -implicitDefEqProofs only[push_cast,zz,seval,fs17,enM,enV,ivV,hl]
 ·have hn4:n<4:=by
   rcases Nat.lt_or_ge n 4 with h | h
   ·exact h
   ·have:n=4:=by omega
    subst this
    rw[cutP_4]at hlow
    omega
  simp -implicitDefEqProofs only[push_cast,zz,seval,b17_1,hn5,hq1,hlow,r17_4]
  repeat refine om_ ?_
  refine hK (n+1) ⟨by omega,fun m hm'=>?_⟩ (show 5-(n+1)<5-n by omega) _ _ (Sub.pt ?_)
  ·by_cases e:m=n
   ·rw[e];exact hlow
   ·exact hm m (by omega)
  ·simp -implicitDefEqProofs only[push_cast,zz,seval]
def ent17:Entry:=spOf fs17 invEn
theorem e17:EntryOk Tryz.prog 17 ent17:=entry_of ok17 invEn
@[push_cast] theorem ent17_app (us:List SV) (look:Look) (x:Nat->Xf.Loc) (k:Nat):ent17 us look x k=spOf fs17 invEn us look x k:=rfl
def ir91:IR:=
 .seq (r_ [o_ 2 (.mov (.k (.int .u8 0)))] []) (.seq (.seq (R_ [m_ 3 0,n_ 4 3,f_ 5 4 37,l_ 6 5,m_ 7 0,n_ 8 7,f_ 9 8 36,l_ 10 9,h_ 11 10,b_ 12 .lss 6 11] [3,4,5,6,7,8,9,10,11]) (.cond (.t 12) (R_ [m_ 13 0,n_ 14 13,f_ 15 14 36,l_ 16 15,m_ 17 0,n_ 18 17,f_ 19 18 37,l_ 20 19,i_ 21 16 20 1,L_ 22 21,m_ 2 22] [12,13,14,15,16,17,18,19,20,21,22]) (r_ [m_ 23 0,n_ 24 23,f_ 25 24 39,l_ 26 25,a_ 27 26 1,n_ 28 23,f_ 29 28 39,s_ 1 .i64 29 27] [12,23,24,25,26,27,28,29]))) (.seq (r_ [m_ 30 0,n_ 31 30,f_ 32 31 37,l_ 33 32,a_ 34 33 1,n_ 35 30,f_ 36 35 37,s_ 1 .i64 36 34] [30,31,32,33,34,35,36]) (r_ [m_ 37 0,m_ 38 0,n_ 39 38,f_ 40 39 38,l_ 41 40,o_ 42 (.bin 0 .shl (.t 41) (.k (.int .u64 8))),o_ 43 (.bin 0 .and (.t 42) (.k (.int .u64 4294967295))),m_ 44 2,o_ 45 (.cvt 0 .u64 (.t 44)),b_ 46 .or 43 45,n_ 47 37,f_ 48 47 38,s_ 1 .i64 48 46] [0,2,37,38,39,40,41,42,43,44,45,46,47,48])))
set_option maxRecDepth 4000 in
theorem comp91:(Tryz.f91.body.bind fun c=>compC tab isP chkAll ir91 c)=some ir91:=by kernel_rfl
def ir92:IR:=
 .seq (r_ [o_ 2 (.mov (.k (.bool false)))] [2]) (.seq (r_ [m_ 3 0,o_ 4 (.binN .eql (.t 3) (.k nilP)),m_ 5 4,q_ 5 (m_ 6 0),q_ 5 (n_ 7 6),q_ 5 (f_ 8 7 41),q_ 5 (l_ 9 8),q_ 5 (o_ 10 (.not (.t 9))),k_ 11 5 10,m_ 2 11] [0,3,4,5,6,7,8,9,10,11]) (.ret))
set_option maxRecDepth 4000 in
theorem comp92:(Tryz.f92.body.bind fun c=>compC tab isP chkAll ir92 c)=some ir92:=by kernel_rfl
def ir66:IR:=
 .seq (r_ [o_ 2 (.alloc 10 [y_,nilSV])] []) (.seq (.seq (r_ [m_ 3 0,o_ 4 (.call (some 4) 11 92 [.t 3])] [3]) (.cond (.t 4) (.seq (r_ [o_ 5 (.build [y_,nilSV] []),s_ 2 .i64 2 5] [0,4,5]) (.ret)) (.skip))) (.seq (r_ [m_ 6 0,n_ 7 6,f_ 8 7 0,f_ 9 8 0,o_ 10 (.ld false (some 2) 0 0 (.t 9)),o_ 11 (.call (some 4) 15 49 [.t 10]),s_ 2 .i64 2 11] [0,4,6,7,8,9,10,11]) (.ret)))
set_option maxRecDepth 4000 in
theorem comp66:(Tryz.f66.body.bind fun c=>compC tab isP chkAll ir66 c)=some ir66:=by kernel_rfl
theorem setL_at (v:SV):∀ (p:List SV) (a:SV) (z:List SV),setL (p++a::z) p.length v=p++v::z
 | [],a,z=>rfl
 | b::p,a,z=>by simp only[List.cons_append,List.length_cons,setL];rw[setL_at v p a z]
theorem setsL_at:∀ (vs p z:List SV),z.length=vs.length->setsL (p++z) p.length vs=p++vs
 | [],p,[],_=>by simp[setsL]
 | [],p,_::_,h=>by simp at h
 | v::vs,p,[],h=>by simp at h
 | v::vs,p,a::z,h=>by
  rw[setsL,setL_at]
  have:=setsL_at vs (p++[v]) z (by simpa using h)
  simpa using this
theorem takeL_app:∀ (q r:List SV) (n:Nat),takeL (q++r) (q.length+n)=match takeL r n with | none=>none | some l=>some (q++l)
 | [],r,n=>by
  simp only[List.nil_append,List.length_nil,Nat.zero_add]
  cases takeL r n<;>rfl
 | a::q,r,n=>by
  rw[List.cons_append,List.length_cons,Nat.add_right_comm,takeL,takeL_app q r n]
  cases takeL r n<;>rfl
@[push_cast] theorem tq40 (r:List SV):takeL (qsV++r) 40=match takeL r 8 with | none=>none | some l=>some (qsV++l):=takeL_app qsV r 8
@[push_cast] theorem allq (r:List SV):(qsV++r).all size1=r.all size1:=by rw[List.all_append];rfl
@[push_cast] theorem lenq (r:List SV):(qsV++r).length=r.length+32:=by rw[List.length_append,qsV_len];omega
theorem or_byte {x b:Int} (h0:0<=x) (h1:x<18446744073709551616) (h2:x % 256=0) (b0:0<=b) (b1:b<256):bitop .or .u64 x b=x+b:=by
 obtain⟨k,rfl⟩:∃ k:Nat,x=k:=⟨x.toNat,by omega⟩
 obtain⟨c,rfl⟩:∃ k:Nat,b=k:=⟨b.toNat,by omega⟩
 have e:((BitVec.ofInt 64 (k:Int)) ||| (BitVec.ofInt 64 (c:Int))).toNat=k+c:=by
  rw[BitVec.toNat_or,BitVec.toNat_ofInt,BitVec.toNat_ofInt]
  rw[show(((c:Int) % ((2^64:Nat):Int)).toNat)=c by omega]
  rw[show(((k:Int) % ((2^64:Nat):Int)).toNat)=2^8*(k / 256) by omega]
  rw[<-Nat.two_pow_add_eq_or_of_lt (by omega)]
  omega
 show IntKind.u64.wrap _=_
 have e':(BitVec.toNat ((BitVec.ofInt IntKind.u64.bits (k:Int)) ||| (BitVec.ofInt IntKind.u64.bits (c:Int))))=k+c:=e
 simp only[e']
 rw[wrap64 _ (by omega)]
 omega
structure DeS where
 kind:Int
 st:List Int
 low:Int
 high:Int
 code:List Int
 at_:Int
 value:Int
 beyond:Int
 ended:Bool
def bytA (code:List Int) (i:Int):Int:=if i<code.length then rd code i else 0
def byAll (code:List Int):Prop:=∀ b∈code,0<=b/\b<256
theorem bytA_bd {code:List Int} (h:byAll code) {i:Int} (h0:0<=i):0<=bytA code i/\bytA code i<256:=by
 unfold bytA
 split
 ·obtain⟨k,rfl⟩:∃ k:Nat,i=k:=⟨i.toNat,by omega⟩
  rw[rd_lt code k (by omega)]
  exact h _ (List.getElem_mem _)
 ·omega
def beyP (code:List Int) (i:Int):Int:=max 0 (i-code.length)
def deT (d:DeS):List SV:=[.int .i64 d.at_,.int .u64 d.value,.int .i64 d.beyond,.bool d.ended,.bool true]
def deV (LS:Xf.Loc) (d:DeS) (LC:Xf.Loc):List SV:=ivV d.kind LS d.st.length d.low d.high (.sl 2 LC 1 0 d.code.length::deT d)
def inOk (code:List Int) (i v b:Int):Prop:=code.length<=140737488355328/\byAll code/\0<=i/\i<=300000000000000/\0<=v/\v<4294967296/\b=beyP code i
def shiftV (code:List Int) (i v:Int):Int:=v % 16777216*256+bytA code i
structure DeA where
 L:Xf.Loc
 LS:Xf.Loc
 LC:Xf.Loc
 d:DeS
 ctx:Int
def invDe:List SV->Look->Option (DeA×List Nat)
 | .ptr c _ 0 0 0::us,look=>match rowC (look c)with
  | some (L,.int .i64 kind::.sl d LS 1 0 _::r)=>match dropL r 32,rowI (look d)with
   | [.int .u64 low,.int .u64 high,.sl e _ 1 0 _,.int .i64 i,.int .u64 v,.int .i64 b,.bool en,.bool true],some (_,.i64,st)=>match rowO look e with
    | some (LC,code)=>match us with
     | []=>some (⟨L,LS,LC,⟨kind,st,low,high,code,i,v,b,en⟩,0⟩,[c,d,e])
     | [.int .i64 ctx]=>some (⟨L,LS,LC,⟨kind,st,low,high,code,i,v,b,en⟩,ctx⟩,[c,d,e])
     | _=>none
    | none=>none
   | _,_=>none
  | _=>none
 | _,_=>none
attribute [push_cast] invDe
def fs91:FS where
 A:=DeA
 args:=fun a=>[.ptr 0 a.L 0 0 0]
 mem:=fun a=>[some (.lent,a.L,.cells (deV a.LS a.d a.LC)),none,some (.ro,a.LC,.ints .u8 a.d.code)]
 pre:=fun a=>inOk a.d.code a.d.at_ a.d.value a.d.beyond
 res:=fun a _=>.tup []
 out:=fun a _=>[some (some (.cells (deV a.LS ⟨a.d.kind,a.d.st,a.d.low,a.d.high,a.d.code,a.d.at_+1,shiftV a.d.code a.d.at_ a.d.value,beyP a.d.code (a.d.at_+1),a.d.ended⟩ a.LC)))]
 new:=fun _ _=>[]
set_option maxHeartbeats 1000000 in
theorem ok91:FSOk Tryz.prog 91 fs91:=by
 refine⟨⟨_,Tryz.func91,by kernel_rfl,by kernel_rfl⟩,fun a=>⟨by simp[fs91,deV,deT,ivV,push_cast,noMine,argOwn,Chunk.frArg],by simp[fs91,deV,deT,ivV,push_cast,outOk,Chunk.ext],fun x=>.inl (by simp[fs91,deV,deT,ivV,push_cast,frNew,frOut,Chunk.fr])⟩,fun a hp=>?_⟩
 obtain⟨L,LS,LC,⟨kind,st,low,high,code,i,v,b,en⟩,ctx⟩:=a
 obtain⟨h1,h2,h3,h4,h5,h6,h7⟩:inOk code i v b:=hp
 change Tri Tryz.prog 91 [.ptr 0 L 0 0 0] [some (.lent,L,.cells (deV LS ⟨kind,st,low,high,code,i,v,b,en⟩ LC)),none,some (.ro,LC,.ints .u8 code)] (postF fs91 ⟨L,LS,LC,⟨kind,st,low,high,code,i,v,b,en⟩,ctx⟩)
 refine tri_evS (hyp (l:=[]) (lp:=[]) trivial trivial) Tryz.func91 comp91 (rs:=[]) (by rfl) Tryz.ntmps91 10 ?_
 have hb64:=bits64
 have e1:=and_top (x:=v*256) (by omega) (by omega)
 have e4:v*256 % 4294967296=v % 16777216*256:=by omega
 rw[e4]at e1
 have hby:=bytA_bd h2 h3
 have e2:=or_byte (x:=v % 16777216*256) (b:=bytA code i) (by omega) (by omega) (by omega) hby.1 hby.2
 by_cases hi:i<code.length
 ·have eb:rd code i=bytA code i:=by unfold bytA;rw[if_pos hi]
  have ec:b=beyP code (i+1):=by rw[h7];unfold beyP;omega
  obtain⟨y,hy⟩:∃ y,bytA code i=y:=⟨_,rfl⟩
  rw[hy]at hby e2 eb
  simp -implicitDefEqProofs only[push_cast,zz,seval,ir91,deV,deT,ivV,hi,eb,pw8,e1,e2]
  repeat refine om_ ?_
  refine postF.mk' (fun _=>default) [some 0,none,some 2] ?_
  simp -implicitDefEqProofs only[push_cast,zz,seval,fs91,deV,deT,ivV,shiftV,hy,<-ec]
 ·have eb:(0:Int)=bytA code i:=by unfold bytA;rw[if_neg hi]
  have ec:b+1=beyP code (i+1):=by rw[h7];unfold beyP;omega
  rw[<-eb]at hby e2
  have hbb:0<=b/\b<=300000000000000:=by rw[h7];unfold beyP;omega
  simp -implicitDefEqProofs only[push_cast,zz,seval,ir91,deV,deT,ivV,hi,pw8,e1,e2]
  repeat refine om_ ?_
  refine postF.mk' (fun _=>default) [some 0,none,some 2] ?_
  simp -implicitDefEqProofs only[push_cast,zz,seval,fs91,deV,deT,ivV,shiftV,<-eb,<-ec]
def ent91:Entry:=spOf fs91 invDe
theorem e91:EntryOk Tryz.prog 91 ent91:=entry_of ok91 invDe
@[push_cast] theorem ent91_app (us:List SV) (look:Look) (x:Nat->Xf.Loc) (k:Nat):ent91 us look x k=spOf fs91 invDe us look x k:=rfl
def deM (a:DeA):Mem:=[some (.ro,a.L,.cells (deV a.LS a.d a.LC)),some (.ro,a.LS,.ints .i64 a.d.st),some (.ro,a.LC,.ints .u8 a.d.code)]
def fs92:FS where
 A:=DeA
 args:=fun a=>[.ptr 0 a.L 0 0 0]
 mem:=deM
 pre:=fun a=>True
 res:=fun a _=>.bool false
 out:=fun _ _=>[]
 new:=fun _ _=>[]
theorem ok92:FSOk Tryz.prog 92 fs92:=by
 refine⟨⟨_,Tryz.func92,by kernel_rfl,by kernel_rfl⟩,fun a=>⟨by simp[fs92,deM,push_cast,noMine,argOwn,Chunk.frArg],by simp[fs92,deM,push_cast,outOk,Chunk.ext],fun x=>.inl (by simp[fs92,deM,push_cast,frNew,frOut,Chunk.fr])⟩,fun a hp=>?_⟩
 obtain⟨L,LS,LC,⟨kind,st,low,high,code,i,v,b,en⟩,ctx⟩:=a
 change Tri Tryz.prog 92 [.ptr 0 L 0 0 0] (deM ⟨L,LS,LC,⟨kind,st,low,high,code,i,v,b,en⟩,ctx⟩) (postF fs92 ⟨L,LS,LC,⟨kind,st,low,high,code,i,v,b,en⟩,ctx⟩)
 refine tri_evS (hyp (l:=[]) (lp:=[]) trivial trivial) Tryz.func92 comp92 (rs:=[.tmp 2]) (by rfl) Tryz.ntmps92 10 ?_
 simp -implicitDefEqProofs only[push_cast,zz,seval,ir92,deM,deV,deT,ivV]
 repeat refine om_ ?_
 refine postF.mk' (fun _=>default) [some 0,some 1,some 2] ?_
 simp -implicitDefEqProofs only[push_cast,zz,seval,fs92,deM,deV,deT,ivV]
def ent92:Entry:=spOf fs92 invDe
theorem e92:EntryOk Tryz.prog 92 ent92:=entry_of ok92 invDe
@[push_cast] theorem ent92_app (us:List SV) (look:Look) (x:Nat->Xf.Loc) (k:Nat):ent92 us look x k=spOf fs92 invDe us look x k:=rfl
def fs66:FS where
 A:=DeA
 args:=fun a=>[.ptr 0 a.L 0 0 0]
 mem:=deM
 pre:=fun a=>a.d.st.length<=1000000
 res:=fun a x=>.agg [.int .i64 a.d.kind,.sl 3 (x 0) 1 0 a.d.st.length]
 out:=fun _ _=>[]
 new:=fun a x=>[(x 0,.ints .i64 a.d.st)]
theorem ok66:FSOk Tryz.prog 66 fs66:=by
 refine⟨⟨_,Tryz.func66,by kernel_rfl,by kernel_rfl⟩,fun a=>⟨by simp[fs66,deM,push_cast,noMine,argOwn,Chunk.frArg],by simp[fs66,deM,push_cast,outOk,Chunk.ext],fun x=>.inl (by simp[fs66,deM,push_cast,frNew,frOut,Chunk.fr])⟩,fun a hp=>?_⟩
 obtain⟨L,LS,LC,⟨kind,st,low,high,code,i,v,b,en⟩,ctx⟩:=a
 have hl:st.length<=1000000:=hp
 change Tri Tryz.prog 66 [.ptr 0 L 0 0 0] (deM ⟨L,LS,LC,⟨kind,st,low,high,code,i,v,b,en⟩,ctx⟩) (postF fs66 ⟨L,LS,LC,⟨kind,st,low,high,code,i,v,b,en⟩,ctx⟩)
 refine tri_evS (hyp (l:=[(92,ent92),(49,ent49)]) (lp:=[]) ⟨e92,e49,trivial⟩ trivial) Tryz.func66 comp66 (rs:=[.cell 2 (some 2)]) (by rfl) Tryz.ntmps66 19 ?_
 simp -implicitDefEqProofs only[push_cast,zz,seval,ir66,deM,deV,deT,ivV,fs92,fs49,mdM,hl]
 intro X
 repeat refine om_ ?_
 intro X1
 repeat refine om_ ?_
 refine postF.mk' (fun j=>X1 5 15) [some 0,some 1,some 2,some 15] ?_
 simp -implicitDefEqProofs only[push_cast,zz,seval,fs66,deM,deV,deT,ivV]
def ent66:Entry:=spOf fs66 invDe
theorem e66:EntryOk Tryz.prog 66 ent66:=entry_of ok66 invDe
@[push_cast] theorem ent66_app (us:List SV) (look:Look) (x:Nat->Xf.Loc) (k:Nat):ent66 us look x k=spOf fs66 invDe us look x k:=rfl
def b63_1:IR:=
 .seq (r_ [c_ 18 .lss 17 4] []) (.seq (.cond (.t 18) (.skip) (.exit 0)) (.seq (.block 1 (r_ [m_ 19 6,o_ 20 (.call none 22 91 [.t 19])] [18,19,20])) (r_ [a_ 21 17 1,m_ 17 21] [21])))
def r63_2:IR:=
 .seq (r_ [m_ 22 6,m_ 4 22,z_ 5 0] [6,17,22]) (.ret)
def ir63:IR:=
 .seq (r_ [o_ 2 (.box 10 (.t 0)),o_ 4 (.mov (.k nilP)),z_ 5 0] [0,4,5]) (.seq (.seq (r_ [o_ 7 (.ld false (some 2) 0 0 (.t 2)),o_ 8 (.call (some 4) 11 35 [.t 7]),o_ 9 (.not (.t 8))] [7,8]) (.cond (.t 9) (.seq (r_ [o_ 4 (.mov (.k nilP)),z_ 5 10] [1,2,9]) (.ret)) (.skip))) (.seq (r_ [o_ 10 (.ld false (some 2) 0 0 (.t 2)),o_ 11 (.call (some 4) 15 36 [.t 10]),o_ 12 (.bslice 19 []),m_ 13 1,o_ 14 (.app 20 1 1 (.t 12) (.t 13)),o_ 15 (.build [y_,nilSV,y_,y_,y_,y_,y_,y_,y_,y_,y_,y_,y_,y_,y_,y_,y_,y_,y_,y_,y_,y_,y_,y_,y_,y_,y_,y_,y_,y_,y_,y_,y_,y_,.int .u64 0,.int .u64 0,nilSV,y_,.int .u64 0,y_,.bool false,.bool false] [(0,36,.t 11),(36,1,.t 14),(41,1,.k (.bool true))]),o_ 16 (.box 21 (.t 15)),m_ 6 16] [1,2,4,5,9,10,11,12,13,14,15,16]) (.seq (.seq (r_ [z_ 17 0] []) (.block 0 (.loop b63_1))) (r63_2))))
def kp63_1:List Nat:=[6,17]
def kl63_1:List Nat:=[22,23,24,25]
attribute [push_cast] kp63_1 kl63_1
set_option maxRecDepth 4000 in
theorem comp63:(Tryz.f63.body.bind fun c=>compC tab isP chkAll ir63 c)=some ir63:=by kernel_rfl
def b65_1:IR:=
 .seq (.seq (r_ [m_ 62 0,n_ 63 62,f_ 64 63 0,o_ 65 (.call (some 4) 23 47 [.t 64])] [62,63,64]) (.cond (.t 65) (.skip) (.exit 1))) (.block 2 (.seq (r_ [m_ 66 0,n_ 67 66,f_ 68 67 0,o_ 69 (.call none 27 48 [.t 68])] [65,66,67,68,69]) (r_ [m_ 70 0,o_ 71 (.call none 31 91 [.t 70])] [70,71])))
def r65_2:IR:=
 .seq (.seq (r_ [m_ 72 0,n_ 73 72,f_ 74 73 39,l_ 75 74,c_ 76 .gtr 75 4] [72,73,74,75]) (.cond (.t 76) (.seq (r_ [m_ 77 0,o_ 78 (.ld false (some 42) 0 0 (.t 8)),n_ 79 77,s_ 42 .i64 79 78] [6,8,76,77,78,79]) (.seq (r_ [m_ 80 0,n_ 81 80,f_ 82 81 0,f_ 83 82 0,f_ 84 83 1,l_ 85 84,m_ 86 1,m_ 87 9,i_ 88 85 86 1,S_ 1 .i64 88 87] [1,9,80,81,82,83,84,85,86,87,88]) (.seq (r_ [m_ 89 0,n_ 90 89,f_ 91 90 40,O_ (.sto false 1 .i64 (.t 91) (.k (.bool true)))] [0,89,90,91]) (.seq (r_ [z_ 4 0,z_ 5 6] []) (.ret))))) (.skip))) (.seq (r_ [m_ 92 6,m_ 4 92,z_ 5 0] [0,1,6,8,9,76,92]) (.ret))
def ir65:IR:=
 .seq (r_ [z_ 4 0,z_ 5 0] [4,5]) (.seq (.block 0 (.seq (r_ [m_ 11 0,o_ 12 (.call (some 4) 10 92 [.t 11]),m_ 10 12] [11,12]) (.cond (.t 10) (.seq (r_ [z_ 4 0,z_ 5 7] [0,1,10]) (.ret)) (.seq (r_ [m_ 14 1,c_ 15 .lss 14 0,m_ 16 15,q_ 16 (m_ 17 1),q_ 16 (m_ 18 0),q_ 16 (n_ 19 18),q_ 16 (f_ 20 19 0),q_ 16 (f_ 21 20 0),q_ 16 (f_ 22 21 1),q_ 16 (l_ 23 22),q_ 16 (h_ 24 23),q_ 16 (b_ 25 .geq 17 24),k_ 26 16 25,m_ 13 26] [10,14,15,16,17,18,19,20,21,22,23,24,25,26]) (.cond (.t 13) (.seq (r_ [z_ 4 0,z_ 5 2] [0,1,13]) (.ret)) (.seq (r_ [m_ 28 0,n_ 29 28,f_ 30 29 40,l_ 31 30,m_ 27 31] [13,28,29,30,31]) (.cond (.t 27) (.seq (r_ [z_ 4 0,z_ 5 6] [0,1,27]) (.ret)) (.skip)))))))) (.seq (r_ [m_ 32 0,n_ 33 32,f_ 34 33 0,m_ 35 1,o_ 36 (.call (some 4) 14 46 [.t 34,.t 35]),z_ 6 0,m_ 7 36] [4,5,27,32,33,34,35,36]) (.seq (.seq (r_ [m_ 37 0,n_ 38 37,f_ 39 38 38,l_ 40 39,m_ 41 7,b_ 42 .leq 40 41] [37,38,39,40,41]) (.cond (.t 42) (r_ [z_ 6 1] [42]) (.skip))) (.seq (R_ [m_ 43 0,n_ 44 43,⟨some 45,none,⟨[18],[]⟩,.ld false (some 42) 0 0 (.t 44)⟩,m_ 46 0,n_ 47 46,f_ 48 47 0,f_ 49 48 0,f_ 50 49 1,⟨some 51,none,⟨[18],[]⟩,.ld false none 0 0 (.t 50)⟩,m_ 52 1,i_ 53 51 52 1,⟨some 54,none,⟨[18],[]⟩,.ld true none 0 0 (.t 53)⟩,o_ 8 (.alloc 18 [y_,nilSV,y_,y_,y_,y_,y_,y_,y_,y_,y_,y_,y_,y_,y_,y_,y_,y_,y_,y_,y_,y_,y_,y_,y_,y_,y_,y_,y_,y_,y_,y_,y_,y_,.int .u64 0,.int .u64 0,nilSV,y_,.int .u64 0,y_,.bool false,.bool false]),⟨none,none,⟨[],[18]⟩,.sto false 42 .i64 (.t 8) (.t 45)⟩,m_ 9 54] [42,43,44,45,46,47,48,49,50,51,52,53,54]) (.seq (r_ [m_ 55 0,n_ 56 55,f_ 57 56 0,m_ 58 1,m_ 59 6,m_ 60 7,o_ 61 (.call none 19 45 [.t 57,.t 58,.t 59,.t 60])] [7,55,56,57,58,59,60,61]) (.seq (.block 1 (.loop b65_1)) (r65_2)))))))
def kp65_1:List Nat:=[0,1,6,8,9]
def kl65_1:List Nat:=[23,24,25,26,27,28,29,30,31,32,33,34]
attribute [push_cast] kp65_1 kl65_1
set_option maxRecDepth 4000 in
theorem comp65:(Tryz.f65.body.bind fun c=>compC tab isP chkAll ir65 c)=some ir65:=by kernel_rfl
theorem setsL_q2 (a b:SV) (z r:List SV) (h:z.length=r.length+32):setsL (a::b::z) 2 (qsV++r)=a::b::(qsV++r):=by
 have:=setsL_at (qsV++r) [a,b] z (by rw[h,lenq])
 simpa using this
attribute [push_cast] setsL_q2
theorem set_self {xs:List Int} {i:Int} (h0:0<=i) (h1:i<xs.length):xs.set i.toNat (rd xs i)=xs:=by
 obtain⟨k,rfl⟩:∃ k:Nat,i=k:=⟨i.toNat,by omega⟩
 rw[Int.toNat_natCast,rd_lt xs k (by omega),List.set_getElem_self]
def vN (code:List Int):Nat->Int
 | 0=>0
 | k+1=>shiftV code k (vN code k)
theorem shiftV_bd {code:List Int} (h:byAll code) {i v:Int} (h0:0<=i):0<=shiftV code i v/\shiftV code i v<4294967296:=by
 have:=bytA_bd h h0
 unfold shiftV
 omega
theorem vN_bd {code:List Int} (h:byAll code):∀ k,0<=vN code k/\vN code k<4294967296
 | 0=>by simp[vN]
 | k+1=>shiftV_bd h (by omega)
def deK (kind:Int) (st code:List Int) (k:Nat):DeS:=⟨kind,st,0,4294967295,code,k,vN code k,beyP code k,false⟩
def newDe (kind:Int) (st code:List Int):DeS:=⟨kind,st,0,4294967295,code,4,vN code 4,beyP code 4,false⟩
structure NdA where
 L:Xf.Loc
 kind:Int
 st:List Int
 LB:Xf.Loc
 code:List Int
def invNd:List SV->Look->Option (NdA×List Nat)
 | [.agg [.int .i64 kind,.sl c _ 1 0 _],.sl d _ 1 0 _],look=>match rowI (look c),rowO look d with
  | some (L,.i64,st),some (LB,code)=>some (⟨L,kind,st,LB,code⟩,[c,d])
  | _,_=>none
 | _,_=>none
attribute [push_cast] invNd
def fs63:FS where
 A:=NdA
 args:=fun a=>[.agg [.int .i64 a.kind,.sl 0 a.L 1 0 a.st.length],.sl 1 a.LB 1 0 a.code.length]
 mem:=fun a=>[some (.ro,a.L,.ints .i64 a.st),some (.ro,a.LB,.ints .u8 a.code)]
 pre:=fun a=>mdOk a.kind a.st/\a.code.length<=140737488355328/\byAll a.code
 res:=fun a x=>.tup [.ptr 4 (x 2) 0 0 0,.int .i64 0]
 out:=fun _ _=>[]
 new:=fun a x=>[(x 0,.ints .i64 a.st),(x 1,.ints .u8 a.code),(x 2,.cells (relabs (fun i=>i+1) (deV (x 0) (newDe a.kind a.st a.code) (x 1))))]
set_option maxRecDepth 8000 in
set_option maxHeartbeats 1000000 in
theorem ok63:FSOk Tryz.prog 63 fs63:=by
 refine⟨⟨_,Tryz.func63,by kernel_rfl,by kernel_rfl⟩,fun a=>⟨by simp[fs63,push_cast,noMine,argOwn,Chunk.frArg],by simp[fs63,push_cast,outOk,Chunk.ext],fun x=>.inl (by simp[fs63,push_cast,frNew,frOut,Chunk.fr])⟩,fun a hp=>?_⟩
 obtain⟨L,kind,st,LB,code⟩:=a
 obtain⟨hp',hc,hby⟩:mdOk kind st/\code.length<=140737488355328/\byAll code:=hp
 have hl:st.length<=1000000:=by have:=hp'.2;omega
 change Tri Tryz.prog 63 [.agg [.int .i64 kind,.sl 0 L 1 0 st.length],.sl 1 LB 1 0 code.length] [some (.ro,L,.ints .i64 st),some (.ro,LB,.ints .u8 code)] (postF fs63 ⟨L,kind,st,LB,code⟩)
 refine tri_evS (hyp (l:=[(35,ent35),(36,ent36),(91,ent91)]) (lp:=[]) ⟨e35,e36,e91,trivial⟩ trivial) Tryz.func63 comp63 (rs:=[.tmp 4,.tmp 5]) (by rfl) Tryz.ntmps63 26 ?_
 simp -implicitDefEqProofs only[push_cast,zz,seval,ir63,fs35,fs36,mdM,ivV,qsV,hp',hl]
 intro X
 repeat refine om_ ?_
 intro X1
 repeat refine om_ ?_
 refine evS_loopU (A:=Nat) kp63_1 kl63_1 (fun k=>[(17,.int .i64 k)]) (fun k=>[(21,.mine,X1 6 21,.cells (relabs (fun i=>bif i==1 then 15 else 20) (deV (X1 1 15) (deK kind st code k) (X1 4 20))))])
  (fun k=>k<=4) (fun k=>4-k) 0 (Nat.zero_le _) (Sub.pt ?_) ?_
 ·have e0:beyP code 0=0:=by unfold beyP;omega
  simp -implicitDefEqProofs only[push_cast,zz,seval,deV,deT,deK,ivV,qsV,vN,e0]
 intro k hk K hK
 have hk:k<=4:=hk
 by_cases hk':k<4
 ·have hki:(k:Int)<4:=by omega
  have hin:inOk code k (vN code k) (beyP code k):=⟨hc,hby,by omega,by omega,(vN_bd hby k).1,(vN_bd hby k).2,rfl⟩
  have e1:shiftV code k (vN code k)=vN code (k+1):=rfl
  simp -implicitDefEqProofs only[push_cast,zz,seval,b63_1,deV,deT,deK,ivV,fs91,hki,hin,e1]
  repeat refine om_ ?_
  refine hK (k+1) (show k+1<=4 by omega) (show 4-(k+1)<4-k by omega) _ _ (Sub.pt ?_)
  simp -implicitDefEqProofs only[push_cast,zz,seval,deV,deT,deK,ivV]
 ·have hk2:k=4:=by omega
  have hki:¬ (k:Int)<4:=by omega
  clear hK
  simp -implicitDefEqProofs only[push_cast,zz,seval,b63_1,deV,deT,deK,ivV,hki,r63_2]
  refine postF.mk' (fun j=>if j=0 then X1 1 15 else if j=1 then X1 4 20 else X1 6 21) [some 0,some 1,some 15,some 20,some 21] ?_
  have e1:(k:Int)=4:=by omega
  have e2:vN code k=vN code 4:=by rw[hk2]
  simp -implicitDefEqProofs only[push_cast,zz,seval,fs63,deV,deT,deK,ivV,newDe,e1,e2]
def ent63:Entry:=spOf fs63 invNd
theorem e63:EntryOk Tryz.prog 63 ent63:=entry_of ok63 invNd
@[push_cast] theorem ent63_app (us:List SV) (look:Look) (x:Nat->Xf.Loc) (k:Nat):ent63 us look x k=spOf fs63 invNd us look x k:=rfl
def normD (code:List Int):Nat->Int->Int->Int->Int->Int×Int×Int×Int
 | 0,l,g,i,v=>(l,g,i,v)
 | n+1,l,g,i,v=>if l / 16777216=g / 16777216 then normD code n (l % 16777216*256) (g % 16777216*256+255) (i+1) (shiftV code i v)else (l,g,i,v)
theorem normD_no (code:List Int) (n:Nat) {l g i v:Int} (e:¬ l / 16777216=g / 16777216):normD code n l g i v=(l,g,i,v):=by
 cases n with
 | zero=>rfl
 | succ n=>rw[normD,if_neg e]
theorem normD_norm (code:List Int):∀ (n:Nat) (l g i v:Int),(normD code n l g i v).1=(normP n l g).2.1/\(normD code n l g i v).2.1=(normP n l g).2.2/\(normD code n l g i v).2.2.1=i+(normP n l g).1.length
 | 0,l,g,i,v=>by simp[normD,normP]
 | n+1,l,g,i,v=>by
  rw[normD,normP]
  split
  ·have:=normD_norm code n (l % 16777216*256) (g % 16777216*256+255) (i+1) (shiftV code i v)
   refine⟨this.1,this.2.1,?_⟩
   rw[this.2.2]
   simp only[List.length_cons]
   omega
  ·simp
theorem normD_val {code:List Int} (h:byAll code):∀ (n:Nat) (l g i v:Int),0<=i->0<=v->v<4294967296->0<=(normD code n l g i v).2.2.2/\(normD code n l g i v).2.2.2<4294967296
 | 0,l,g,i,v,_,h0,h1=>⟨h0,h1⟩
 | n+1,l,g,i,v,hi,h0,h1=>by
  rw[normD]
  split
  ·exact normD_val h n _ _ _ _ (by omega) (shiftV_bd h hi).1 (shiftV_bd h hi).2
  ·exact⟨h0,h1⟩
def DeS.ok (d:DeS):Prop:=ivOk2 d.kind d.st d.low d.high/\inOk d.code d.at_ d.value d.beyond/\d.at_<=d.code.length+4
def bitD (d:DeS) (ctx:Int):Int:=if d.value<=midP d.low d.high (chP d.kind (rd d.st ctx))then 1 else 0
def runD (d:DeS) (ctx:Int):Int×Int×Int×Int:=normD d.code 4 (lowP d.kind d.st d.low d.high ctx (bitD d ctx)) (highP d.kind d.st d.low d.high ctx (bitD d ctx)) d.at_ d.value
def gotE (d:DeS) (ctx:Int):Int:=if d.ended then 6 else if 4<beyP d.code (runD d ctx).2.2.1 then 6 else 0
def gotB (d:DeS) (ctx:Int):Int:=if gotE d ctx=0 then bitD d ctx else 0
def gotS (d:DeS) (ctx:Int):DeS:=
 if gotE d ctx=0 then ⟨d.kind,d.st.set ctx.toNat (nxP d.kind (rd d.st ctx) (bitD d ctx)),(runD d ctx).1,(runD d ctx).2.1,d.code,(runD d ctx).2.2.1,(runD d ctx).2.2.2,beyP d.code (runD d ctx).2.2.1,false⟩
 else ⟨d.kind,d.st,d.low,d.high,d.code,d.at_,d.value,d.beyond,true⟩
theorem bitD_01 (d:DeS) (ctx:Int):bitD d ctx=0∨bitD d ctx=1:=by unfold bitD;split<;>simp
theorem gotS_ok {d:DeS} {ctx:Int} (H:d.ok) (h0:0<=ctx) (h1:ctx<d.st.length):(gotS d ctx).ok/\(gotS d ctx).st.length=d.st.length/\(gotS d ctx).kind=d.kind/\(gotS d ctx).code=d.code:=by
 obtain⟨a,b,c⟩:=H
 unfold gotS
 split
 ·rename_i he
  have hnr:=nrm_part (bit:=bitD d ctx) a h0 h1
  have hn:=norm_bd 4 hnr
  obtain⟨n1,n2,n3⟩:=normD_norm d.code 4 (lowP d.kind d.st d.low d.high ctx (bitD d ctx)) (highP d.kind d.st d.low d.high ctx (bitD d ctx)) d.at_ d.value
  obtain⟨a1,a2,a3,a4,a5,a6⟩:=a
  obtain⟨b1,b2,b3,b4,b5,b6,b7⟩:=b
  have hv:=normD_val b2 4 (lowP d.kind d.st d.low d.high ctx (bitD d ctx)) (highP d.kind d.st d.low d.high ctx (bitD d ctx)) d.at_ d.value b3 b5 b6
  have hbey:beyP d.code (runD d ctx).2.2.1<=4:=by
   unfold gotE at he
   split at he
   ·cases he
   ·split at he
    ·cases he
    ·omega
  unfold DeS.ok ivOk2 inOk
  simp only[List.length_set]
  unfold runD at hbey ⊢
  rw[n1,n2]
  have:(normD d.code 4 (lowP d.kind d.st d.low d.high ctx (bitD d ctx)) (highP d.kind d.st d.low d.high ctx (bitD d ctx)) d.at_ d.value).2.2.1-d.code.length<=4:=by unfold beyP at hbey;omega
  refine⟨⟨⟨a1.set (nxP_ok (a1.at h0 h1) (bitD_01 d ctx)),a2,hn.2⟩,⟨b1,b2,by omega,by omega,hv.1,hv.2,trivial⟩,by omega⟩,trivial,trivial,trivial⟩
 ·exact⟨⟨a,b,c⟩,rfl,rfl,rfl⟩
def fs65:FS where
 A:=DeA
 args:=fun a=>[.ptr 0 a.L 0 0 0,.int .i64 a.ctx]
 mem:=fun a=>[some (.lent,a.L,.cells (deV a.LS a.d a.LC)),some (.lent,a.LS,.ints .i64 a.d.st),some (.ro,a.LC,.ints .u8 a.d.code)]
 pre:=fun a=>a.d.ok/\0<=a.ctx/\a.ctx<a.d.st.length
 res:=fun a _=>.tup [.int .i64 (gotB a.d a.ctx),.int .i64 (gotE a.d a.ctx)]
 out:=fun a x=>[some (some (.cells (deV a.LS (gotS a.d a.ctx) a.LC))),some (some (.ints .i64 (gotS a.d a.ctx).st))]
 new:=fun a x=>[]
theorem gotS_len (d:DeS) (ctx:Int):(gotS d ctx).st.length=d.st.length/\(gotS d ctx).code=d.code/\(gotS d ctx).kind=d.kind:=by
 unfold gotS;split<;>simp
set_option maxHeartbeats 2000000 in
theorem ok65:FSOk Tryz.prog 65 fs65:=by
 refine⟨⟨_,Tryz.func65,by kernel_rfl,by kernel_rfl⟩,fun a=>⟨by simp[fs65,deV,deT,ivV,gotS_len,push_cast,noMine,argOwn,Chunk.frArg],by simp[fs65,deV,deT,ivV,gotS_len,push_cast,outOk,Chunk.ext],fun x=>.inl (by simp[fs65,deV,deT,ivV,gotS_len,push_cast,frNew,frOut,Chunk.fr])⟩,fun a hp=>?_⟩
 obtain⟨L,LS,LC,⟨kind,st,low,high,code,i,v,b,en⟩,ctx⟩:=a
 obtain⟨⟨hiv,hin,hat⟩,h2,h3⟩:(ivOk2 kind st low high/\inOk code i v b/\i<=code.length+4)/\0<=ctx/\ctx<st.length:=hp
 obtain⟨b1,b2,b3,b4,b5,b6,b7⟩:=id hin
 change Tri Tryz.prog 65 [.ptr 0 L 0 0 0,.int .i64 ctx] [some (.lent,L,.cells (deV LS ⟨kind,st,low,high,code,i,v,b,en⟩ LC)),some (.lent,LS,.ints .i64 st),some (.ro,LC,.ints .u8 code)] (postF fs65 ⟨L,LS,LC,⟨kind,st,low,high,code,i,v,b,en⟩,ctx⟩)
 refine tri_evS (hyp (l:=[(92,ent92),(46,ent46),(45,ent45),(47,ent47),(48,ent48),(91,ent91)]) (lp:=[]) ⟨e92,e46,e45,e47,e48,e91,trivial⟩ trivial) Tryz.func65 comp65 (rs:=[.tmp 4,.tmp 5]) (by rfl) Tryz.ntmps65 35 ?_
 have c1:¬ ctx<0:=by omega
 have c2:¬ (st.length:Int)<=ctx:=by omega
 have hok:(stsOk kind st/\st.length<=1000000/\0<=low/\low<high/\high<4294967296):=⟨hiv.1,hiv.2.1,hiv.2.2.1,hiv.2.2.2.1,hiv.2.2.2.2.1⟩
 cases en with
 | true=>
  have e1:gotE ⟨kind,st,low,high,code,i,v,b,true⟩ ctx=6:=rfl
  have e2:gotB ⟨kind,st,low,high,code,i,v,b,true⟩ ctx=0:=rfl
  have e3:gotS ⟨kind,st,low,high,code,i,v,b,true⟩ ctx=⟨kind,st,low,high,code,i,v,b,true⟩:=rfl
  simp -implicitDefEqProofs only[push_cast,zz,seval,ir65,deV,deT,ivV,fs92,deM,c1,c2]
  refine postF.mk' (fun _=>default) [some 0,some 1,some 2] ?_
  simp -implicitDefEqProofs only[push_cast,zz,seval,fs65,deV,deT,ivV,e1,e2,e3]
 | false=>
  obtain⟨m,hm⟩:∃ m,midP low high (chP kind (rd st ctx))=m:=⟨_,rfl⟩
  obtain⟨bit,hbit⟩:∃ x,bitD ⟨kind,st,low,high,code,i,v,b,false⟩ ctx=x:=⟨_,rfl⟩
  have hb01:bit=0∨bit=1:=by rw[<-hbit];exact bitD_01 _ _
  have hbv:bit=if v<=m then 1 else 0:=by rw[<-hbit,<-hm];rfl
  have hn:=nrm_part (bit:=bit) hiv h2 h3
  obtain⟨r,hr⟩:∃ r,runD ⟨kind,st,low,high,code,i,v,b,false⟩ ctx=r:=⟨_,rfl⟩
  have hr':normD code 4 (lowP kind st low high ctx bit) (highP kind st low high ctx bit) i v=r:=by rw[<-hr,<-hbit];rfl
  have hlo:(if bit=1 then low else m+1)=lowP kind st low high ctx bit:=by rw[<-hm];rfl
  have hhi:(if bit=1 then m else high)=highP kind st low high ctx bit:=by rw[<-hm];rfl
  have hd0:(⟨kind,st,low,high,code,i,v,b,false⟩:DeS).ended=false:=rfl
  have hgE:gotE ⟨kind,st,low,high,code,i,v,b,false⟩ ctx=if 4<beyP code r.2.2.1 then 6 else 0:=by
   unfold gotE
   rw[hd0,if_neg (by decide),hr]
  have main:∀ (l0 g0:Int) (M:Xf.Loc),nrm 4 l0 g0->normD code 4 l0 g0 i v=r->evS (spList [(92,ent92),(46,ent46),(45,ent45),(47,ent47),(48,ent48),(91,ent91)]) (spPList [])
    (retK [RV.tmp 4,RV.tmp 5] (postF fs65 ⟨L,LS,LC,⟨kind,st,low,high,code,i,v,b,false⟩,ctx⟩)) [Xf.Item.code (IR.loop b65_1),Xf.Item.blk 1,Xf.Item.code r65_2]
    (upS (List.replicate 93 none) [(0,.ptr 0 L 0 0 0),(1,.int .i64 ctx),(6,.int .i64 bit),(8,.ptr 18 M 0 0 0),(9,.int .i64 (rd st ctx))])
    ([some (.lent,L,.cells (ivV kind LS st.length l0 g0 (.sl 2 LC 1 0 code.length::[.int .i64 i,.int .u64 v,.int .i64 b,.bool false,.bool true]))),some (.lent,LS,.ints .i64 (st.set ctx.toNat (nxP kind (rd st ctx) bit))),some (.ro,LC,.ints .u8 code),
     none,none,none,none,none,none,none,none,none,none,none,none,none,none,none,some (.mine,M,.cells (ivV kind LS st.length low high (.sl 2 LC 1 0 code.length::[.int .i64 i,.int .u64 v,.int .i64 b,.bool false,.bool true])))]++List.replicate 19 none):=by
   intro l0 g0 M hn hr'
   obtain⟨s0,hs0⟩:∃ s,rd st ctx=s:=⟨_,rfl⟩
   have hsl:(st.set ctx.toNat (nxP kind s0 bit)).length=st.length:=List.length_set
   have hback:(st.set ctx.toNat (nxP kind s0 bit)).set ctx.toNat s0=st:=by
    rw[List.set_set,<-hs0]
    exact set_self h2 h3
   have hS:gotS ⟨kind,st,low,high,code,i,v,b,false⟩ ctx=if gotE ⟨kind,st,low,high,code,i,v,b,false⟩ ctx=0 then ⟨kind,st.set ctx.toNat (nxP kind s0 bit),r.1,r.2.1,code,r.2.2.1,r.2.2.2,beyP code r.2.2.1,false⟩else ⟨kind,st,low,high,code,i,v,b,true⟩:=by
    unfold gotS
    rw[hr,hbit,<-hs0]
   have hB:gotB ⟨kind,st,low,high,code,i,v,b,false⟩ ctx=if gotE ⟨kind,st,low,high,code,i,v,b,false⟩ ctx=0 then bit else 0:=by
    unfold gotB
    rw[hbit]
   rw[hs0]
   obtain⟨S,hSS⟩:∃ S,st.set ctx.toNat (nxP kind s0 bit)=S:=⟨_,rfl⟩
   rw[hSS]at hsl hback hS ⊢
   refine evS_loopU (A:=Nat×Int×Int×Int×Int) kp65_1 kl65_1 (fun y=>[]) (fun y=>[(0,.lent,L,.cells (ivV kind LS st.length y.2.1 y.2.2.1 (.sl 2 LC 1 0 code.length::[.int .i64 y.2.2.2.1,.int .u64 y.2.2.2.2,.int .i64 (beyP code y.2.2.2.1),.bool false,.bool true])))])
    (fun y=>nrm y.1 y.2.1 y.2.2.1/\normD code y.1 y.2.1 y.2.2.1 y.2.2.2.1 y.2.2.2.2=r/\0<=y.2.2.2.1/\y.2.2.2.1+y.1<=code.length+8/\0<=y.2.2.2.2/\y.2.2.2.2<4294967296) (fun y=>y.1) (4,l0,g0,i,v) ⟨hn,hr',b3,by simp only;omega,b5,b6⟩ (Sub.pt ?_) ?_
   ·simp -implicitDefEqProofs only[push_cast,zz,seval,ivV,b7]
   intro ⟨n,l,g,i',v'⟩ ⟨(hn:nrm n l g),(he:normD code n l g i' v'=r),(hi0:0<=i'),(hi1:i'+n<=code.length+8),(hv0:0<=v'),(hv1:v'<4294967296)⟩ K hK
   obtain⟨n0,n1,n2,n3,n4,n5⟩:=id hn
   by_cases e:l / 16777216=g / 16777216
   ·cases n with
    | zero=>exact absurd e (nrm_0 hn)
    | succ n=>
     have hs:=nrm_step hn e
     rw[normD,if_pos e]at he
     have hb:0<=l/\l<4294967296/\0<=g/\g<4294967296:=by omega
     have hin':inOk code i' v' (beyP code i'):=⟨b1,b2,hi0,by omega,hv0,hv1,rfl⟩
     have hsv:=shiftV_bd (v:=v') b2 hi0
     simp -implicitDefEqProofs only[push_cast,zz,seval,b65_1,ivV,deV,deT,fs47,fs48,fs91,e,hb,hsl,hin']
     repeat refine om_ ?_
     refine hK (n,l % 16777216*256,g % 16777216*256+255,i'+1,shiftV code i' v') ⟨hs,he,by simp only;omega,by simp only;omega,hsv⟩ (Nat.lt_succ_self n) _ _ (Sub.pt ?_)
     simp -implicitDefEqProofs only[push_cast,zz,seval,ivV]
   ·rw[normD_no code n e]at he
    subst he
    simp only at hgE hS hB
    clear hK
    by_cases hbe:4<beyP code i'
    ·rw[if_pos hbe]at hgE
     rw[hgE,if_neg (by decide)]at hS hB
     simp -implicitDefEqProofs only[push_cast,zz,seval,b65_1,r65_2,ivV,fs47,e,hsl,hbe,hback]
     repeat refine om_ ?_
     refine postF.mk' (fun _=>default) [some 0,some 1,some 2] ?_
     simp -implicitDefEqProofs only[push_cast,zz,seval,fs65,deV,deT,ivV,hgE,hS,hB]
    ·rw[if_neg hbe]at hgE
     rw[hgE,if_pos rfl]at hS hB
     simp -implicitDefEqProofs only[push_cast,zz,seval,b65_1,r65_2,ivV,fs47,e,hsl,hbe]
     repeat refine om_ ?_
     refine postF.mk' (fun _=>default) [some 0,some 1,some 2] ?_
     simp -implicitDefEqProofs only[push_cast,zz,seval,fs65,deV,deT,ivV,hgE,hS,hB,hsl]
  by_cases hv:v<=m
  ·rw[if_pos hv]at hbv
   subst hbv
   rw[if_pos rfl]at hlo hhi
   simp -implicitDefEqProofs only[push_cast,zz,seval,ir65,deV,deT,ivV,fs92,fs46,fs45,deM,IvA.ok,hok,c1,c2,h2,h3,hm,hv]
   intro X
   rw[<-hlo,<-hhi]at hr' hn
   exact main _ _ _ hn hr'
  ·rw[if_neg hv]at hbv
   subst hbv
   rw[if_neg (by decide)]at hlo hhi
   simp -implicitDefEqProofs only[push_cast,zz,seval,ir65,deV,deT,ivV,fs92,fs46,fs45,deM,IvA.ok,hok,c1,c2,h2,h3,hm,hv]
   intro X
   rw[<-hlo,<-hhi]at hr' hn
   exact main _ _ _ hn hr'
def ent65:Entry:=spOf fs65 invDe
theorem e65:EntryOk Tryz.prog 65 ent65:=entry_of ok65 invDe
@[push_cast] theorem ent65_app (us:List SV) (look:Look) (x:Nat->Xf.Loc) (k:Nat):ent65 us look x k=spOf fs65 invDe us look x k:=rfl
def ir31:IR:=
 .seq (r_ [o_ 4 (.alloc 10 [y_,nilSV]),z_ 5 0] [5]) (.seq (.seq (r_ [m_ 6 0,c_ 7 .neq 6 0,m_ 8 7,p_ 8 (m_ 9 0),p_ 8 (c_ 10 .neq 9 1),K_ 11 8 10,m_ 12 11,q_ 12 (m_ 13 1),q_ 12 (c_ 14 .lss 13 0),k_ 15 12 14,m_ 16 15,q_ 16 (m_ 17 1),q_ 16 (c_ 18 .gtr 17 8192),k_ 19 16 18] [6,7,8,9,10,11,12,13,14,15,16,17,18]) (.cond (.t 19) (.seq (r_ [o_ 20 (.build [y_,nilSV] []),s_ 2 .i64 4 20,z_ 5 2] [0,1,19,20]) (.ret)) (.skip))) (.seq (r_ [m_ 21 0,m_ 22 1,o_ 23 (.mks 11 (.int .i64 0) 8 (.t 22) (.t 22)),o_ 24 (.build [y_,nilSV] [(0,1,.t 21),(1,1,.t 23)]),s_ 2 .i64 4 24,z_ 5 0] [0,1,19,21,22,23,24]) (.ret)))
set_option maxRecDepth 4000 in
theorem comp31:(Tryz.f31.body.bind fun c=>compC tab isP chkAll ir31 c)=some ir31:=by kernel_rfl
def b72_1:IR:=
 .seq (r_ [b_ 9 .lss 8 7] []) (.seq (.cond (.t 9) (.skip) (.exit 0)) (.seq (.block 1 (.seq (r_ [m_ 10 8,m_ 5 10] [9,10]) (.seq (R_ [f_ 11 3 1,l_ 12 11,c_ 13 .neq 12 0,m_ 14 13,p_ 14 (m_ 15 0),p_ 14 (m_ 16 5),p_ 14 (i_ 17 15 16 9),p_ 14 (f_ 18 17 0),p_ 14 (f_ 19 18 1),p_ 14 (L_ 20 19),p_ 14 (f_ 21 3 1),p_ 14 (l_ 22 21),p_ 14 (b_ 23 .eql 20 22),K_ 24 14 23,m_ 25 24,p_ 25 (m_ 26 0),p_ 25 (m_ 27 5),p_ 25 (i_ 28 26 27 9),p_ 25 (f_ 29 28 0),p_ 25 (f_ 30 29 0),p_ 25 (L_ 31 30),p_ 25 (f_ 32 3 0),p_ 25 (l_ 33 32),p_ 25 (a_ 34 33 1),p_ 25 (b_ 35 .eql 31 34),K_ 36 25 35] [11,12,13,14,15,16,17,18,19,20,21,22,23,24,25,26,27,28,29,30,31,32,33,34,35]) (.cond (.t 36) (.seq (r_ [m_ 37 0,m_ 38 5,i_ 39 37 38 9,m_ 4 39] [0,3,5,7,8,36,37,38,39]) (.ret)) (.skip))))) (r_ [a_ 40 8 1,m_ 8 40] [4,5,36,40])))
def r72_2:IR:=
 .seq (r_ [o_ 4 (.mov (.k nilP))] [0,3,7,8]) (.ret)
def ir72:IR:=
 .seq (r_ [o_ 3 (.box 10 (.t 1)),o_ 4 (.mov (.k nilP))] [1,4]) (.seq (.seq (r_ [m_ 6 0,h_ 7 6,z_ 8 0] [6]) (.block 0 (.loop b72_1))) (r72_2))
def kp72_1:List Nat:=[0,3,7,8]
def kl72_1:List Nat:=[]
attribute [push_cast] kp72_1 kl72_1
set_option maxRecDepth 4000 in
theorem comp72:(Tryz.f72.body.bind fun c=>compC tab isP chkAll ir72 c)=some ir72:=by kernel_rfl
def fs31:FS where
 A:=BnA
 args:=fun a=>[.int .i64 a.w,.int .i64 a.h]
 mem:=fun _=>[]
 pre:=fun a=>(a.w=0∨a.w=1)/\0<=a.h/\a.h<=8192
 res:=fun a x=>.tup [.agg [.int .i64 a.w,.sl 0 (x 0) 1 0 a.h],.int .i64 0]
 out:=fun _ _=>[]
 new:=fun a x=>[(x 0,.ints .i64 (List.replicate a.h.toNat 0))]
def inv31:List SV->Look->Option (BnA×List Nat)
 | [.int .i64 w,.int .i64 h],look=>some (⟨w,h,0⟩,[])
 | _,_=>none
attribute [push_cast] inv31
theorem ok31:FSOk Tryz.prog 31 fs31:=by
 refine⟨⟨_,Tryz.func31,by kernel_rfl,by kernel_rfl⟩,fun a=>⟨by simp[fs31,push_cast,noMine,argOwn,Chunk.frArg],by simp[fs31,push_cast,outOk,Chunk.ext],fun x=>.inl (by simp[fs31,push_cast,frNew,frOut,Chunk.fr])⟩,fun a hp=>?_⟩
 obtain⟨w,h,n⟩:=a
 obtain⟨h1,h2,h3⟩:(w=0∨w=1)/\0<=h/\h<=8192:=hp
 have c1:¬ (¬ w=0/\¬ w=1):=by omega
 have c2:¬ h<0:=by omega
 have c3:¬ 8192<h:=by omega
 change Tri Tryz.prog 31 [.int .i64 w,.int .i64 h] [] (postF fs31 ⟨w,h,n⟩)
 refine tri_evS (hyp (l:=[]) (lp:=[]) trivial trivial) Tryz.func31 comp31 (rs:=[.cell 4 (some 2),.tmp 5]) (by rfl) Tryz.ntmps31 12 ?_
 simp -implicitDefEqProofs only[push_cast,zz,seval,ir31,c1,c2,c3]
 intro X X1
 repeat refine om_ ?_
 refine postF.mk' (fun _=>X1 2 11) [some 11] ?_
 simp -implicitDefEqProofs only[push_cast,zz,seval,fs31]
def ent31:Entry:=spOf fs31 inv31
theorem e31:EntryOk Tryz.prog 31 ent31:=entry_of ok31 inv31
@[push_cast] theorem ent31_app (us:List SV) (look:Look) (x:Nat->Xf.Loc) (k:Nat):ent31 us look x k=spOf fs31 inv31 us look x k:=rfl
structure Pb where
 places:List Int
 w:Int
 parent:Int
 deriving Inhabited
structure Gr where
 band:Bd
 frm:Nat
 deriving Inhabited
def colsB (b:Bd):Int:=(b.w+4-1) / 4
def rowsB (b:Bd):Int:=(b.h+4-1) / 4
def Gr.rc (g:Gr):List RC:=[.int .i64 g.band.lv,.int .i64 g.band.kd,.int .i64 g.band.x,.int .i64 g.band.y,.int .i64 g.band.w,.int .i64 g.band.h,.int .i64 g.frm,.int .i64 (colsB g.band),.int .i64 (rowsB g.band)]
def rdGr (l:List Gr) (i:Nat):Gr:=l.getD i default
theorem recAt_Gr {l:List Gr} {i:Nat} (h:i<l.length) (z:List RC):recAt (i:Int) z (l.map Gr.rc)=(rdGr l i).rc:=by
 simp[recAt,rdGr,h]
theorem rdGr_nat {l:List Gr} {i:Nat} (h:i<l.length):rdGr l i=l[i]:=by simp[rdGr,h]
def getGr:List (List RC)->Option (List Gr)
 | []=>some []
 | [.int .i64 lv,.int .i64 kd,.int .i64 x,.int .i64 y,.int .i64 w,.int .i64 h,.int .i64 f,_,_]::l=>match getGr l with | some r=>some (⟨⟨lv,kd,x,y,w,h⟩,f.toNat⟩::r) | none=>none
 | _=>none
theorem getGr_map:∀ l:List Gr,getGr (l.map Gr.rc)=some l
 | []=>rfl
 | g::l=>by
  simp only[List.map_cons,Gr.rc,getGr]
  have:=getGr_map l
  rw[this]
  simp
def hitG (g:Gr) (b:Bd):Prop:=b.kd≠0/\g.band.kd=b.kd/\g.band.lv=b.lv+1
instance hitG_dec (g:Gr) (b:Bd):Decidable (hitG g b):=by unfold hitG;infer_instance
def findG (gs:List Gr) (b:Bd):Option Nat:=gs.findIdx? fun g=>decide (hitG g b)
theorem findG_some {gs:List Gr} {b:Bd} {i:Nat} (hi:i<gs.length) (h:hitG (rdGr gs i) b) (hj:∀ j,j<i->¬ hitG (rdGr gs j) b):findG gs b=some i:=by
 unfold findG
 rw[List.findIdx?_eq_some_iff_getElem]
 refine⟨hi,by rw[<-rdGr_nat hi];simpa using h,fun j hji=>?_⟩
 have:=hj j hji
 rw[rdGr_nat (by omega)]at this
 simpa using this
theorem findG_none {gs:List Gr} {b:Bd} (hj:∀ j,j<gs.length->¬ hitG (rdGr gs j) b):findG gs b=none:=by
 unfold findG
 rw[List.findIdx?_eq_none_iff]
 intro g hg
 obtain⟨j,hjl,rfl⟩:=List.mem_iff_getElem.1 hg
 have:=hj j hjl
 rw[rdGr_nat hjl]at this
 simpa using this
theorem findG_lt {gs:List Gr} {b:Bd} {i:Nat} (h:findG gs b=some i):i<gs.length:=by
 unfold findG at h
 rw[List.findIdx?_eq_some_iff_getElem]at h
 exact h.1
structure PaA where
 L:Xf.Loc
 s:Nat
 gs:List Gr
 b:Bd
def ptrG (c:Nat) (L:Xf.Loc):Option Nat->SV
 | none=>.val (.pointer none)
 | some i=>.ptr c L (i:Nat) 9 0
def fs72:FS where
 A:=PaA
 args:=fun a=>[.sl 0 a.L a.s 0 a.gs.length,a.b.sv]
 mem:=fun a=>[some (.ro,a.L,.recs 9 false [] (a.gs.map Gr.rc))]
 pre:=fun a=>a.gs.length<=1000/\(0<a.gs.length->a.s=9)/\-1000<=a.b.lv/\a.b.lv<=1000
 res:=fun a _=>ptrG 0 a.L (findG a.gs a.b)
 out:=fun _ _=>[]
 new:=fun _ _=>[]
def rowG (look:Look) (d:Nat):Option (Xf.Loc×List Gr):=
 bif d==4096 then some (nilLoc,[])else match rowR (look d)with
  | some (L,9,_,r)=>match getGr r with | some l=>some (L,l) | none=>none
  | _=>none
def inv72:List SV->Look->Option (PaA×List Nat)
 | [.sl d _ s 0 _,.agg [.int .i64 lv,.int .i64 kd,.int .i64 x,.int .i64 y,.int .i64 w,.int .i64 h]],look=>match rowG look d with
  | some (L,gs)=>some (⟨L,s,gs,⟨lv,kd,x,y,w,h⟩⟩,[d])
  | none=>none
 | _,_=>none
attribute [push_cast] rowG inv72
theorem ok72:FSOk Tryz.prog 72 fs72:=by
 refine⟨⟨_,Tryz.func72,by kernel_rfl,by kernel_rfl⟩,fun a=>⟨by simp[fs72,push_cast,noMine,argOwn,Chunk.frArg],by simp[fs72,push_cast,outOk,Chunk.ext],fun x=>.inl (by simp[fs72,push_cast,frNew,frOut,Chunk.fr])⟩,fun a hp=>?_⟩
 obtain⟨L,s,gs,b⟩:=a
 obtain⟨h1,h2,h3,h4⟩:gs.length<=1000/\(0<gs.length->s=9)/\-1000<=b.lv/\b.lv<=1000:=hp
 change Tri Tryz.prog 72 [.sl 0 L s 0 gs.length,b.sv] [some (.ro,L,.recs 9 false [] (gs.map Gr.rc))] (postF fs72 ⟨L,s,gs,b⟩)
 have hf:=@findG_some gs b
 have hn:=@findG_none gs b
 have hhit:∀ g:Gr,hitG g b=(¬ b.kd=0/\g.band.kd=b.kd/\g.band.lv=b.lv+1):=fun g=>rfl
 obtain⟨F,hF⟩:∃ F,findG gs b=F:=⟨_,rfl⟩
 simp only[hF,hhit]at hf hn
 obtain⟨lv,kd,x,y,w,h⟩:=b
 simp only at h3 h4 hf hn
 refine tri_evS (hyp (l:=[]) (lp:=[]) trivial trivial) Tryz.func72 comp72 (rs:=[.tmp 4]) (by rfl) Tryz.ntmps72 11 ?_
 simp -implicitDefEqProofs only[push_cast,zz,seval,ir72]
 intro X
 refine evS_loopU (A:=Nat) kp72_1 kl72_1 (fun i=>[(8,.int .i64 i)]) (fun i=>[]) (fun i=>i<=gs.length/\∀ j,j<i->¬ (¬ kd=0/\(rdGr gs j).band.kd=kd/\(rdGr gs j).band.lv=lv+1)) (fun i=>gs.length-i) 0 ⟨Nat.zero_le _,fun j hj=>by omega⟩ (Sub.pt ?_) ?_
 ·simp -implicitDefEqProofs only[push_cast,zz,seval]
 intro i ⟨(hi:i<=gs.length),(hjj:∀ j,j<i->¬ (¬ kd=0/\(rdGr gs j).band.kd=kd/\(rdGr gs j).band.lv=lv+1))⟩ K hK
 by_cases hi':i<gs.length
 ·obtain rfl:=h2 (by omega)
  have r1:=recAt_Gr hi' []
  have hii:(i:Int)<gs.length:=by omega
  have hlm:(gs.map Gr.rc).length=gs.length:=List.length_map _
  have hfi:=hf hi'
  have hK2:=fun(hno:¬ (¬ kd=0/\(rdGr gs i).band.kd=kd/\(rdGr gs i).band.lv=lv+1))=>hK (i+1) ⟨show i+1<=gs.length by omega,fun j hj=>by
   by_cases e:j=i
   ·rw[e];exact hno
   ·exact hjj j (by omega)⟩ (show gs.length-(i+1)<gs.length-i by omega)
  clear hK
  obtain⟨⟨⟨lv',kd',x',y',w',h'⟩,fr⟩,hg⟩:∃ g,rdGr gs i=g:=⟨_,rfl⟩
  rw[hg]at r1 hfi hK2
  simp only at hfi hK2
  by_cases hk0:kd=0
  ·simp -implicitDefEqProofs only[push_cast,zz,seval,b72_1,r1,Gr.rc,hii,hlm,hk0]
   repeat refine om_ ?_
   refine hK2 (fun h=>h.1 hk0) _ _ (Sub.pt ?_)
   simp -implicitDefEqProofs only[push_cast,zz,seval,hk0]
  by_cases hk1:kd'=kd
  ·by_cases hk2:lv'=lv+1
   ·have hfi:=hfi ⟨hk0,hk1,hk2⟩ hjj
    simp -implicitDefEqProofs only[push_cast,zz,seval,b72_1,r1,Gr.rc,hii,hlm,hk0,hk1,hk2]
    repeat refine om_ ?_
    refine postF.mk' (fun _=>default) [some 0] ?_
    simp -implicitDefEqProofs only[push_cast,zz,seval,fs72,hF,hfi,ptrG]
   ·simp -implicitDefEqProofs only[push_cast,zz,seval,b72_1,r1,Gr.rc,hii,hlm,hk0,hk1,hk2]
    repeat refine om_ ?_
    refine hK2 (fun h=>hk2 h.2.2) _ _ (Sub.pt ?_)
    simp -implicitDefEqProofs only[push_cast,zz,seval]
  ·simp -implicitDefEqProofs only[push_cast,zz,seval,b72_1,r1,Gr.rc,hii,hlm,hk0,hk1]
   repeat refine om_ ?_
   refine hK2 (fun h=>hk1 h.2.1) _ _ (Sub.pt ?_)
   simp -implicitDefEqProofs only[push_cast,zz,seval]
 ·obtain rfl:i=gs.length:=by omega
  clear hK
  have hn:=hn hjj
  simp -implicitDefEqProofs only[push_cast,zz,seval,b72_1,r72_2,Int.lt_irrefl]
  refine postF.mk' (fun _=>default) [some 0] ?_
  simp -implicitDefEqProofs only[push_cast,zz,seval,fs72,hF,hn,ptrG]
def ent72:Entry:=spOf fs72 inv72
theorem e72:EntryOk Tryz.prog 72 ent72:=entry_of ok72 inv72
@[push_cast] theorem ent72_app (us:List SV) (look:Look) (x:Nat->Xf.Loc) (k:Nat):ent72 us look x k=spOf fs72 inv72 us look x k:=rfl
def b30_5:IR:=
 .seq (.seq (r_ [m_ 81 19,m_ 82 16,c_ 83 .mul 82 4,f_ 84 17 1,l_ 85 84,b_ 86 .add 83 85,b_ 87 .lss 81 86] [81,82,83,84,85,86]) (.cond (.t 87) (.skip) (.exit 8))) (.seq (.block 9 (r_ [f_ 90 17 0,l_ 91 90,f_ 92 12 3,l_ 93 92,m_ 94 18,b_ 95 .add 93 94,m_ 96 0,b_ 97 .mul 95 96,f_ 98 12 2,l_ 99 98,b_ 100 .add 97 99,m_ 101 19,b_ 102 .add 100 101,o_ 103 (.bslice 21 [.t 102]),o_ 104 (.app 22 1 8 (.t 91) (.t 103)),f_ 105 17 0,s_ 1 .i64 105 104] [87,90,91,92,93,94,95,96,97,98,99,100,101,102,103,104,105])) (r_ [m_ 88 19,a_ 89 88 1,m_ 19 89] [88,89]))
def r30_6:IR:=
 r_ [m_ 77 18,a_ 78 77 1,m_ 18 78] [19,77,78]
def b30_4:IR:=
 .seq (.seq (r_ [m_ 69 18,m_ 70 15,c_ 71 .mul 70 4,a_ 72 71 4,f_ 73 12 5,l_ 74 73,o_ 75 (.mn (.t 72) (.t 74)),b_ 76 .lss 69 75] [69,70,71,72,73,74,75]) (.cond (.t 76) (.skip) (.exit 6))) (.seq (.block 7 (.seq (r_ [m_ 79 16,c_ 80 .mul 79 4,m_ 19 80] [76,79,80]) (.block 8 (.loop b30_5)))) (r30_6))
def r30_7:IR:=
 .seq (.seq (r_ [m_ 106 14,o_ 107 (.binN .neq (.t 106) (.k nilP))] [18,106]) (.cond (.t 107) (R_ [m_ 108 14,n_ 109 108,f_ 110 109 6,L_ 111 110,m_ 112 15,c_ 113 .quo 112 2,m_ 114 14,n_ 115 114,f_ 116 115 8,L_ 117 116,c_ 118 .sub 117 1,o_ 119 (.mn (.t 113) (.t 118)),m_ 120 14,n_ 121 120,f_ 122 121 7,L_ 123 122,b_ 124 .mul 119 123,b_ 125 .add 111 124,m_ 126 16,c_ 127 .quo 126 2,m_ 128 14,n_ 129 128,f_ 130 129 7,L_ 131 130,c_ 132 .sub 131 1,o_ 133 (.mn (.t 127) (.t 132)),b_ 134 .add 125 133,f_ 135 17 2,s_ 1 .i64 135 134] [16,107,108,109,110,111,112,113,114,115,116,117,118,119,120,121,122,123,124,125,126,127,128,129,130,131,132,133,134,135]) (.skip))) (r_ [m_ 136 9,o_ 137 (.ld false (some 4) 0 0 (.t 17)),o_ 138 (.brecs 23 4 .i64 [.t 137]),o_ 139 (.app 24 4 48 (.t 136) (.t 138)),m_ 9 139] [16,17,107,136,137,138,139])
def r30_8:IR:=
 r_ [a_ 140 57 1,m_ 57 140] [140]
def b30_3:IR:=
 .seq (r_ [b_ 58 .lss 57 56] []) (.seq (.cond (.t 58) (.skip) (.exit 4)) (.seq (.block 5 (.seq (r_ [m_ 59 57,m_ 16 59] [58,59]) (.seq (r_ [f_ 60 12 4,l_ 61 60,m_ 62 16,c_ 63 .mul 62 4,b_ 64 .sub 61 63,o_ 65 (.mn (Z_ 4) (.t 64)),o_ 66 (.build [nilSV,y_,y_,.bool false] [(1,1,.t 65),(2,1,Z_ (-1))]),o_ 17 (.alloc 20 [nilSV,y_,y_,.bool false]),s_ 4 .i64 17 66] [60,61,62,63,64,65,66]) (.seq (.seq (r_ [m_ 67 15,c_ 68 .mul 67 4,m_ 18 68] [67,68]) (.block 6 (.loop b30_4))) (r30_7))))) (r30_8)))
def r30_9:IR:=
 r_ [a_ 141 52 1,m_ 52 141] [15,56,57,141]
def b30_2:IR:=
 .seq (r_ [b_ 53 .lss 52 51] []) (.seq (.cond (.t 53) (.skip) (.exit 2)) (.seq (.block 3 (.seq (r_ [m_ 54 52,m_ 15 54] [53,54]) (.seq (r_ [f_ 55 13 7,l_ 56 55,z_ 57 0] [55]) (.block 4 (.loop b30_3))))) (r30_9)))
def r30_10:IR:=
 r_ [m_ 142 10,o_ 143 (.ld false (some 9) 0 0 (.t 13)),o_ 144 (.brecs 25 9 .i64 [.t 143]),o_ 145 (.app 26 9 72 (.t 142) (.t 144)),m_ 10 145] [12,13,14,51,52,142,143,144,145]
def r30_11:IR:=
 r_ [a_ 146 29 1,m_ 29 146] [146]
def b30_1:IR:=
 .seq (r_ [b_ 30 .lss 29 28] []) (.seq (.cond (.t 30) (.skip) (.exit 0)) (.seq (.block 1 (.seq (r_ [i_ 31 27 29 6,o_ 32 (.ld true (some 6) 0 0 (.t 31)),o_ 12 (.alloc 14 [y_,y_,y_,y_,y_,y_]),s_ 6 .i64 12 32] [30,31,32]) (.seq (r_ [o_ 33 (.ld false (some 6) 0 0 (.t 12)),m_ 34 9,h_ 35 34,f_ 36 12 4,l_ 37 36,a_ 38 37 4,c_ 39 .sub 38 1,c_ 40 .quo 39 4,f_ 41 12 5,l_ 42 41,a_ 43 42 4,c_ 44 .sub 43 1,c_ 45 .quo 44 4,o_ 46 (.build [y_,y_,y_,y_,y_,y_,y_,y_,y_] [(0,6,.t 33),(6,1,.t 35),(7,1,.t 40),(8,1,.t 45)]),o_ 13 (.alloc 15 [y_,y_,y_,y_,y_,y_,y_,y_,y_]),s_ 9 .i64 13 46] [33,34,35,36,37,38,39,40,41,42,43,44,45,46]) (.seq (r_ [m_ 47 10,o_ 48 (.ld false (some 6) 0 0 (.t 12)),o_ 49 (.call (some 4) 16 72 [.t 47,.t 48]),m_ 14 49] [47,48,49]) (.seq (.seq (r_ [f_ 50 13 8,l_ 51 50,z_ 52 0] [50]) (.block 2 (.loop b30_2))) (r30_10)))))) (r30_11)))
def r30_12:IR:=
 .seq (r_ [m_ 147 9,m_ 6 147] [0,9,10,27,28,29,147]) (.ret)
def ir30:IR:=
 .seq (r_ [o_ 6 (.mov (.k nilSV))] [6]) (.seq (r_ [m_ 21 0,m_ 22 1,m_ 23 2,o_ 24 (.call (some 4) 10 32 [.t 21,.t 22,.t 23]),m_ 20 24,e_ 25 20 0,e_ 26 20 1,m_ 7 25,m_ 8 26] [1,2,8,20,21,22,23,24,25,26]) (.seq (r_ [o_ 9 (.mov (.k nilSV))] []) (.seq (r_ [o_ 10 (.mov (.k nilSV))] []) (.seq (.seq (r_ [m_ 27 7,h_ 28 27,z_ 29 0] [7]) (.block 0 (.loop b30_1))) (r30_12)))))
def kp30_5:List Nat:=[0,9,10,12,13,14,15,16,17,18,19,27,28,29,51,52,56,57]
def kl30_5:List Nat:=[21,22]
attribute [push_cast] kp30_5 kl30_5
def kp30_4:List Nat:=[0,9,10,12,13,14,15,16,17,18,27,28,29,51,52,56,57]
def kl30_4:List Nat:=[21,22]
attribute [push_cast] kp30_4 kl30_4
def kp30_3:List Nat:=[0,9,10,12,13,14,15,27,28,29,51,52,56,57]
def kl30_3:List Nat:=[20,21,22,23,24]
attribute [push_cast] kp30_3 kl30_3
def kp30_2:List Nat:=[0,9,10,12,13,14,27,28,29,51,52]
def kl30_2:List Nat:=[20,21,22,23,24]
attribute [push_cast] kp30_2 kl30_2
def kp30_1:List Nat:=[0,9,10,27,28,29]
def kl30_1:List Nat:=[14,15,16,17,18,19,20,21,22,23,24,25,26]
attribute [push_cast] kp30_1 kl30_1
set_option maxRecDepth 4000 in
theorem comp30:(Tryz.f30.body.bind fun c=>compC tab isP chkAll ir30 c)=some ir30:=by kernel_rfl
def plF (W:Int) (b:Bd) (r c:Int) (dy dx:Nat):Int:=(b.y+(r*4+dy))*W+b.x+(c*4+dx)
def kwB (b:Bd) (c:Int):Int:=min 4 (b.w-c*4)
def khB (b:Bd) (r:Int):Int:=min (r*4+4) b.h-r*4
def plRow (W:Int) (b:Bd) (r c:Int) (dy n:Nat):List Int:=(List.range n).map (plF W b r c dy)
def plAll (W:Int) (b:Bd) (r c:Int) (m:Nat):List Int:=(List.range m).flatMap fun dy=>plRow W b r c dy (kwB b c).toNat
theorem plRow_succ (W:Int) (b:Bd) (r c:Int) (dy n:Nat):plRow W b r c dy (n+1)=plRow W b r c dy n++[plF W b r c dy n]:=by
 unfold plRow;rw[List.range_succ,List.map_append];rfl
theorem plAll_succ (W:Int) (b:Bd) (r c:Int) (m:Nat):plAll W b r c (m+1)=plAll W b r c m++plRow W b r c m (kwB b c).toNat:=by
 unfold plAll;rw[List.range_succ,List.flatMap_append];simp
theorem plRow_len (W:Int) (b:Bd) (r c:Int) (dy n:Nat):(plRow W b r c dy n).length=n:=by unfold plRow;simp
theorem plAll_len (W:Int) (b:Bd) (r c:Int):∀ m,(plAll W b r c m).length=m*(kwB b c).toNat
 | 0=>by simp[plAll]
 | m+1=>by rw[plAll_succ,List.length_append,plAll_len W b r c m,plRow_len,Nat.succ_mul]
def parP (gs:List Gr) (F:Option Nat) (r c:Int):Int:=
 match F with
 | none=>-1
 | some i=>(rdGr gs i).frm+min (r / 2) (rowsB (rdGr gs i).band-1)*colsB (rdGr gs i).band+min (c / 2) (colsB (rdGr gs i).band-1)
def bkAt (W:Int) (gs:List Gr) (b:Bd) (r c:Int):Pb:=⟨plAll W b r c (khB b r).toNat,kwB b c,parP gs (findG gs b) r c⟩
def bkRow (W:Int) (gs:List Gr) (b:Bd) (r:Int) (n:Nat):List Pb:=(List.range n).map fun c=>bkAt W gs b r (c:Nat)
def bkBand (W:Int) (gs:List Gr) (b:Bd) (m:Nat):List Pb:=(List.range m).flatMap fun r=>bkRow W gs b (r:Nat) (colsB b).toNat
theorem bkRow_succ (W:Int) (gs:List Gr) (b:Bd) (r:Int) (n:Nat):bkRow W gs b r (n+1)=bkRow W gs b r n++[bkAt W gs b r n]:=by
 unfold bkRow;rw[List.range_succ,List.map_append];rfl
theorem bkBand_succ (W:Int) (gs:List Gr) (b:Bd) (m:Nat):bkBand W gs b (m+1)=bkBand W gs b m++bkRow W gs b m (colsB b).toNat:=by
 unfold bkBand;rw[List.range_succ,List.flatMap_append];simp
theorem bkRow_len (W:Int) (gs:List Gr) (b:Bd) (r:Int) (n:Nat):(bkRow W gs b r n).length=n:=by unfold bkRow;simp
theorem bkBand_len (W:Int) (gs:List Gr) (b:Bd):∀ m,(bkBand W gs b m).length=m*(colsB b).toNat
 | 0=>by simp[bkBand]
 | m+1=>by rw[bkBand_succ,List.length_append,bkBand_len W gs b m,bkRow_len,Nat.succ_mul]
def bkStep (W:Int) (s:List Pb×List Gr) (b:Bd):List Pb×List Gr:=(s.1++bkBand W s.2 b (rowsB b).toNat,s.2++[⟨b,s.1.length⟩])
def bkFold (W:Int) (l:List Bd):List Pb×List Gr:=l.foldl (bkStep W) ([],[])
theorem bkFold_succ (W:Int) {l:List Bd} {i:Nat} (h:i<l.length):bkFold W (l.take (i+1))=bkStep W (bkFold W (l.take i)) (rdBd l i):=by
 unfold bkFold
 rw[List.take_succ_eq_append_getElem h,List.foldl_append,rdBd_nat h]
 rfl
theorem bd_cr {b:Bd} (h:b.ok):0<=colsB b/\colsB b<=50/\0<=rowsB b/\rowsB b<=50:=by
 obtain⟨h1,h2,h3,h4⟩:=h
 unfold colsB rowsB
 omega
def frmOk (n:Nat) (gs:List Gr):Prop:=∀ g∈gs,g.band.ok/\g.frm<=n
theorem bkFold_len (W:Int) {l:List Bd} (hl:∀ b∈l,b.ok):∀ i,i<=l.length->(bkFold W (l.take i)).1.length<=2500*i/\(bkFold W (l.take i)).2.length=i/\frmOk (2500*i) (bkFold W (l.take i)).2
 | 0,_=>by simp[bkFold,frmOk]
 | i+1,hi=>by
  obtain⟨h1,h2,h3⟩:=bkFold_len W hl i (by omega)
  rw[bkFold_succ W (by omega)]
  have hb:=hl _ (rdBd_mem (show i<l.length by omega))
  have hcr:=bd_cr hb
  unfold bkStep
  simp only[List.length_append,List.length_singleton,bkBand_len]
  have:(rowsB (rdBd l i)).toNat*(colsB (rdBd l i)).toNat<=50*50:=Nat.mul_le_mul (by omega) (by omega)
  refine⟨by omega,by omega,fun g hg=>?_⟩
  rcases List.mem_append.1 hg with h | h
  ·have:=h3 g h
   exact⟨this.1,by omega⟩
  ·rw[List.mem_singleton]at h
   subst h
   exact⟨hb,by simp only;omega⟩
theorem bdD_lv (w h n:Nat):∀ k,k<=n->∀ x∈bdD w h n k,0<=x.lv/\x.lv<=n
 | 0,_,x,hx=>by
  simp only[bdD,List.mem_singleton]at hx
  subst hx
  simp only[bd0];omega
 | k+1,hk,x,hx=>by
  rw[bdD,List.mem_append]at hx
  rcases hx with hx | hx
  ·exact bdD_lv w h n k (by omega) x hx
  ·simp only[bd3,List.mem_cons,List.not_mem_nil,or_false]at hx
   rcases hx with rfl | rfl | rfl<;>simp only<;>omega
theorem bnL_in {w h n:Int} (hb:bnOk w h n) {b:Bd} (hm:b∈bnL w h n):0<=b.x/\0<=b.y/\1<=b.w/\1<=b.h/\b.x+b.w<=w/\b.y+b.h<=h/\-1000<=b.lv/\b.lv<=1000:=by
 obtain⟨q1,q2,q3,q4,q5,q6⟩:=id hb
 unfold bnL bnA at hm
 rw[if_pos hb]at hm
 have h1:=kept_in (w:=w.toNat) (h:=h.toNat) (n:=n.toNat) (by omega) (by omega) hm
 have h2:b∈bdD w.toNat h.toNat n.toNat n.toNat:=(List.mem_filter.1 hm).1
 have h3:=bdD_lv w.toNat h.toNat n.toNat n.toNat (Nat.le_refl _) b h2
 omega
def bkts (w h n:Int):List Pb:=(bkFold w (bnL w h n)).1
structure Bck where
 L:Xf.Loc
 b:Pb
 on:Bool
 deriving Inhabited
def Bck.rc (x:Bck):List RC:=[.row x.L .i64 x.b.places,.int .i64 x.b.w,.int .i64 x.b.parent,.bool x.on]
def bkOf (f:Nat->Xf.Loc) (l:List Pb):List Bck:=(List.range l.length).map fun i=>⟨f i,l.getD i default,false⟩
theorem bkOf_eq {l:List Bck} {m:List Pb} (h:l.map Bck.b=m) (ho:∀ x∈l,x.on=false):bkOf (fun i=>(l.getD i default).L) m=l:=by
 subst h
 unfold bkOf
 refine List.ext_getElem (by simp) fun i h1 h2=>?_
 have hi:i<l.length:=by simpa using h2
 simp only[List.getElem_map,List.getElem_range,List.getD_eq_getElem?_getD,List.getElem?_map,List.getElem?_eq_getElem hi,Option.map_some,Option.getD_some]
 have:=ho _ (List.getElem_mem hi)
 cases hx:l[i]with
 | mk L b on=>rw[hx]at this;simp only at this;rw[this]
def slB (c:Nat) (M:Xf.Loc) (n:Nat):SV:=.sl c M (esz 4 n) 0 n
attribute [push_cast] slB
def fs30:FS where
 A:=BnA
 args:=fun a=>[.int .i64 a.w,.int .i64 a.h,.int .i64 a.n]
 mem:=fun _=>[]
 pre:=fun a=>bnOk a.w a.h a.n
 res:=fun a x=>slB 0 (x 0) (bkts a.w a.h a.n).length
 out:=fun _ _=>[]
 new:=fun a x=>[(x 0,.recs 4 true [] ((bkOf (fun i=>x (i+1)) (bkts a.w a.h a.n)).map Bck.rc))]
theorem relab_ptrG (N:Xf.Loc) (F:Option Nat):relab (rho [26] 16) (ptrG 0 N F)=ptrG 26 N F:=by cases F<;>rfl
theorem sub_all (xs:List Int):sub xs 0 xs.length=xs:=by simp[sub]
theorem par_bd {a c:Int} (h0:-1<=a) (h1:a<=50) (h2:0<=c) (h3:c<=50):-50<=a*c/\a*c<=2500:=by
 by_cases h:0<=a
 ·have:=mul_bd h h1 h2 h3
  omega
 ·have:a=-1:=by omega
  subst this
  omega
theorem bkMap_len (l:List Bck):(l.map Bck.rc).length=l.length:=List.length_map _
end Go.Proofs.YthicgkilfjjifaaGreat
