import Derived.Test.YtkmiklngnainfaaKc
import Derived.Test.YtkmiklngnainfaaProg
import Derived.Test.YtkmiklngnainfaaChecked
set_option linter.unusedVariables false
set_option linter.unusedSimpArgs false
set_option maxRecDepth 1000
namespace Go.Proofs.Ytkmiklngnainfaa
open Xf
def tab:Tab:=fun t=>match t with
 | 2=>some ⟨1,8,[.int .i64 0],.int .i64,none⟩
 | 3=>some ⟨1,8,[.int .i64 0],.int .i64,none⟩
 | 4=>some ⟨1,1,[.bool false],.bool,none⟩
 | 5=>some ⟨1,1,[.int .u8 0],.int .u8,none⟩
 | 6=>some ⟨1,1,[.int .u8 0],.int .u8,none⟩
 | 7=>some ⟨4,24,[.int .i64 0,.int .i64 0,.bool false,.int .u8 0],.struct [(0,2),(1,3),(2,4),(3,6)],(some [true,true,false,true])⟩
 | 8=>some ⟨4,24,[.int .i64 0,.int .i64 0,.bool false,.int .u8 0],.struct [(0,2),(1,3),(2,4),(3,6)],(some [true,true,false,true])⟩
 | 9=>some ⟨1,16,[.val (.string ⟨#[]⟩)],.string,none⟩
 | 12=>some ⟨1,8,[.int .u64 0],.int .u64,none⟩
 | 13=>some ⟨2,24,[.val (.string ⟨#[]⟩),.int .u64 0],.struct [(0,9),(1,12)],none⟩
 | 14=>some ⟨2,24,[.val (.string ⟨#[]⟩),.int .u64 0],.struct [(0,9),(1,12)],none⟩
 | 15=>some ⟨1,8,[.val (.pointer none)],.pointer,none⟩
 | 16=>some ⟨1,8,[.val (.pointer none)],.pointer,none⟩
 | 17=>some ⟨1,8,[.val (.pointer none)],.pointer,none⟩
 | 18=>some ⟨1,8,[.val (.pointer none)],.struct [(0,17)],none⟩
 | 19=>some ⟨1,8,[.val (.pointer none)],.struct [(0,17)],none⟩
 | 21=>some ⟨1,4,[.int .i32 0],.int .i32,none⟩
 | 22=>some ⟨1,24,[nilSV],.slice 3,none⟩
 | 23=>some ⟨3,40,[.int .i64 0,.int .i64 0,nilSV],.struct [(0,3),(1,3),(2,22)],none⟩
 | 24=>some ⟨3,40,[.int .i64 0,.int .i64 0,nilSV],.struct [(0,3),(1,3),(2,22)],none⟩
 | 25=>some ⟨1,8,[.int .i64 0],.int .i64,none⟩
 | 29=>some ⟨1,24,[nilSV],.slice 49,none⟩
 | 37=>some ⟨5,88,[.int .i64 0,.int .i64 0,nilSV,nilSV,nilSV],.struct [(0,3),(1,3),(2,22),(3,22),(4,22)],none⟩
 | 38=>some ⟨5,88,[.int .i64 0,.int .i64 0,nilSV,nilSV,nilSV],.struct [(0,3),(1,3),(2,22),(3,22),(4,22)],none⟩
 | 39=>some ⟨8,112,[.int .i64 0,.int .i64 0,nilSV,nilSV,nilSV,.int .i64 0,.int .i64 0,.int .i64 0],.struct [(0,38),(5,3),(6,3),(7,3)],none⟩
 | 40=>some ⟨8,112,[.int .i64 0,.int .i64 0,nilSV,nilSV,nilSV,.int .i64 0,.int .i64 0,.int .i64 0],.struct [(0,38),(5,3),(6,3),(7,3)],none⟩
 | 44=>some ⟨1,24,[nilSV],.slice 24,none⟩
 | 49=>some ⟨1,24,[nilSV],.slice 5,none⟩
 | 53=>some ⟨1,8,[.val (.pointer none)],.pointer,none⟩
 | 55=>some ⟨3,40,[.int .i64 0,nilSV,.int .i64 0],.struct [(0,3),(1,22),(2,3)],none⟩
 | 56=>some ⟨3,40,[.int .i64 0,nilSV,.int .i64 0],.struct [(0,3),(1,22),(2,3)],none⟩
 | 57=>some ⟨1,24,[nilSV],.slice 59,none⟩
 | 59=>some ⟨2,16,[.int .i64 0,.int .i64 0],.array 2 3,(some [true,true])⟩
 | 64=>some ⟨1,8,[.val (.pointer none)],.pointer,none⟩
 | 67=>some ⟨1,8,[.val (.pointer none)],.pointer,none⟩
 | 70=>some ⟨1,24,[nilSV],.slice 4,none⟩
 | 71=>some ⟨1,24,[nilSV],.slice 148,none⟩
 | 72=>some ⟨2,32,[.int .i64 0,nilSV],.struct [(0,3),(1,22)],none⟩
 | 73=>some ⟨2,32,[.int .i64 0,nilSV],.struct [(0,3),(1,22)],none⟩
 | 74=>some ⟨9,168,[nilSV,nilSV,nilSV,.int .i64 0,nilSV,.int .i64 0,nilSV,nilSV,.int .i64 0],.struct [(0,22),(1,70),(2,22),(3,3),(4,71),(5,73),(7,22),(8,3)],none⟩
 | 75=>some ⟨9,168,[nilSV,nilSV,nilSV,.int .i64 0,nilSV,.int .i64 0,nilSV,nilSV,.int .i64 0],.struct [(0,22),(1,70),(2,22),(3,3),(4,71),(5,73),(7,22),(8,3)],none⟩
 | 81=>some ⟨1,8,[.val (.pointer none)],.pointer,none⟩
 | 91=>some ⟨1,24,[nilSV],.slice 98,none⟩
 | 94=>some ⟨2,16,[.bool false,.int .i64 0],.struct [(0,4),(1,3)],(some [false,true])⟩
 | 95=>some ⟨2,16,[.bool false,.int .i64 0],.struct [(0,4),(1,3)],(some [false,true])⟩
 | 97=>some ⟨2,16,[.int .i64 0,.int .i64 0],.struct [(0,3),(1,3)],(some [true,true])⟩
 | 98=>some ⟨2,16,[.int .i64 0,.int .i64 0],.struct [(0,3),(1,3)],(some [true,true])⟩
 | 100=>some ⟨1,8,[.int .u64 0],.int .u64,none⟩
 | 102=>some ⟨1,8,[.val (.pointer none)],.pointer,none⟩
 | 104=>some ⟨1,8,[.val (.pointer none)],.pointer,none⟩
 | 107=>some ⟨1,8,[.val (.pointer none)],.pointer,none⟩
 | 110=>some ⟨1,8,[.val (.pointer none)],.pointer,none⟩
 | 111=>some ⟨1,8,[.val (.pointer none)],.pointer,none⟩
 | 112=>some ⟨3,24,[.val (.pointer none),.val (.pointer none),.int .i64 0],.struct [(0,111),(1,107),(2,25)],none⟩
 | 113=>some ⟨3,24,[.val (.pointer none),.val (.pointer none),.int .i64 0],.struct [(0,111),(1,107),(2,25)],none⟩
 | 115=>some ⟨1,8,[.int .u64 0],.int .u64,none⟩
 | 116=>some ⟨2,16,[.int .u64 0,.int .u64 0],.struct [(0,115),(1,115)],(some [true,true])⟩
 | 117=>some ⟨2,16,[.int .u64 0,.int .u64 0],.struct [(0,115),(1,115)],(some [true,true])⟩
 | 118=>some ⟨9,104,[.int .i64 0,nilSV,.int .u64 0,.int .u64 0,nilSV,.int .i64 0,.int .u64 0,.int .i64 0,.bool false],.struct [(0,73),(2,117),(4,49),(5,3),(6,115),(7,3),(8,4)],none⟩
 | 119=>some ⟨9,104,[.int .i64 0,nilSV,.int .u64 0,.int .u64 0,nilSV,.int .i64 0,.int .u64 0,.int .i64 0,.bool false],.struct [(0,73),(2,117),(4,49),(5,3),(6,115),(7,3),(8,4)],none⟩
 | 120=>some ⟨1,24,[nilSV],.slice 134,none⟩
 | 121=>some ⟨1,24,[nilSV],.slice 168,none⟩
 | 122=>some ⟨8,160,[.int .i64 0,.int .i64 0,nilSV,nilSV,nilSV,nilSV,nilSV,nilSV],.struct [(0,3),(1,3),(2,120),(3,121),(4,22),(5,70),(6,22),(7,70)],none⟩
 | 123=>some ⟨8,160,[.int .i64 0,.int .i64 0,nilSV,nilSV,nilSV,nilSV,nilSV,nilSV],.struct [(0,3),(1,3),(2,120),(3,121),(4,22),(5,70),(6,22),(7,70)],none⟩
 | 133=>some ⟨6,48,[.int .i64 0,.int .i64 0,.int .i64 0,.int .i64 0,.int .i64 0,.int .i64 0],.struct [(0,3),(1,3),(2,3),(3,3),(4,3),(5,3)],(some [true,true,true,true,true,true])⟩
 | 134=>some ⟨6,48,[.int .i64 0,.int .i64 0,.int .i64 0,.int .i64 0,.int .i64 0,.int .i64 0],.struct [(0,3),(1,3),(2,3),(3,3),(4,3),(5,3)],(some [true,true,true,true,true,true])⟩
 | 137=>some ⟨32,256,[.int .i64 0,.int .i64 0,.int .i64 0,.int .i64 0,.int .i64 0,.int .i64 0,.int .i64 0,.int .i64 0,.int .i64 0,.int .i64 0,.int .i64 0,.int .i64 0,.int .i64 0,.int .i64 0,.int .i64 0,.int .i64 0,.int .i64 0,.int .i64 0,.int .i64 0,.int .i64 0,.int .i64 0,.int .i64 0,.int .i64 0,.int .i64 0,.int .i64 0,.int .i64 0,.int .i64 0,.int .i64 0,.int .i64 0,.int .i64 0,.int .i64 0,.int .i64 0],.array 32 3,(some [true,true,true,true,true,true,true,true,true,true,true,true,true,true,true,true,true,true,true,true,true,true,true,true,true,true,true,true,true,true,true,true])⟩
 | 138=>some ⟨32,256,[.int .i64 0,.int .i64 0,.int .i64 0,.int .i64 0,.int .i64 0,.int .i64 0,.int .i64 0,.int .i64 0,.int .i64 0,.int .i64 0,.int .i64 0,.int .i64 0,.int .i64 0,.int .i64 0,.int .i64 0,.int .i64 0,.int .i64 0,.int .i64 0,.int .i64 0,.int .i64 0,.int .i64 0,.int .i64 0,.int .i64 0,.int .i64 0,.int .i64 0,.int .i64 0,.int .i64 0,.int .i64 0,.int .i64 0,.int .i64 0,.int .i64 0,.int .i64 0],.array 32 3,(some [true,true,true,true,true,true,true,true,true,true,true,true,true,true,true,true,true,true,true,true,true,true,true,true,true,true,true,true,true,true,true,true])⟩
 | 139=>some ⟨36,304,[.int .i64 0,nilSV,.int .i64 0,.int .i64 0,.int .i64 0,.int .i64 0,.int .i64 0,.int .i64 0,.int .i64 0,.int .i64 0,.int .i64 0,.int .i64 0,.int .i64 0,.int .i64 0,.int .i64 0,.int .i64 0,.int .i64 0,.int .i64 0,.int .i64 0,.int .i64 0,.int .i64 0,.int .i64 0,.int .i64 0,.int .i64 0,.int .i64 0,.int .i64 0,.int .i64 0,.int .i64 0,.int .i64 0,.int .i64 0,.int .i64 0,.int .i64 0,.int .i64 0,.int .i64 0,.int .u64 0,.int .u64 0],.struct [(0,73),(2,138),(34,115),(35,115)],none⟩
 | 140=>some ⟨36,304,[.int .i64 0,nilSV,.int .i64 0,.int .i64 0,.int .i64 0,.int .i64 0,.int .i64 0,.int .i64 0,.int .i64 0,.int .i64 0,.int .i64 0,.int .i64 0,.int .i64 0,.int .i64 0,.int .i64 0,.int .i64 0,.int .i64 0,.int .i64 0,.int .i64 0,.int .i64 0,.int .i64 0,.int .i64 0,.int .i64 0,.int .i64 0,.int .i64 0,.int .i64 0,.int .i64 0,.int .i64 0,.int .i64 0,.int .i64 0,.int .i64 0,.int .i64 0,.int .i64 0,.int .i64 0,.int .u64 0,.int .u64 0],.struct [(0,73),(2,138),(34,115),(35,115)],none⟩
 | 142=>some ⟨38,336,[.int .i64 0,nilSV,.int .i64 0,.int .i64 0,.int .i64 0,.int .i64 0,.int .i64 0,.int .i64 0,.int .i64 0,.int .i64 0,.int .i64 0,.int .i64 0,.int .i64 0,.int .i64 0,.int .i64 0,.int .i64 0,.int .i64 0,.int .i64 0,.int .i64 0,.int .i64 0,.int .i64 0,.int .i64 0,.int .i64 0,.int .i64 0,.int .i64 0,.int .i64 0,.int .i64 0,.int .i64 0,.int .i64 0,.int .i64 0,.int .i64 0,.int .i64 0,.int .i64 0,.int .i64 0,.int .u64 0,.int .u64 0,nilSV,.bool false],.struct [(0,140),(36,49),(37,4)],none⟩
 | 143=>some ⟨38,336,[.int .i64 0,nilSV,.int .i64 0,.int .i64 0,.int .i64 0,.int .i64 0,.int .i64 0,.int .i64 0,.int .i64 0,.int .i64 0,.int .i64 0,.int .i64 0,.int .i64 0,.int .i64 0,.int .i64 0,.int .i64 0,.int .i64 0,.int .i64 0,.int .i64 0,.int .i64 0,.int .i64 0,.int .i64 0,.int .i64 0,.int .i64 0,.int .i64 0,.int .i64 0,.int .i64 0,.int .i64 0,.int .i64 0,.int .i64 0,.int .i64 0,.int .i64 0,.int .i64 0,.int .i64 0,.int .u64 0,.int .u64 0,nilSV,.bool false],.struct [(0,140),(36,49),(37,4)],none⟩
 | 146=>some ⟨1,8,[.val (.pointer none)],.pointer,none⟩
 | 147=>some ⟨4,48,[nilSV,.int .i64 0,.int .i64 0,.bool false],.struct [(0,22),(1,3),(2,3),(3,4)],none⟩
 | 148=>some ⟨4,48,[nilSV,.int .i64 0,.int .i64 0,.bool false],.struct [(0,22),(1,3),(2,3),(3,4)],none⟩
 | 158=>some ⟨42,360,[.int .i64 0,nilSV,.int .i64 0,.int .i64 0,.int .i64 0,.int .i64 0,.int .i64 0,.int .i64 0,.int .i64 0,.int .i64 0,.int .i64 0,.int .i64 0,.int .i64 0,.int .i64 0,.int .i64 0,.int .i64 0,.int .i64 0,.int .i64 0,.int .i64 0,.int .i64 0,.int .i64 0,.int .i64 0,.int .i64 0,.int .i64 0,.int .i64 0,.int .i64 0,.int .i64 0,.int .i64 0,.int .i64 0,.int .i64 0,.int .i64 0,.int .i64 0,.int .i64 0,.int .i64 0,.int .u64 0,.int .u64 0,nilSV,.int .i64 0,.int .u64 0,.int .i64 0,.bool false,.bool false],.struct [(0,140),(36,49),(37,3),(38,115),(39,3),(40,4),(41,4)],none⟩
 | 159=>some ⟨42,360,[.int .i64 0,nilSV,.int .i64 0,.int .i64 0,.int .i64 0,.int .i64 0,.int .i64 0,.int .i64 0,.int .i64 0,.int .i64 0,.int .i64 0,.int .i64 0,.int .i64 0,.int .i64 0,.int .i64 0,.int .i64 0,.int .i64 0,.int .i64 0,.int .i64 0,.int .i64 0,.int .i64 0,.int .i64 0,.int .i64 0,.int .i64 0,.int .i64 0,.int .i64 0,.int .i64 0,.int .i64 0,.int .i64 0,.int .i64 0,.int .i64 0,.int .i64 0,.int .i64 0,.int .i64 0,.int .u64 0,.int .u64 0,nilSV,.int .i64 0,.int .u64 0,.int .i64 0,.bool false,.bool false],.struct [(0,140),(36,49),(37,3),(38,115),(39,3),(40,4),(41,4)],none⟩
 | 167=>some ⟨8,64,[.int .i64 0,.int .i64 0,.int .i64 0,.int .i64 0,.int .i64 0,.int .i64 0,.int .i64 0,.int .i64 0],.struct [(0,3),(1,3),(2,3),(3,3),(4,3),(5,3),(6,3),(7,3)],(some [true,true,true,true,true,true,true,true])⟩
 | 168=>some ⟨8,64,[.int .i64 0,.int .i64 0,.int .i64 0,.int .i64 0,.int .i64 0,.int .i64 0,.int .i64 0,.int .i64 0],.struct [(0,3),(1,3),(2,3),(3,3),(4,3),(5,3),(6,3),(7,3)],(some [true,true,true,true,true,true,true,true])⟩
 | 175=>some ⟨1,24,[nilSV],.slice 177,none⟩
 | 176=>some ⟨9,72,[.int .i64 0,.int .i64 0,.int .i64 0,.int .i64 0,.int .i64 0,.int .i64 0,.int .i64 0,.int .i64 0,.int .i64 0],.struct [(0,134),(6,3),(7,3),(8,3)],none⟩
 | 177=>some ⟨9,72,[.int .i64 0,.int .i64 0,.int .i64 0,.int .i64 0,.int .i64 0,.int .i64 0,.int .i64 0,.int .i64 0,.int .i64 0],.struct [(0,134),(6,3),(7,3),(8,3)],none⟩
 | 178=>some ⟨1,8,[.val (.pointer none)],.pointer,none⟩
 | 183=>some ⟨1,4,[.int .u32 0],.int .u32,none⟩
 | 187=>some ⟨1,8,[.val (.pointer none)],.pointer,none⟩
 | 189=>some ⟨1,8,[.int .i64 0],.struct [(0,3)],(some [true])⟩
 | 190=>some ⟨1,8,[.int .i64 0],.struct [(0,3)],(some [true])⟩
 | 195=>some ⟨1,8,[.val (.pointer none)],.pointer,none⟩
 | 198=>some ⟨5,72,[.int .i64 0,nilSV,.int .u64 0,.int .u64 0,nilSV],.struct [(0,73),(2,117),(4,49)],none⟩
 | 199=>some ⟨5,72,[.int .i64 0,nilSV,.int .u64 0,.int .u64 0,nilSV],.struct [(0,73),(2,117),(4,49)],none⟩
 | 202=>some ⟨4,40,[.val (.pointer none),.val (.pointer none),.val (.pointer none),.val (.string ⟨#[]⟩)],.struct [(0,17),(1,17),(2,17),(3,9)],none⟩
 | 203=>some ⟨4,40,[.val (.pointer none),.val (.pointer none),.val (.pointer none),.val (.string ⟨#[]⟩)],.struct [(0,17),(1,17),(2,17),(3,9)],none⟩
 | 204=>some ⟨0,0,[],.array 0 16,none⟩
 | 205=>some ⟨0,0,[],.struct [(0,204)],none⟩
 | 206=>some ⟨0,0,[],.struct [(0,204)],none⟩
 | 207=>some ⟨1,1,[.int .u8 0],.int .u8,none⟩
 | 208=>some ⟨1,1,[.int .u8 0],.int .u8,none⟩
 | 210=>some ⟨1,8,[.val (.pointer none)],.pointer,none⟩
 | 211=>some ⟨1,4,[.int .i32 0],.int .i32,none⟩
 | 212=>some ⟨1,4,[.int .i32 0],.int .i32,none⟩
 | 213=>some ⟨11,48,[.int .u64 0,.int .u64 0,.int .u32 0,.int .u8 0,.int .u8 0,.int .u8 0,.int .u8 0,.val .nilFunc,.val (.pointer none),.int .i32 0,.int .i32 0],.struct [(0,12),(1,12),(2,183),(3,207),(4,5),(5,5),(6,208),(7,209),(8,210),(9,211),(10,212)],none⟩
 | 214=>some ⟨11,48,[.int .u64 0,.int .u64 0,.int .u32 0,.int .u8 0,.int .u8 0,.int .u8 0,.int .u8 0,.val .nilFunc,.val (.pointer none),.int .i32 0,.int .i32 0],.struct [(0,12),(1,12),(2,183),(3,207),(4,5),(5,5),(6,208),(7,209),(8,210),(9,211),(10,212)],none⟩
 | _=>none
theorem tt2:TtOk Try.prog 2 ⟨1,8,[.int .i64 0],.int .i64,none⟩:=TtOk.of (z:=.int .i64 0) (by kernel_rfl) (by kernel_rfl) (by simp[Dens,Den,nilSV,nilLoc0,Value.cells]) (by simp[TT.agg,Value.cells]) Try.underlying2 (by first | exact⟨_,rfl,rfl⟩ | rfl | exact⟨_,rfl⟩) (by first | rfl | kernel_rfl) rfl
theorem tt3:TtOk Try.prog 3 ⟨1,8,[.int .i64 0],.int .i64,none⟩:=TtOk.of (z:=.int .i64 0) (by kernel_rfl) (by kernel_rfl) (by simp[Dens,Den,nilSV,nilLoc0,Value.cells]) (by simp[TT.agg,Value.cells]) Try.underlying3 (by first | exact⟨_,rfl,rfl⟩ | rfl | exact⟨_,rfl⟩) (by first | rfl | kernel_rfl) rfl
theorem tt4:TtOk Try.prog 4 ⟨1,1,[.bool false],.bool,none⟩:=TtOk.of (z:=.bool false) (by kernel_rfl) (by kernel_rfl) (by simp[Dens,Den,nilSV,nilLoc0,Value.cells]) (by simp[TT.agg,Value.cells]) Try.underlying4 (by first | exact⟨_,rfl,rfl⟩ | rfl | exact⟨_,rfl⟩) (by first | rfl | kernel_rfl) rfl
theorem tt5:TtOk Try.prog 5 ⟨1,1,[.int .u8 0],.int .u8,none⟩:=TtOk.of (z:=.int .u8 0) (by kernel_rfl) (by kernel_rfl) (by simp[Dens,Den,nilSV,nilLoc0,Value.cells]) (by simp[TT.agg,Value.cells]) Try.underlying5 (by first | exact⟨_,rfl,rfl⟩ | rfl | exact⟨_,rfl⟩) (by first | rfl | kernel_rfl) rfl
theorem tt6:TtOk Try.prog 6 ⟨1,1,[.int .u8 0],.int .u8,none⟩:=TtOk.of (z:=.int .u8 0) (by kernel_rfl) (by kernel_rfl) (by simp[Dens,Den,nilSV,nilLoc0,Value.cells]) (by simp[TT.agg,Value.cells]) Try.underlying6 (by first | exact⟨_,rfl,rfl⟩ | rfl | exact⟨_,rfl⟩) (by first | rfl | kernel_rfl) rfl
theorem tt7:TtOk Try.prog 7 ⟨4,24,[.int .i64 0,.int .i64 0,.bool false,.int .u8 0],.struct [(0,2),(1,3),(2,4),(3,6)],(some [true,true,false,true])⟩:=TtOk.of (z:=.agg #[.int .i64 0,.int .i64 0,.bool false,.int .u8 0]) (by kernel_rfl) (by kernel_rfl) (by simp[Dens,Den,nilSV,nilLoc0,Value.cells]) (by simp[TT.agg,Value.cells]) Try.underlying7 (by first | exact⟨_,rfl,rfl⟩ | rfl | exact⟨_,rfl⟩) (by first | rfl | kernel_rfl) rfl
theorem tt8:TtOk Try.prog 8 ⟨4,24,[.int .i64 0,.int .i64 0,.bool false,.int .u8 0],.struct [(0,2),(1,3),(2,4),(3,6)],(some [true,true,false,true])⟩:=TtOk.of (z:=.agg #[.int .i64 0,.int .i64 0,.bool false,.int .u8 0]) (by kernel_rfl) (by kernel_rfl) (by simp[Dens,Den,nilSV,nilLoc0,Value.cells]) (by simp[TT.agg,Value.cells]) Try.underlying8 (by first | exact⟨_,rfl,rfl⟩ | rfl | exact⟨_,rfl⟩) (by first | rfl | kernel_rfl) rfl
theorem tt9:TtOk Try.prog 9 ⟨1,16,[.val (.string ⟨#[]⟩)],.string,none⟩:=TtOk.of (z:=.string ⟨#[]⟩) (by kernel_rfl) (by kernel_rfl) (by simp[Dens,Den,nilSV,nilLoc0,Value.cells]) (by simp[TT.agg,Value.cells]) Try.underlying9 (by first | exact⟨_,rfl,rfl⟩ | rfl | exact⟨_,rfl⟩) (by first | rfl | kernel_rfl) rfl
theorem tt12:TtOk Try.prog 12 ⟨1,8,[.int .u64 0],.int .u64,none⟩:=TtOk.of (z:=.int .u64 0) (by kernel_rfl) (by kernel_rfl) (by simp[Dens,Den,nilSV,nilLoc0,Value.cells]) (by simp[TT.agg,Value.cells]) Try.underlying12 (by first | exact⟨_,rfl,rfl⟩ | rfl | exact⟨_,rfl⟩) (by first | rfl | kernel_rfl) rfl
theorem tt13:TtOk Try.prog 13 ⟨2,24,[.val (.string ⟨#[]⟩),.int .u64 0],.struct [(0,9),(1,12)],none⟩:=TtOk.of (z:=.agg #[.string ⟨#[]⟩,.int .u64 0]) (by kernel_rfl) (by kernel_rfl) (by simp[Dens,Den,nilSV,nilLoc0,Value.cells]) (by simp[TT.agg,Value.cells]) Try.underlying13 (by first | exact⟨_,rfl,rfl⟩ | rfl | exact⟨_,rfl⟩) (by first | rfl | kernel_rfl) rfl
theorem tt14:TtOk Try.prog 14 ⟨2,24,[.val (.string ⟨#[]⟩),.int .u64 0],.struct [(0,9),(1,12)],none⟩:=TtOk.of (z:=.agg #[.string ⟨#[]⟩,.int .u64 0]) (by kernel_rfl) (by kernel_rfl) (by simp[Dens,Den,nilSV,nilLoc0,Value.cells]) (by simp[TT.agg,Value.cells]) Try.underlying14 (by first | exact⟨_,rfl,rfl⟩ | rfl | exact⟨_,rfl⟩) (by first | rfl | kernel_rfl) rfl
theorem tt15:TtOk Try.prog 15 ⟨1,8,[.val (.pointer none)],.pointer,none⟩:=TtOk.of (z:=.pointer none) (by kernel_rfl) (by kernel_rfl) (by simp[Dens,Den,nilSV,nilLoc0,Value.cells]) (by simp[TT.agg,Value.cells]) Try.underlying15 (by first | exact⟨_,rfl,rfl⟩ | rfl | exact⟨_,rfl⟩) (by first | rfl | kernel_rfl) rfl
theorem tt16:TtOk Try.prog 16 ⟨1,8,[.val (.pointer none)],.pointer,none⟩:=TtOk.of (z:=.pointer none) (by kernel_rfl) (by kernel_rfl) (by simp[Dens,Den,nilSV,nilLoc0,Value.cells]) (by simp[TT.agg,Value.cells]) Try.underlying16 (by first | exact⟨_,rfl,rfl⟩ | rfl | exact⟨_,rfl⟩) (by first | rfl | kernel_rfl) rfl
theorem tt17:TtOk Try.prog 17 ⟨1,8,[.val (.pointer none)],.pointer,none⟩:=TtOk.of (z:=.pointer none) (by kernel_rfl) (by kernel_rfl) (by simp[Dens,Den,nilSV,nilLoc0,Value.cells]) (by simp[TT.agg,Value.cells]) Try.underlying17 (by first | exact⟨_,rfl,rfl⟩ | rfl | exact⟨_,rfl⟩) (by first | rfl | kernel_rfl) rfl
theorem tt18:TtOk Try.prog 18 ⟨1,8,[.val (.pointer none)],.struct [(0,17)],none⟩:=TtOk.of (z:=.agg #[.pointer none]) (by kernel_rfl) (by kernel_rfl) (by simp[Dens,Den,nilSV,nilLoc0,Value.cells]) (by simp[TT.agg,Value.cells]) Try.underlying18 (by first | exact⟨_,rfl,rfl⟩ | rfl | exact⟨_,rfl⟩) (by first | rfl | kernel_rfl) rfl
theorem tt19:TtOk Try.prog 19 ⟨1,8,[.val (.pointer none)],.struct [(0,17)],none⟩:=TtOk.of (z:=.agg #[.pointer none]) (by kernel_rfl) (by kernel_rfl) (by simp[Dens,Den,nilSV,nilLoc0,Value.cells]) (by simp[TT.agg,Value.cells]) Try.underlying19 (by first | exact⟨_,rfl,rfl⟩ | rfl | exact⟨_,rfl⟩) (by first | rfl | kernel_rfl) rfl
theorem tt21:TtOk Try.prog 21 ⟨1,4,[.int .i32 0],.int .i32,none⟩:=TtOk.of (z:=.int .i32 0) (by kernel_rfl) (by kernel_rfl) (by simp[Dens,Den,nilSV,nilLoc0,Value.cells]) (by simp[TT.agg,Value.cells]) Try.underlying21 (by first | exact⟨_,rfl,rfl⟩ | rfl | exact⟨_,rfl⟩) (by first | rfl | kernel_rfl) rfl
theorem tt22:TtOk Try.prog 22 ⟨1,24,[nilSV],.slice 3,none⟩:=TtOk.of (z:=.slice none 0 0) (by kernel_rfl) (by kernel_rfl) (by simp[Dens,Den,nilSV,nilLoc0,Value.cells]) (by simp[TT.agg,Value.cells]) Try.underlying22 (by first | exact⟨_,rfl,rfl⟩ | rfl | exact⟨_,rfl⟩) (by first | rfl | kernel_rfl) rfl
theorem tt23:TtOk Try.prog 23 ⟨3,40,[.int .i64 0,.int .i64 0,nilSV],.struct [(0,3),(1,3),(2,22)],none⟩:=TtOk.of (z:=.agg #[.int .i64 0,.int .i64 0,.slice none 0 0]) (by kernel_rfl) (by kernel_rfl) (by simp[Dens,Den,nilSV,nilLoc0,Value.cells]) (by simp[TT.agg,Value.cells]) Try.underlying23 (by first | exact⟨_,rfl,rfl⟩ | rfl | exact⟨_,rfl⟩) (by first | rfl | kernel_rfl) rfl
theorem tt24:TtOk Try.prog 24 ⟨3,40,[.int .i64 0,.int .i64 0,nilSV],.struct [(0,3),(1,3),(2,22)],none⟩:=TtOk.of (z:=.agg #[.int .i64 0,.int .i64 0,.slice none 0 0]) (by kernel_rfl) (by kernel_rfl) (by simp[Dens,Den,nilSV,nilLoc0,Value.cells]) (by simp[TT.agg,Value.cells]) Try.underlying24 (by first | exact⟨_,rfl,rfl⟩ | rfl | exact⟨_,rfl⟩) (by first | rfl | kernel_rfl) rfl
theorem tt25:TtOk Try.prog 25 ⟨1,8,[.int .i64 0],.int .i64,none⟩:=TtOk.of (z:=.int .i64 0) (by kernel_rfl) (by kernel_rfl) (by simp[Dens,Den,nilSV,nilLoc0,Value.cells]) (by simp[TT.agg,Value.cells]) Try.underlying25 (by first | exact⟨_,rfl,rfl⟩ | rfl | exact⟨_,rfl⟩) (by first | rfl | kernel_rfl) rfl
theorem tt29:TtOk Try.prog 29 ⟨1,24,[nilSV],.slice 49,none⟩:=TtOk.of (z:=.slice none 0 0) (by kernel_rfl) (by kernel_rfl) (by simp[Dens,Den,nilSV,nilLoc0,Value.cells]) (by simp[TT.agg,Value.cells]) Try.underlying29 (by first | exact⟨_,rfl,rfl⟩ | rfl | exact⟨_,rfl⟩) (by first | rfl | kernel_rfl) rfl
theorem tt37:TtOk Try.prog 37 ⟨5,88,[.int .i64 0,.int .i64 0,nilSV,nilSV,nilSV],.struct [(0,3),(1,3),(2,22),(3,22),(4,22)],none⟩:=TtOk.of (z:=.agg #[.int .i64 0,.int .i64 0,.slice none 0 0,.slice none 0 0,.slice none 0 0]) (by kernel_rfl) (by kernel_rfl) (by simp[Dens,Den,nilSV,nilLoc0,Value.cells]) (by simp[TT.agg,Value.cells]) Try.underlying37 (by first | exact⟨_,rfl,rfl⟩ | rfl | exact⟨_,rfl⟩) (by first | rfl | kernel_rfl) rfl
theorem tt38:TtOk Try.prog 38 ⟨5,88,[.int .i64 0,.int .i64 0,nilSV,nilSV,nilSV],.struct [(0,3),(1,3),(2,22),(3,22),(4,22)],none⟩:=TtOk.of (z:=.agg #[.int .i64 0,.int .i64 0,.slice none 0 0,.slice none 0 0,.slice none 0 0]) (by kernel_rfl) (by kernel_rfl) (by simp[Dens,Den,nilSV,nilLoc0,Value.cells]) (by simp[TT.agg,Value.cells]) Try.underlying38 (by first | exact⟨_,rfl,rfl⟩ | rfl | exact⟨_,rfl⟩) (by first | rfl | kernel_rfl) rfl
theorem tt39:TtOk Try.prog 39 ⟨8,112,[.int .i64 0,.int .i64 0,nilSV,nilSV,nilSV,.int .i64 0,.int .i64 0,.int .i64 0],.struct [(0,38),(5,3),(6,3),(7,3)],none⟩:=TtOk.of (z:=.agg #[.int .i64 0,.int .i64 0,.slice none 0 0,.slice none 0 0,.slice none 0 0,.int .i64 0,.int .i64 0,.int .i64 0]) (by kernel_rfl) (by kernel_rfl) (by simp[Dens,Den,nilSV,nilLoc0,Value.cells]) (by simp[TT.agg,Value.cells]) Try.underlying39 (by first | exact⟨_,rfl,rfl⟩ | rfl | exact⟨_,rfl⟩) (by first | rfl | kernel_rfl) rfl
theorem tt40:TtOk Try.prog 40 ⟨8,112,[.int .i64 0,.int .i64 0,nilSV,nilSV,nilSV,.int .i64 0,.int .i64 0,.int .i64 0],.struct [(0,38),(5,3),(6,3),(7,3)],none⟩:=TtOk.of (z:=.agg #[.int .i64 0,.int .i64 0,.slice none 0 0,.slice none 0 0,.slice none 0 0,.int .i64 0,.int .i64 0,.int .i64 0]) (by kernel_rfl) (by kernel_rfl) (by simp[Dens,Den,nilSV,nilLoc0,Value.cells]) (by simp[TT.agg,Value.cells]) Try.underlying40 (by first | exact⟨_,rfl,rfl⟩ | rfl | exact⟨_,rfl⟩) (by first | rfl | kernel_rfl) rfl
theorem tt44:TtOk Try.prog 44 ⟨1,24,[nilSV],.slice 24,none⟩:=TtOk.of (z:=.slice none 0 0) (by kernel_rfl) (by kernel_rfl) (by simp[Dens,Den,nilSV,nilLoc0,Value.cells]) (by simp[TT.agg,Value.cells]) Try.underlying44 (by first | exact⟨_,rfl,rfl⟩ | rfl | exact⟨_,rfl⟩) (by first | rfl | kernel_rfl) rfl
theorem tt49:TtOk Try.prog 49 ⟨1,24,[nilSV],.slice 5,none⟩:=TtOk.of (z:=.slice none 0 0) (by kernel_rfl) (by kernel_rfl) (by simp[Dens,Den,nilSV,nilLoc0,Value.cells]) (by simp[TT.agg,Value.cells]) Try.underlying49 (by first | exact⟨_,rfl,rfl⟩ | rfl | exact⟨_,rfl⟩) (by first | rfl | kernel_rfl) rfl
theorem tt53:TtOk Try.prog 53 ⟨1,8,[.val (.pointer none)],.pointer,none⟩:=TtOk.of (z:=.pointer none) (by kernel_rfl) (by kernel_rfl) (by simp[Dens,Den,nilSV,nilLoc0,Value.cells]) (by simp[TT.agg,Value.cells]) Try.underlying53 (by first | exact⟨_,rfl,rfl⟩ | rfl | exact⟨_,rfl⟩) (by first | rfl | kernel_rfl) rfl
theorem tt55:TtOk Try.prog 55 ⟨3,40,[.int .i64 0,nilSV,.int .i64 0],.struct [(0,3),(1,22),(2,3)],none⟩:=TtOk.of (z:=.agg #[.int .i64 0,.slice none 0 0,.int .i64 0]) (by kernel_rfl) (by kernel_rfl) (by simp[Dens,Den,nilSV,nilLoc0,Value.cells]) (by simp[TT.agg,Value.cells]) Try.underlying55 (by first | exact⟨_,rfl,rfl⟩ | rfl | exact⟨_,rfl⟩) (by first | rfl | kernel_rfl) rfl
theorem tt56:TtOk Try.prog 56 ⟨3,40,[.int .i64 0,nilSV,.int .i64 0],.struct [(0,3),(1,22),(2,3)],none⟩:=TtOk.of (z:=.agg #[.int .i64 0,.slice none 0 0,.int .i64 0]) (by kernel_rfl) (by kernel_rfl) (by simp[Dens,Den,nilSV,nilLoc0,Value.cells]) (by simp[TT.agg,Value.cells]) Try.underlying56 (by first | exact⟨_,rfl,rfl⟩ | rfl | exact⟨_,rfl⟩) (by first | rfl | kernel_rfl) rfl
theorem tt57:TtOk Try.prog 57 ⟨1,24,[nilSV],.slice 59,none⟩:=TtOk.of (z:=.slice none 0 0) (by kernel_rfl) (by kernel_rfl) (by simp[Dens,Den,nilSV,nilLoc0,Value.cells]) (by simp[TT.agg,Value.cells]) Try.underlying57 (by first | exact⟨_,rfl,rfl⟩ | rfl | exact⟨_,rfl⟩) (by first | rfl | kernel_rfl) rfl
theorem tt59:TtOk Try.prog 59 ⟨2,16,[.int .i64 0,.int .i64 0],.array 2 3,(some [true,true])⟩:=TtOk.of (z:=.agg #[.int .i64 0,.int .i64 0]) (by kernel_rfl) (by kernel_rfl) (by simp[Dens,Den,nilSV,nilLoc0,Value.cells]) (by simp[TT.agg,Value.cells]) Try.underlying59 (by first | exact⟨_,rfl,rfl⟩ | rfl | exact⟨_,rfl⟩) (by first | rfl | kernel_rfl) rfl
theorem tt64:TtOk Try.prog 64 ⟨1,8,[.val (.pointer none)],.pointer,none⟩:=TtOk.of (z:=.pointer none) (by kernel_rfl) (by kernel_rfl) (by simp[Dens,Den,nilSV,nilLoc0,Value.cells]) (by simp[TT.agg,Value.cells]) Try.underlying64 (by first | exact⟨_,rfl,rfl⟩ | rfl | exact⟨_,rfl⟩) (by first | rfl | kernel_rfl) rfl
theorem tt67:TtOk Try.prog 67 ⟨1,8,[.val (.pointer none)],.pointer,none⟩:=TtOk.of (z:=.pointer none) (by kernel_rfl) (by kernel_rfl) (by simp[Dens,Den,nilSV,nilLoc0,Value.cells]) (by simp[TT.agg,Value.cells]) Try.underlying67 (by first | exact⟨_,rfl,rfl⟩ | rfl | exact⟨_,rfl⟩) (by first | rfl | kernel_rfl) rfl
theorem tt70:TtOk Try.prog 70 ⟨1,24,[nilSV],.slice 4,none⟩:=TtOk.of (z:=.slice none 0 0) (by kernel_rfl) (by kernel_rfl) (by simp[Dens,Den,nilSV,nilLoc0,Value.cells]) (by simp[TT.agg,Value.cells]) Try.underlying70 (by first | exact⟨_,rfl,rfl⟩ | rfl | exact⟨_,rfl⟩) (by first | rfl | kernel_rfl) rfl
theorem tt71:TtOk Try.prog 71 ⟨1,24,[nilSV],.slice 148,none⟩:=TtOk.of (z:=.slice none 0 0) (by kernel_rfl) (by kernel_rfl) (by simp[Dens,Den,nilSV,nilLoc0,Value.cells]) (by simp[TT.agg,Value.cells]) Try.underlying71 (by first | exact⟨_,rfl,rfl⟩ | rfl | exact⟨_,rfl⟩) (by first | rfl | kernel_rfl) rfl
theorem tt72:TtOk Try.prog 72 ⟨2,32,[.int .i64 0,nilSV],.struct [(0,3),(1,22)],none⟩:=TtOk.of (z:=.agg #[.int .i64 0,.slice none 0 0]) (by kernel_rfl) (by kernel_rfl) (by simp[Dens,Den,nilSV,nilLoc0,Value.cells]) (by simp[TT.agg,Value.cells]) Try.underlying72 (by first | exact⟨_,rfl,rfl⟩ | rfl | exact⟨_,rfl⟩) (by first | rfl | kernel_rfl) rfl
theorem tt73:TtOk Try.prog 73 ⟨2,32,[.int .i64 0,nilSV],.struct [(0,3),(1,22)],none⟩:=TtOk.of (z:=.agg #[.int .i64 0,.slice none 0 0]) (by kernel_rfl) (by kernel_rfl) (by simp[Dens,Den,nilSV,nilLoc0,Value.cells]) (by simp[TT.agg,Value.cells]) Try.underlying73 (by first | exact⟨_,rfl,rfl⟩ | rfl | exact⟨_,rfl⟩) (by first | rfl | kernel_rfl) rfl
theorem tt74:TtOk Try.prog 74 ⟨9,168,[nilSV,nilSV,nilSV,.int .i64 0,nilSV,.int .i64 0,nilSV,nilSV,.int .i64 0],.struct [(0,22),(1,70),(2,22),(3,3),(4,71),(5,73),(7,22),(8,3)],none⟩:=TtOk.of (z:=.agg #[.slice none 0 0,.slice none 0 0,.slice none 0 0,.int .i64 0,.slice none 0 0,.int .i64 0,.slice none 0 0,.slice none 0 0,.int .i64 0]) (by kernel_rfl) (by kernel_rfl) (by simp[Dens,Den,nilSV,nilLoc0,Value.cells]) (by simp[TT.agg,Value.cells]) Try.underlying74 (by first | exact⟨_,rfl,rfl⟩ | rfl | exact⟨_,rfl⟩) (by first | rfl | kernel_rfl) rfl
theorem tt75:TtOk Try.prog 75 ⟨9,168,[nilSV,nilSV,nilSV,.int .i64 0,nilSV,.int .i64 0,nilSV,nilSV,.int .i64 0],.struct [(0,22),(1,70),(2,22),(3,3),(4,71),(5,73),(7,22),(8,3)],none⟩:=TtOk.of (z:=.agg #[.slice none 0 0,.slice none 0 0,.slice none 0 0,.int .i64 0,.slice none 0 0,.int .i64 0,.slice none 0 0,.slice none 0 0,.int .i64 0]) (by kernel_rfl) (by kernel_rfl) (by simp[Dens,Den,nilSV,nilLoc0,Value.cells]) (by simp[TT.agg,Value.cells]) Try.underlying75 (by first | exact⟨_,rfl,rfl⟩ | rfl | exact⟨_,rfl⟩) (by first | rfl | kernel_rfl) rfl
theorem tt81:TtOk Try.prog 81 ⟨1,8,[.val (.pointer none)],.pointer,none⟩:=TtOk.of (z:=.pointer none) (by kernel_rfl) (by kernel_rfl) (by simp[Dens,Den,nilSV,nilLoc0,Value.cells]) (by simp[TT.agg,Value.cells]) Try.underlying81 (by first | exact⟨_,rfl,rfl⟩ | rfl | exact⟨_,rfl⟩) (by first | rfl | kernel_rfl) rfl
theorem tt91:TtOk Try.prog 91 ⟨1,24,[nilSV],.slice 98,none⟩:=TtOk.of (z:=.slice none 0 0) (by kernel_rfl) (by kernel_rfl) (by simp[Dens,Den,nilSV,nilLoc0,Value.cells]) (by simp[TT.agg,Value.cells]) Try.underlying91 (by first | exact⟨_,rfl,rfl⟩ | rfl | exact⟨_,rfl⟩) (by first | rfl | kernel_rfl) rfl
theorem tt94:TtOk Try.prog 94 ⟨2,16,[.bool false,.int .i64 0],.struct [(0,4),(1,3)],(some [false,true])⟩:=TtOk.of (z:=.agg #[.bool false,.int .i64 0]) (by kernel_rfl) (by kernel_rfl) (by simp[Dens,Den,nilSV,nilLoc0,Value.cells]) (by simp[TT.agg,Value.cells]) Try.underlying94 (by first | exact⟨_,rfl,rfl⟩ | rfl | exact⟨_,rfl⟩) (by first | rfl | kernel_rfl) rfl
theorem tt95:TtOk Try.prog 95 ⟨2,16,[.bool false,.int .i64 0],.struct [(0,4),(1,3)],(some [false,true])⟩:=TtOk.of (z:=.agg #[.bool false,.int .i64 0]) (by kernel_rfl) (by kernel_rfl) (by simp[Dens,Den,nilSV,nilLoc0,Value.cells]) (by simp[TT.agg,Value.cells]) Try.underlying95 (by first | exact⟨_,rfl,rfl⟩ | rfl | exact⟨_,rfl⟩) (by first | rfl | kernel_rfl) rfl
theorem tt97:TtOk Try.prog 97 ⟨2,16,[.int .i64 0,.int .i64 0],.struct [(0,3),(1,3)],(some [true,true])⟩:=TtOk.of (z:=.agg #[.int .i64 0,.int .i64 0]) (by kernel_rfl) (by kernel_rfl) (by simp[Dens,Den,nilSV,nilLoc0,Value.cells]) (by simp[TT.agg,Value.cells]) Try.underlying97 (by first | exact⟨_,rfl,rfl⟩ | rfl | exact⟨_,rfl⟩) (by first | rfl | kernel_rfl) rfl
theorem tt98:TtOk Try.prog 98 ⟨2,16,[.int .i64 0,.int .i64 0],.struct [(0,3),(1,3)],(some [true,true])⟩:=TtOk.of (z:=.agg #[.int .i64 0,.int .i64 0]) (by kernel_rfl) (by kernel_rfl) (by simp[Dens,Den,nilSV,nilLoc0,Value.cells]) (by simp[TT.agg,Value.cells]) Try.underlying98 (by first | exact⟨_,rfl,rfl⟩ | rfl | exact⟨_,rfl⟩) (by first | rfl | kernel_rfl) rfl
theorem tt100:TtOk Try.prog 100 ⟨1,8,[.int .u64 0],.int .u64,none⟩:=TtOk.of (z:=.int .u64 0) (by kernel_rfl) (by kernel_rfl) (by simp[Dens,Den,nilSV,nilLoc0,Value.cells]) (by simp[TT.agg,Value.cells]) Try.underlying100 (by first | exact⟨_,rfl,rfl⟩ | rfl | exact⟨_,rfl⟩) (by first | rfl | kernel_rfl) rfl
theorem tt102:TtOk Try.prog 102 ⟨1,8,[.val (.pointer none)],.pointer,none⟩:=TtOk.of (z:=.pointer none) (by kernel_rfl) (by kernel_rfl) (by simp[Dens,Den,nilSV,nilLoc0,Value.cells]) (by simp[TT.agg,Value.cells]) Try.underlying102 (by first | exact⟨_,rfl,rfl⟩ | rfl | exact⟨_,rfl⟩) (by first | rfl | kernel_rfl) rfl
theorem tt104:TtOk Try.prog 104 ⟨1,8,[.val (.pointer none)],.pointer,none⟩:=TtOk.of (z:=.pointer none) (by kernel_rfl) (by kernel_rfl) (by simp[Dens,Den,nilSV,nilLoc0,Value.cells]) (by simp[TT.agg,Value.cells]) Try.underlying104 (by first | exact⟨_,rfl,rfl⟩ | rfl | exact⟨_,rfl⟩) (by first | rfl | kernel_rfl) rfl
theorem tt107:TtOk Try.prog 107 ⟨1,8,[.val (.pointer none)],.pointer,none⟩:=TtOk.of (z:=.pointer none) (by kernel_rfl) (by kernel_rfl) (by simp[Dens,Den,nilSV,nilLoc0,Value.cells]) (by simp[TT.agg,Value.cells]) Try.underlying107 (by first | exact⟨_,rfl,rfl⟩ | rfl | exact⟨_,rfl⟩) (by first | rfl | kernel_rfl) rfl
theorem tt110:TtOk Try.prog 110 ⟨1,8,[.val (.pointer none)],.pointer,none⟩:=TtOk.of (z:=.pointer none) (by kernel_rfl) (by kernel_rfl) (by simp[Dens,Den,nilSV,nilLoc0,Value.cells]) (by simp[TT.agg,Value.cells]) Try.underlying110 (by first | exact⟨_,rfl,rfl⟩ | rfl | exact⟨_,rfl⟩) (by first | rfl | kernel_rfl) rfl
theorem tt111:TtOk Try.prog 111 ⟨1,8,[.val (.pointer none)],.pointer,none⟩:=TtOk.of (z:=.pointer none) (by kernel_rfl) (by kernel_rfl) (by simp[Dens,Den,nilSV,nilLoc0,Value.cells]) (by simp[TT.agg,Value.cells]) Try.underlying111 (by first | exact⟨_,rfl,rfl⟩ | rfl | exact⟨_,rfl⟩) (by first | rfl | kernel_rfl) rfl
theorem tt112:TtOk Try.prog 112 ⟨3,24,[.val (.pointer none),.val (.pointer none),.int .i64 0],.struct [(0,111),(1,107),(2,25)],none⟩:=TtOk.of (z:=.agg #[.pointer none,.pointer none,.int .i64 0]) (by kernel_rfl) (by kernel_rfl) (by simp[Dens,Den,nilSV,nilLoc0,Value.cells]) (by simp[TT.agg,Value.cells]) Try.underlying112 (by first | exact⟨_,rfl,rfl⟩ | rfl | exact⟨_,rfl⟩) (by first | rfl | kernel_rfl) rfl
theorem tt113:TtOk Try.prog 113 ⟨3,24,[.val (.pointer none),.val (.pointer none),.int .i64 0],.struct [(0,111),(1,107),(2,25)],none⟩:=TtOk.of (z:=.agg #[.pointer none,.pointer none,.int .i64 0]) (by kernel_rfl) (by kernel_rfl) (by simp[Dens,Den,nilSV,nilLoc0,Value.cells]) (by simp[TT.agg,Value.cells]) Try.underlying113 (by first | exact⟨_,rfl,rfl⟩ | rfl | exact⟨_,rfl⟩) (by first | rfl | kernel_rfl) rfl
theorem tt115:TtOk Try.prog 115 ⟨1,8,[.int .u64 0],.int .u64,none⟩:=TtOk.of (z:=.int .u64 0) (by kernel_rfl) (by kernel_rfl) (by simp[Dens,Den,nilSV,nilLoc0,Value.cells]) (by simp[TT.agg,Value.cells]) Try.underlying115 (by first | exact⟨_,rfl,rfl⟩ | rfl | exact⟨_,rfl⟩) (by first | rfl | kernel_rfl) rfl
theorem tt116:TtOk Try.prog 116 ⟨2,16,[.int .u64 0,.int .u64 0],.struct [(0,115),(1,115)],(some [true,true])⟩:=TtOk.of (z:=.agg #[.int .u64 0,.int .u64 0]) (by kernel_rfl) (by kernel_rfl) (by simp[Dens,Den,nilSV,nilLoc0,Value.cells]) (by simp[TT.agg,Value.cells]) Try.underlying116 (by first | exact⟨_,rfl,rfl⟩ | rfl | exact⟨_,rfl⟩) (by first | rfl | kernel_rfl) rfl
theorem tt117:TtOk Try.prog 117 ⟨2,16,[.int .u64 0,.int .u64 0],.struct [(0,115),(1,115)],(some [true,true])⟩:=TtOk.of (z:=.agg #[.int .u64 0,.int .u64 0]) (by kernel_rfl) (by kernel_rfl) (by simp[Dens,Den,nilSV,nilLoc0,Value.cells]) (by simp[TT.agg,Value.cells]) Try.underlying117 (by first | exact⟨_,rfl,rfl⟩ | rfl | exact⟨_,rfl⟩) (by first | rfl | kernel_rfl) rfl
theorem tt118:TtOk Try.prog 118 ⟨9,104,[.int .i64 0,nilSV,.int .u64 0,.int .u64 0,nilSV,.int .i64 0,.int .u64 0,.int .i64 0,.bool false],.struct [(0,73),(2,117),(4,49),(5,3),(6,115),(7,3),(8,4)],none⟩:=TtOk.of (z:=.agg #[.int .i64 0,.slice none 0 0,.int .u64 0,.int .u64 0,.slice none 0 0,.int .i64 0,.int .u64 0,.int .i64 0,.bool false]) (by kernel_rfl) (by kernel_rfl) (by simp[Dens,Den,nilSV,nilLoc0,Value.cells]) (by simp[TT.agg,Value.cells]) Try.underlying118 (by first | exact⟨_,rfl,rfl⟩ | rfl | exact⟨_,rfl⟩) (by first | rfl | kernel_rfl) rfl
theorem tt119:TtOk Try.prog 119 ⟨9,104,[.int .i64 0,nilSV,.int .u64 0,.int .u64 0,nilSV,.int .i64 0,.int .u64 0,.int .i64 0,.bool false],.struct [(0,73),(2,117),(4,49),(5,3),(6,115),(7,3),(8,4)],none⟩:=TtOk.of (z:=.agg #[.int .i64 0,.slice none 0 0,.int .u64 0,.int .u64 0,.slice none 0 0,.int .i64 0,.int .u64 0,.int .i64 0,.bool false]) (by kernel_rfl) (by kernel_rfl) (by simp[Dens,Den,nilSV,nilLoc0,Value.cells]) (by simp[TT.agg,Value.cells]) Try.underlying119 (by first | exact⟨_,rfl,rfl⟩ | rfl | exact⟨_,rfl⟩) (by first | rfl | kernel_rfl) rfl
theorem tt120:TtOk Try.prog 120 ⟨1,24,[nilSV],.slice 134,none⟩:=TtOk.of (z:=.slice none 0 0) (by kernel_rfl) (by kernel_rfl) (by simp[Dens,Den,nilSV,nilLoc0,Value.cells]) (by simp[TT.agg,Value.cells]) Try.underlying120 (by first | exact⟨_,rfl,rfl⟩ | rfl | exact⟨_,rfl⟩) (by first | rfl | kernel_rfl) rfl
theorem tt121:TtOk Try.prog 121 ⟨1,24,[nilSV],.slice 168,none⟩:=TtOk.of (z:=.slice none 0 0) (by kernel_rfl) (by kernel_rfl) (by simp[Dens,Den,nilSV,nilLoc0,Value.cells]) (by simp[TT.agg,Value.cells]) Try.underlying121 (by first | exact⟨_,rfl,rfl⟩ | rfl | exact⟨_,rfl⟩) (by first | rfl | kernel_rfl) rfl
theorem tt122:TtOk Try.prog 122 ⟨8,160,[.int .i64 0,.int .i64 0,nilSV,nilSV,nilSV,nilSV,nilSV,nilSV],.struct [(0,3),(1,3),(2,120),(3,121),(4,22),(5,70),(6,22),(7,70)],none⟩:=TtOk.of (z:=.agg #[.int .i64 0,.int .i64 0,.slice none 0 0,.slice none 0 0,.slice none 0 0,.slice none 0 0,.slice none 0 0,.slice none 0 0]) (by kernel_rfl) (by kernel_rfl) (by simp[Dens,Den,nilSV,nilLoc0,Value.cells]) (by simp[TT.agg,Value.cells]) Try.underlying122 (by first | exact⟨_,rfl,rfl⟩ | rfl | exact⟨_,rfl⟩) (by first | rfl | kernel_rfl) rfl
theorem tt123:TtOk Try.prog 123 ⟨8,160,[.int .i64 0,.int .i64 0,nilSV,nilSV,nilSV,nilSV,nilSV,nilSV],.struct [(0,3),(1,3),(2,120),(3,121),(4,22),(5,70),(6,22),(7,70)],none⟩:=TtOk.of (z:=.agg #[.int .i64 0,.int .i64 0,.slice none 0 0,.slice none 0 0,.slice none 0 0,.slice none 0 0,.slice none 0 0,.slice none 0 0]) (by kernel_rfl) (by kernel_rfl) (by simp[Dens,Den,nilSV,nilLoc0,Value.cells]) (by simp[TT.agg,Value.cells]) Try.underlying123 (by first | exact⟨_,rfl,rfl⟩ | rfl | exact⟨_,rfl⟩) (by first | rfl | kernel_rfl) rfl
theorem tt133:TtOk Try.prog 133 ⟨6,48,[.int .i64 0,.int .i64 0,.int .i64 0,.int .i64 0,.int .i64 0,.int .i64 0],.struct [(0,3),(1,3),(2,3),(3,3),(4,3),(5,3)],(some [true,true,true,true,true,true])⟩:=TtOk.of (z:=.agg #[.int .i64 0,.int .i64 0,.int .i64 0,.int .i64 0,.int .i64 0,.int .i64 0]) (by kernel_rfl) (by kernel_rfl) (by simp[Dens,Den,nilSV,nilLoc0,Value.cells]) (by simp[TT.agg,Value.cells]) Try.underlying133 (by first | exact⟨_,rfl,rfl⟩ | rfl | exact⟨_,rfl⟩) (by first | rfl | kernel_rfl) rfl
theorem tt134:TtOk Try.prog 134 ⟨6,48,[.int .i64 0,.int .i64 0,.int .i64 0,.int .i64 0,.int .i64 0,.int .i64 0],.struct [(0,3),(1,3),(2,3),(3,3),(4,3),(5,3)],(some [true,true,true,true,true,true])⟩:=TtOk.of (z:=.agg #[.int .i64 0,.int .i64 0,.int .i64 0,.int .i64 0,.int .i64 0,.int .i64 0]) (by kernel_rfl) (by kernel_rfl) (by simp[Dens,Den,nilSV,nilLoc0,Value.cells]) (by simp[TT.agg,Value.cells]) Try.underlying134 (by first | exact⟨_,rfl,rfl⟩ | rfl | exact⟨_,rfl⟩) (by first | rfl | kernel_rfl) rfl
theorem tt137:TtOk Try.prog 137 ⟨32,256,[.int .i64 0,.int .i64 0,.int .i64 0,.int .i64 0,.int .i64 0,.int .i64 0,.int .i64 0,.int .i64 0,.int .i64 0,.int .i64 0,.int .i64 0,.int .i64 0,.int .i64 0,.int .i64 0,.int .i64 0,.int .i64 0,.int .i64 0,.int .i64 0,.int .i64 0,.int .i64 0,.int .i64 0,.int .i64 0,.int .i64 0,.int .i64 0,.int .i64 0,.int .i64 0,.int .i64 0,.int .i64 0,.int .i64 0,.int .i64 0,.int .i64 0,.int .i64 0],.array 32 3,(some [true,true,true,true,true,true,true,true,true,true,true,true,true,true,true,true,true,true,true,true,true,true,true,true,true,true,true,true,true,true,true,true])⟩:=TtOk.of (z:=.agg #[.int .i64 0,.int .i64 0,.int .i64 0,.int .i64 0,.int .i64 0,.int .i64 0,.int .i64 0,.int .i64 0,.int .i64 0,.int .i64 0,.int .i64 0,.int .i64 0,.int .i64 0,.int .i64 0,.int .i64 0,.int .i64 0,.int .i64 0,.int .i64 0,.int .i64 0,.int .i64 0,.int .i64 0,.int .i64 0,.int .i64 0,.int .i64 0,.int .i64 0,.int .i64 0,.int .i64 0,.int .i64 0,.int .i64 0,.int .i64 0,.int .i64 0,.int .i64 0]) (by kernel_rfl) (by kernel_rfl) (by simp[Dens,Den,nilSV,nilLoc0,Value.cells]) (by simp[TT.agg,Value.cells]) Try.underlying137 (by first | exact⟨_,rfl,rfl⟩ | rfl | exact⟨_,rfl⟩) (by first | rfl | kernel_rfl) rfl
theorem tt138:TtOk Try.prog 138 ⟨32,256,[.int .i64 0,.int .i64 0,.int .i64 0,.int .i64 0,.int .i64 0,.int .i64 0,.int .i64 0,.int .i64 0,.int .i64 0,.int .i64 0,.int .i64 0,.int .i64 0,.int .i64 0,.int .i64 0,.int .i64 0,.int .i64 0,.int .i64 0,.int .i64 0,.int .i64 0,.int .i64 0,.int .i64 0,.int .i64 0,.int .i64 0,.int .i64 0,.int .i64 0,.int .i64 0,.int .i64 0,.int .i64 0,.int .i64 0,.int .i64 0,.int .i64 0,.int .i64 0],.array 32 3,(some [true,true,true,true,true,true,true,true,true,true,true,true,true,true,true,true,true,true,true,true,true,true,true,true,true,true,true,true,true,true,true,true])⟩:=TtOk.of (z:=.agg #[.int .i64 0,.int .i64 0,.int .i64 0,.int .i64 0,.int .i64 0,.int .i64 0,.int .i64 0,.int .i64 0,.int .i64 0,.int .i64 0,.int .i64 0,.int .i64 0,.int .i64 0,.int .i64 0,.int .i64 0,.int .i64 0,.int .i64 0,.int .i64 0,.int .i64 0,.int .i64 0,.int .i64 0,.int .i64 0,.int .i64 0,.int .i64 0,.int .i64 0,.int .i64 0,.int .i64 0,.int .i64 0,.int .i64 0,.int .i64 0,.int .i64 0,.int .i64 0]) (by kernel_rfl) (by kernel_rfl) (by simp[Dens,Den,nilSV,nilLoc0,Value.cells]) (by simp[TT.agg,Value.cells]) Try.underlying138 (by first | exact⟨_,rfl,rfl⟩ | rfl | exact⟨_,rfl⟩) (by first | rfl | kernel_rfl) rfl
theorem tt139:TtOk Try.prog 139 ⟨36,304,[.int .i64 0,nilSV,.int .i64 0,.int .i64 0,.int .i64 0,.int .i64 0,.int .i64 0,.int .i64 0,.int .i64 0,.int .i64 0,.int .i64 0,.int .i64 0,.int .i64 0,.int .i64 0,.int .i64 0,.int .i64 0,.int .i64 0,.int .i64 0,.int .i64 0,.int .i64 0,.int .i64 0,.int .i64 0,.int .i64 0,.int .i64 0,.int .i64 0,.int .i64 0,.int .i64 0,.int .i64 0,.int .i64 0,.int .i64 0,.int .i64 0,.int .i64 0,.int .i64 0,.int .i64 0,.int .u64 0,.int .u64 0],.struct [(0,73),(2,138),(34,115),(35,115)],none⟩:=TtOk.of (z:=.agg #[.int .i64 0,.slice none 0 0,.int .i64 0,.int .i64 0,.int .i64 0,.int .i64 0,.int .i64 0,.int .i64 0,.int .i64 0,.int .i64 0,.int .i64 0,.int .i64 0,.int .i64 0,.int .i64 0,.int .i64 0,.int .i64 0,.int .i64 0,.int .i64 0,.int .i64 0,.int .i64 0,.int .i64 0,.int .i64 0,.int .i64 0,.int .i64 0,.int .i64 0,.int .i64 0,.int .i64 0,.int .i64 0,.int .i64 0,.int .i64 0,.int .i64 0,.int .i64 0,.int .i64 0,.int .i64 0,.int .u64 0,.int .u64 0]) (by kernel_rfl) (by kernel_rfl) (by simp[Dens,Den,nilSV,nilLoc0,Value.cells]) (by simp[TT.agg,Value.cells]) Try.underlying139 (by first | exact⟨_,rfl,rfl⟩ | rfl | exact⟨_,rfl⟩) (by first | rfl | kernel_rfl) rfl
theorem tt140:TtOk Try.prog 140 ⟨36,304,[.int .i64 0,nilSV,.int .i64 0,.int .i64 0,.int .i64 0,.int .i64 0,.int .i64 0,.int .i64 0,.int .i64 0,.int .i64 0,.int .i64 0,.int .i64 0,.int .i64 0,.int .i64 0,.int .i64 0,.int .i64 0,.int .i64 0,.int .i64 0,.int .i64 0,.int .i64 0,.int .i64 0,.int .i64 0,.int .i64 0,.int .i64 0,.int .i64 0,.int .i64 0,.int .i64 0,.int .i64 0,.int .i64 0,.int .i64 0,.int .i64 0,.int .i64 0,.int .i64 0,.int .i64 0,.int .u64 0,.int .u64 0],.struct [(0,73),(2,138),(34,115),(35,115)],none⟩:=TtOk.of (z:=.agg #[.int .i64 0,.slice none 0 0,.int .i64 0,.int .i64 0,.int .i64 0,.int .i64 0,.int .i64 0,.int .i64 0,.int .i64 0,.int .i64 0,.int .i64 0,.int .i64 0,.int .i64 0,.int .i64 0,.int .i64 0,.int .i64 0,.int .i64 0,.int .i64 0,.int .i64 0,.int .i64 0,.int .i64 0,.int .i64 0,.int .i64 0,.int .i64 0,.int .i64 0,.int .i64 0,.int .i64 0,.int .i64 0,.int .i64 0,.int .i64 0,.int .i64 0,.int .i64 0,.int .i64 0,.int .i64 0,.int .u64 0,.int .u64 0]) (by kernel_rfl) (by kernel_rfl) (by simp[Dens,Den,nilSV,nilLoc0,Value.cells]) (by simp[TT.agg,Value.cells]) Try.underlying140 (by first | exact⟨_,rfl,rfl⟩ | rfl | exact⟨_,rfl⟩) (by first | rfl | kernel_rfl) rfl
theorem tt142:TtOk Try.prog 142 ⟨38,336,[.int .i64 0,nilSV,.int .i64 0,.int .i64 0,.int .i64 0,.int .i64 0,.int .i64 0,.int .i64 0,.int .i64 0,.int .i64 0,.int .i64 0,.int .i64 0,.int .i64 0,.int .i64 0,.int .i64 0,.int .i64 0,.int .i64 0,.int .i64 0,.int .i64 0,.int .i64 0,.int .i64 0,.int .i64 0,.int .i64 0,.int .i64 0,.int .i64 0,.int .i64 0,.int .i64 0,.int .i64 0,.int .i64 0,.int .i64 0,.int .i64 0,.int .i64 0,.int .i64 0,.int .i64 0,.int .u64 0,.int .u64 0,nilSV,.bool false],.struct [(0,140),(36,49),(37,4)],none⟩:=TtOk.of (z:=.agg #[.int .i64 0,.slice none 0 0,.int .i64 0,.int .i64 0,.int .i64 0,.int .i64 0,.int .i64 0,.int .i64 0,.int .i64 0,.int .i64 0,.int .i64 0,.int .i64 0,.int .i64 0,.int .i64 0,.int .i64 0,.int .i64 0,.int .i64 0,.int .i64 0,.int .i64 0,.int .i64 0,.int .i64 0,.int .i64 0,.int .i64 0,.int .i64 0,.int .i64 0,.int .i64 0,.int .i64 0,.int .i64 0,.int .i64 0,.int .i64 0,.int .i64 0,.int .i64 0,.int .i64 0,.int .i64 0,.int .u64 0,.int .u64 0,.slice none 0 0,.bool false]) (by kernel_rfl) (by kernel_rfl) (by simp[Dens,Den,nilSV,nilLoc0,Value.cells]) (by simp[TT.agg,Value.cells]) Try.underlying142 (by first | exact⟨_,rfl,rfl⟩ | rfl | exact⟨_,rfl⟩) (by first | rfl | kernel_rfl) rfl
theorem tt143:TtOk Try.prog 143 ⟨38,336,[.int .i64 0,nilSV,.int .i64 0,.int .i64 0,.int .i64 0,.int .i64 0,.int .i64 0,.int .i64 0,.int .i64 0,.int .i64 0,.int .i64 0,.int .i64 0,.int .i64 0,.int .i64 0,.int .i64 0,.int .i64 0,.int .i64 0,.int .i64 0,.int .i64 0,.int .i64 0,.int .i64 0,.int .i64 0,.int .i64 0,.int .i64 0,.int .i64 0,.int .i64 0,.int .i64 0,.int .i64 0,.int .i64 0,.int .i64 0,.int .i64 0,.int .i64 0,.int .i64 0,.int .i64 0,.int .u64 0,.int .u64 0,nilSV,.bool false],.struct [(0,140),(36,49),(37,4)],none⟩:=TtOk.of (z:=.agg #[.int .i64 0,.slice none 0 0,.int .i64 0,.int .i64 0,.int .i64 0,.int .i64 0,.int .i64 0,.int .i64 0,.int .i64 0,.int .i64 0,.int .i64 0,.int .i64 0,.int .i64 0,.int .i64 0,.int .i64 0,.int .i64 0,.int .i64 0,.int .i64 0,.int .i64 0,.int .i64 0,.int .i64 0,.int .i64 0,.int .i64 0,.int .i64 0,.int .i64 0,.int .i64 0,.int .i64 0,.int .i64 0,.int .i64 0,.int .i64 0,.int .i64 0,.int .i64 0,.int .i64 0,.int .i64 0,.int .u64 0,.int .u64 0,.slice none 0 0,.bool false]) (by kernel_rfl) (by kernel_rfl) (by simp[Dens,Den,nilSV,nilLoc0,Value.cells]) (by simp[TT.agg,Value.cells]) Try.underlying143 (by first | exact⟨_,rfl,rfl⟩ | rfl | exact⟨_,rfl⟩) (by first | rfl | kernel_rfl) rfl
theorem tt146:TtOk Try.prog 146 ⟨1,8,[.val (.pointer none)],.pointer,none⟩:=TtOk.of (z:=.pointer none) (by kernel_rfl) (by kernel_rfl) (by simp[Dens,Den,nilSV,nilLoc0,Value.cells]) (by simp[TT.agg,Value.cells]) Try.underlying146 (by first | exact⟨_,rfl,rfl⟩ | rfl | exact⟨_,rfl⟩) (by first | rfl | kernel_rfl) rfl
theorem tt147:TtOk Try.prog 147 ⟨4,48,[nilSV,.int .i64 0,.int .i64 0,.bool false],.struct [(0,22),(1,3),(2,3),(3,4)],none⟩:=TtOk.of (z:=.agg #[.slice none 0 0,.int .i64 0,.int .i64 0,.bool false]) (by kernel_rfl) (by kernel_rfl) (by simp[Dens,Den,nilSV,nilLoc0,Value.cells]) (by simp[TT.agg,Value.cells]) Try.underlying147 (by first | exact⟨_,rfl,rfl⟩ | rfl | exact⟨_,rfl⟩) (by first | rfl | kernel_rfl) rfl
theorem tt148:TtOk Try.prog 148 ⟨4,48,[nilSV,.int .i64 0,.int .i64 0,.bool false],.struct [(0,22),(1,3),(2,3),(3,4)],none⟩:=TtOk.of (z:=.agg #[.slice none 0 0,.int .i64 0,.int .i64 0,.bool false]) (by kernel_rfl) (by kernel_rfl) (by simp[Dens,Den,nilSV,nilLoc0,Value.cells]) (by simp[TT.agg,Value.cells]) Try.underlying148 (by first | exact⟨_,rfl,rfl⟩ | rfl | exact⟨_,rfl⟩) (by first | rfl | kernel_rfl) rfl
theorem tt158:TtOk Try.prog 158 ⟨42,360,[.int .i64 0,nilSV,.int .i64 0,.int .i64 0,.int .i64 0,.int .i64 0,.int .i64 0,.int .i64 0,.int .i64 0,.int .i64 0,.int .i64 0,.int .i64 0,.int .i64 0,.int .i64 0,.int .i64 0,.int .i64 0,.int .i64 0,.int .i64 0,.int .i64 0,.int .i64 0,.int .i64 0,.int .i64 0,.int .i64 0,.int .i64 0,.int .i64 0,.int .i64 0,.int .i64 0,.int .i64 0,.int .i64 0,.int .i64 0,.int .i64 0,.int .i64 0,.int .i64 0,.int .i64 0,.int .u64 0,.int .u64 0,nilSV,.int .i64 0,.int .u64 0,.int .i64 0,.bool false,.bool false],.struct [(0,140),(36,49),(37,3),(38,115),(39,3),(40,4),(41,4)],none⟩:=TtOk.of (z:=.agg #[.int .i64 0,.slice none 0 0,.int .i64 0,.int .i64 0,.int .i64 0,.int .i64 0,.int .i64 0,.int .i64 0,.int .i64 0,.int .i64 0,.int .i64 0,.int .i64 0,.int .i64 0,.int .i64 0,.int .i64 0,.int .i64 0,.int .i64 0,.int .i64 0,.int .i64 0,.int .i64 0,.int .i64 0,.int .i64 0,.int .i64 0,.int .i64 0,.int .i64 0,.int .i64 0,.int .i64 0,.int .i64 0,.int .i64 0,.int .i64 0,.int .i64 0,.int .i64 0,.int .i64 0,.int .i64 0,.int .u64 0,.int .u64 0,.slice none 0 0,.int .i64 0,.int .u64 0,.int .i64 0,.bool false,.bool false]) (by kernel_rfl) (by kernel_rfl) (by simp[Dens,Den,nilSV,nilLoc0,Value.cells]) (by simp[TT.agg,Value.cells]) Try.underlying158 (by first | exact⟨_,rfl,rfl⟩ | rfl | exact⟨_,rfl⟩) (by first | rfl | kernel_rfl) rfl
theorem tt159:TtOk Try.prog 159 ⟨42,360,[.int .i64 0,nilSV,.int .i64 0,.int .i64 0,.int .i64 0,.int .i64 0,.int .i64 0,.int .i64 0,.int .i64 0,.int .i64 0,.int .i64 0,.int .i64 0,.int .i64 0,.int .i64 0,.int .i64 0,.int .i64 0,.int .i64 0,.int .i64 0,.int .i64 0,.int .i64 0,.int .i64 0,.int .i64 0,.int .i64 0,.int .i64 0,.int .i64 0,.int .i64 0,.int .i64 0,.int .i64 0,.int .i64 0,.int .i64 0,.int .i64 0,.int .i64 0,.int .i64 0,.int .i64 0,.int .u64 0,.int .u64 0,nilSV,.int .i64 0,.int .u64 0,.int .i64 0,.bool false,.bool false],.struct [(0,140),(36,49),(37,3),(38,115),(39,3),(40,4),(41,4)],none⟩:=TtOk.of (z:=.agg #[.int .i64 0,.slice none 0 0,.int .i64 0,.int .i64 0,.int .i64 0,.int .i64 0,.int .i64 0,.int .i64 0,.int .i64 0,.int .i64 0,.int .i64 0,.int .i64 0,.int .i64 0,.int .i64 0,.int .i64 0,.int .i64 0,.int .i64 0,.int .i64 0,.int .i64 0,.int .i64 0,.int .i64 0,.int .i64 0,.int .i64 0,.int .i64 0,.int .i64 0,.int .i64 0,.int .i64 0,.int .i64 0,.int .i64 0,.int .i64 0,.int .i64 0,.int .i64 0,.int .i64 0,.int .i64 0,.int .u64 0,.int .u64 0,.slice none 0 0,.int .i64 0,.int .u64 0,.int .i64 0,.bool false,.bool false]) (by kernel_rfl) (by kernel_rfl) (by simp[Dens,Den,nilSV,nilLoc0,Value.cells]) (by simp[TT.agg,Value.cells]) Try.underlying159 (by first | exact⟨_,rfl,rfl⟩ | rfl | exact⟨_,rfl⟩) (by first | rfl | kernel_rfl) rfl
theorem tt167:TtOk Try.prog 167 ⟨8,64,[.int .i64 0,.int .i64 0,.int .i64 0,.int .i64 0,.int .i64 0,.int .i64 0,.int .i64 0,.int .i64 0],.struct [(0,3),(1,3),(2,3),(3,3),(4,3),(5,3),(6,3),(7,3)],(some [true,true,true,true,true,true,true,true])⟩:=TtOk.of (z:=.agg #[.int .i64 0,.int .i64 0,.int .i64 0,.int .i64 0,.int .i64 0,.int .i64 0,.int .i64 0,.int .i64 0]) (by kernel_rfl) (by kernel_rfl) (by simp[Dens,Den,nilSV,nilLoc0,Value.cells]) (by simp[TT.agg,Value.cells]) Try.underlying167 (by first | exact⟨_,rfl,rfl⟩ | rfl | exact⟨_,rfl⟩) (by first | rfl | kernel_rfl) rfl
theorem tt168:TtOk Try.prog 168 ⟨8,64,[.int .i64 0,.int .i64 0,.int .i64 0,.int .i64 0,.int .i64 0,.int .i64 0,.int .i64 0,.int .i64 0],.struct [(0,3),(1,3),(2,3),(3,3),(4,3),(5,3),(6,3),(7,3)],(some [true,true,true,true,true,true,true,true])⟩:=TtOk.of (z:=.agg #[.int .i64 0,.int .i64 0,.int .i64 0,.int .i64 0,.int .i64 0,.int .i64 0,.int .i64 0,.int .i64 0]) (by kernel_rfl) (by kernel_rfl) (by simp[Dens,Den,nilSV,nilLoc0,Value.cells]) (by simp[TT.agg,Value.cells]) Try.underlying168 (by first | exact⟨_,rfl,rfl⟩ | rfl | exact⟨_,rfl⟩) (by first | rfl | kernel_rfl) rfl
theorem tt175:TtOk Try.prog 175 ⟨1,24,[nilSV],.slice 177,none⟩:=TtOk.of (z:=.slice none 0 0) (by kernel_rfl) (by kernel_rfl) (by simp[Dens,Den,nilSV,nilLoc0,Value.cells]) (by simp[TT.agg,Value.cells]) Try.underlying175 (by first | exact⟨_,rfl,rfl⟩ | rfl | exact⟨_,rfl⟩) (by first | rfl | kernel_rfl) rfl
theorem tt176:TtOk Try.prog 176 ⟨9,72,[.int .i64 0,.int .i64 0,.int .i64 0,.int .i64 0,.int .i64 0,.int .i64 0,.int .i64 0,.int .i64 0,.int .i64 0],.struct [(0,134),(6,3),(7,3),(8,3)],none⟩:=TtOk.of (z:=.agg #[.int .i64 0,.int .i64 0,.int .i64 0,.int .i64 0,.int .i64 0,.int .i64 0,.int .i64 0,.int .i64 0,.int .i64 0]) (by kernel_rfl) (by kernel_rfl) (by simp[Dens,Den,nilSV,nilLoc0,Value.cells]) (by simp[TT.agg,Value.cells]) Try.underlying176 (by first | exact⟨_,rfl,rfl⟩ | rfl | exact⟨_,rfl⟩) (by first | rfl | kernel_rfl) rfl
theorem tt177:TtOk Try.prog 177 ⟨9,72,[.int .i64 0,.int .i64 0,.int .i64 0,.int .i64 0,.int .i64 0,.int .i64 0,.int .i64 0,.int .i64 0,.int .i64 0],.struct [(0,134),(6,3),(7,3),(8,3)],none⟩:=TtOk.of (z:=.agg #[.int .i64 0,.int .i64 0,.int .i64 0,.int .i64 0,.int .i64 0,.int .i64 0,.int .i64 0,.int .i64 0,.int .i64 0]) (by kernel_rfl) (by kernel_rfl) (by simp[Dens,Den,nilSV,nilLoc0,Value.cells]) (by simp[TT.agg,Value.cells]) Try.underlying177 (by first | exact⟨_,rfl,rfl⟩ | rfl | exact⟨_,rfl⟩) (by first | rfl | kernel_rfl) rfl
theorem tt178:TtOk Try.prog 178 ⟨1,8,[.val (.pointer none)],.pointer,none⟩:=TtOk.of (z:=.pointer none) (by kernel_rfl) (by kernel_rfl) (by simp[Dens,Den,nilSV,nilLoc0,Value.cells]) (by simp[TT.agg,Value.cells]) Try.underlying178 (by first | exact⟨_,rfl,rfl⟩ | rfl | exact⟨_,rfl⟩) (by first | rfl | kernel_rfl) rfl
theorem tt183:TtOk Try.prog 183 ⟨1,4,[.int .u32 0],.int .u32,none⟩:=TtOk.of (z:=.int .u32 0) (by kernel_rfl) (by kernel_rfl) (by simp[Dens,Den,nilSV,nilLoc0,Value.cells]) (by simp[TT.agg,Value.cells]) Try.underlying183 (by first | exact⟨_,rfl,rfl⟩ | rfl | exact⟨_,rfl⟩) (by first | rfl | kernel_rfl) rfl
theorem tt187:TtOk Try.prog 187 ⟨1,8,[.val (.pointer none)],.pointer,none⟩:=TtOk.of (z:=.pointer none) (by kernel_rfl) (by kernel_rfl) (by simp[Dens,Den,nilSV,nilLoc0,Value.cells]) (by simp[TT.agg,Value.cells]) Try.underlying187 (by first | exact⟨_,rfl,rfl⟩ | rfl | exact⟨_,rfl⟩) (by first | rfl | kernel_rfl) rfl
theorem tt189:TtOk Try.prog 189 ⟨1,8,[.int .i64 0],.struct [(0,3)],(some [true])⟩:=TtOk.of (z:=.agg #[.int .i64 0]) (by kernel_rfl) (by kernel_rfl) (by simp[Dens,Den,nilSV,nilLoc0,Value.cells]) (by simp[TT.agg,Value.cells]) Try.underlying189 (by first | exact⟨_,rfl,rfl⟩ | rfl | exact⟨_,rfl⟩) (by first | rfl | kernel_rfl) rfl
theorem tt190:TtOk Try.prog 190 ⟨1,8,[.int .i64 0],.struct [(0,3)],(some [true])⟩:=TtOk.of (z:=.agg #[.int .i64 0]) (by kernel_rfl) (by kernel_rfl) (by simp[Dens,Den,nilSV,nilLoc0,Value.cells]) (by simp[TT.agg,Value.cells]) Try.underlying190 (by first | exact⟨_,rfl,rfl⟩ | rfl | exact⟨_,rfl⟩) (by first | rfl | kernel_rfl) rfl
theorem tt195:TtOk Try.prog 195 ⟨1,8,[.val (.pointer none)],.pointer,none⟩:=TtOk.of (z:=.pointer none) (by kernel_rfl) (by kernel_rfl) (by simp[Dens,Den,nilSV,nilLoc0,Value.cells]) (by simp[TT.agg,Value.cells]) Try.underlying195 (by first | exact⟨_,rfl,rfl⟩ | rfl | exact⟨_,rfl⟩) (by first | rfl | kernel_rfl) rfl
theorem tt198:TtOk Try.prog 198 ⟨5,72,[.int .i64 0,nilSV,.int .u64 0,.int .u64 0,nilSV],.struct [(0,73),(2,117),(4,49)],none⟩:=TtOk.of (z:=.agg #[.int .i64 0,.slice none 0 0,.int .u64 0,.int .u64 0,.slice none 0 0]) (by kernel_rfl) (by kernel_rfl) (by simp[Dens,Den,nilSV,nilLoc0,Value.cells]) (by simp[TT.agg,Value.cells]) Try.underlying198 (by first | exact⟨_,rfl,rfl⟩ | rfl | exact⟨_,rfl⟩) (by first | rfl | kernel_rfl) rfl
theorem tt199:TtOk Try.prog 199 ⟨5,72,[.int .i64 0,nilSV,.int .u64 0,.int .u64 0,nilSV],.struct [(0,73),(2,117),(4,49)],none⟩:=TtOk.of (z:=.agg #[.int .i64 0,.slice none 0 0,.int .u64 0,.int .u64 0,.slice none 0 0]) (by kernel_rfl) (by kernel_rfl) (by simp[Dens,Den,nilSV,nilLoc0,Value.cells]) (by simp[TT.agg,Value.cells]) Try.underlying199 (by first | exact⟨_,rfl,rfl⟩ | rfl | exact⟨_,rfl⟩) (by first | rfl | kernel_rfl) rfl
theorem tt202:TtOk Try.prog 202 ⟨4,40,[.val (.pointer none),.val (.pointer none),.val (.pointer none),.val (.string ⟨#[]⟩)],.struct [(0,17),(1,17),(2,17),(3,9)],none⟩:=TtOk.of (z:=.agg #[.pointer none,.pointer none,.pointer none,.string ⟨#[]⟩]) (by kernel_rfl) (by kernel_rfl) (by simp[Dens,Den,nilSV,nilLoc0,Value.cells]) (by simp[TT.agg,Value.cells]) Try.underlying202 (by first | exact⟨_,rfl,rfl⟩ | rfl | exact⟨_,rfl⟩) (by first | rfl | kernel_rfl) rfl
theorem tt203:TtOk Try.prog 203 ⟨4,40,[.val (.pointer none),.val (.pointer none),.val (.pointer none),.val (.string ⟨#[]⟩)],.struct [(0,17),(1,17),(2,17),(3,9)],none⟩:=TtOk.of (z:=.agg #[.pointer none,.pointer none,.pointer none,.string ⟨#[]⟩]) (by kernel_rfl) (by kernel_rfl) (by simp[Dens,Den,nilSV,nilLoc0,Value.cells]) (by simp[TT.agg,Value.cells]) Try.underlying203 (by first | exact⟨_,rfl,rfl⟩ | rfl | exact⟨_,rfl⟩) (by first | rfl | kernel_rfl) rfl
theorem tt204:TtOk Try.prog 204 ⟨0,0,[],.array 0 16,none⟩:=TtOk.of (z:=.agg #[]) (by kernel_rfl) (by kernel_rfl) (by simp[Dens,Den,nilSV,nilLoc0,Value.cells]) (by simp[TT.agg,Value.cells]) Try.underlying204 (by first | exact⟨_,rfl,rfl⟩ | rfl | exact⟨_,rfl⟩) (by first | rfl | kernel_rfl) rfl
theorem tt205:TtOk Try.prog 205 ⟨0,0,[],.struct [(0,204)],none⟩:=TtOk.of (z:=.agg #[]) (by kernel_rfl) (by kernel_rfl) (by simp[Dens,Den,nilSV,nilLoc0,Value.cells]) (by simp[TT.agg,Value.cells]) Try.underlying205 (by first | exact⟨_,rfl,rfl⟩ | rfl | exact⟨_,rfl⟩) (by first | rfl | kernel_rfl) rfl
theorem tt206:TtOk Try.prog 206 ⟨0,0,[],.struct [(0,204)],none⟩:=TtOk.of (z:=.agg #[]) (by kernel_rfl) (by kernel_rfl) (by simp[Dens,Den,nilSV,nilLoc0,Value.cells]) (by simp[TT.agg,Value.cells]) Try.underlying206 (by first | exact⟨_,rfl,rfl⟩ | rfl | exact⟨_,rfl⟩) (by first | rfl | kernel_rfl) rfl
theorem tt207:TtOk Try.prog 207 ⟨1,1,[.int .u8 0],.int .u8,none⟩:=TtOk.of (z:=.int .u8 0) (by kernel_rfl) (by kernel_rfl) (by simp[Dens,Den,nilSV,nilLoc0,Value.cells]) (by simp[TT.agg,Value.cells]) Try.underlying207 (by first | exact⟨_,rfl,rfl⟩ | rfl | exact⟨_,rfl⟩) (by first | rfl | kernel_rfl) rfl
theorem tt208:TtOk Try.prog 208 ⟨1,1,[.int .u8 0],.int .u8,none⟩:=TtOk.of (z:=.int .u8 0) (by kernel_rfl) (by kernel_rfl) (by simp[Dens,Den,nilSV,nilLoc0,Value.cells]) (by simp[TT.agg,Value.cells]) Try.underlying208 (by first | exact⟨_,rfl,rfl⟩ | rfl | exact⟨_,rfl⟩) (by first | rfl | kernel_rfl) rfl
theorem tt210:TtOk Try.prog 210 ⟨1,8,[.val (.pointer none)],.pointer,none⟩:=TtOk.of (z:=.pointer none) (by kernel_rfl) (by kernel_rfl) (by simp[Dens,Den,nilSV,nilLoc0,Value.cells]) (by simp[TT.agg,Value.cells]) Try.underlying210 (by first | exact⟨_,rfl,rfl⟩ | rfl | exact⟨_,rfl⟩) (by first | rfl | kernel_rfl) rfl
theorem tt211:TtOk Try.prog 211 ⟨1,4,[.int .i32 0],.int .i32,none⟩:=TtOk.of (z:=.int .i32 0) (by kernel_rfl) (by kernel_rfl) (by simp[Dens,Den,nilSV,nilLoc0,Value.cells]) (by simp[TT.agg,Value.cells]) Try.underlying211 (by first | exact⟨_,rfl,rfl⟩ | rfl | exact⟨_,rfl⟩) (by first | rfl | kernel_rfl) rfl
theorem tt212:TtOk Try.prog 212 ⟨1,4,[.int .i32 0],.int .i32,none⟩:=TtOk.of (z:=.int .i32 0) (by kernel_rfl) (by kernel_rfl) (by simp[Dens,Den,nilSV,nilLoc0,Value.cells]) (by simp[TT.agg,Value.cells]) Try.underlying212 (by first | exact⟨_,rfl,rfl⟩ | rfl | exact⟨_,rfl⟩) (by first | rfl | kernel_rfl) rfl
theorem tt213:TtOk Try.prog 213 ⟨11,48,[.int .u64 0,.int .u64 0,.int .u32 0,.int .u8 0,.int .u8 0,.int .u8 0,.int .u8 0,.val .nilFunc,.val (.pointer none),.int .i32 0,.int .i32 0],.struct [(0,12),(1,12),(2,183),(3,207),(4,5),(5,5),(6,208),(7,209),(8,210),(9,211),(10,212)],none⟩:=TtOk.of (z:=.agg #[.int .u64 0,.int .u64 0,.int .u32 0,.int .u8 0,.int .u8 0,.int .u8 0,.int .u8 0,.nilFunc,.pointer none,.int .i32 0,.int .i32 0]) (by kernel_rfl) (by kernel_rfl) (by simp[Dens,Den,nilSV,nilLoc0,Value.cells]) (by simp[TT.agg,Value.cells]) Try.underlying213 (by first | exact⟨_,rfl,rfl⟩ | rfl | exact⟨_,rfl⟩) (by first | rfl | kernel_rfl) rfl
theorem tt214:TtOk Try.prog 214 ⟨11,48,[.int .u64 0,.int .u64 0,.int .u32 0,.int .u8 0,.int .u8 0,.int .u8 0,.int .u8 0,.val .nilFunc,.val (.pointer none),.int .i32 0,.int .i32 0],.struct [(0,12),(1,12),(2,183),(3,207),(4,5),(5,5),(6,208),(7,209),(8,210),(9,211),(10,212)],none⟩:=TtOk.of (z:=.agg #[.int .u64 0,.int .u64 0,.int .u32 0,.int .u8 0,.int .u8 0,.int .u8 0,.int .u8 0,.nilFunc,.pointer none,.int .i32 0,.int .i32 0]) (by kernel_rfl) (by kernel_rfl) (by simp[Dens,Den,nilSV,nilLoc0,Value.cells]) (by simp[TT.agg,Value.cells]) Try.underlying214 (by first | exact⟨_,rfl,rfl⟩ | rfl | exact⟨_,rfl⟩) (by first | rfl | kernel_rfl) rfl
theorem hT:∀ t tt,tab t=some tt->TtOk Try.prog t tt:=by
 intro t tt h
 unfold tab at h
 split at h
 ·cases h;exact tt2
 ·cases h;exact tt3
 ·cases h;exact tt4
 ·cases h;exact tt5
 ·cases h;exact tt6
 ·cases h;exact tt7
 ·cases h;exact tt8
 ·cases h;exact tt9
 ·cases h;exact tt12
 ·cases h;exact tt13
 ·cases h;exact tt14
 ·cases h;exact tt15
 ·cases h;exact tt16
 ·cases h;exact tt17
 ·cases h;exact tt18
 ·cases h;exact tt19
 ·cases h;exact tt21
 ·cases h;exact tt22
 ·cases h;exact tt23
 ·cases h;exact tt24
 ·cases h;exact tt25
 ·cases h;exact tt29
 ·cases h;exact tt37
 ·cases h;exact tt38
 ·cases h;exact tt39
 ·cases h;exact tt40
 ·cases h;exact tt44
 ·cases h;exact tt49
 ·cases h;exact tt53
 ·cases h;exact tt55
 ·cases h;exact tt56
 ·cases h;exact tt57
 ·cases h;exact tt59
 ·cases h;exact tt64
 ·cases h;exact tt67
 ·cases h;exact tt70
 ·cases h;exact tt71
 ·cases h;exact tt72
 ·cases h;exact tt73
 ·cases h;exact tt74
 ·cases h;exact tt75
 ·cases h;exact tt81
 ·cases h;exact tt91
 ·cases h;exact tt94
 ·cases h;exact tt95
 ·cases h;exact tt97
 ·cases h;exact tt98
 ·cases h;exact tt100
 ·cases h;exact tt102
 ·cases h;exact tt104
 ·cases h;exact tt107
 ·cases h;exact tt110
 ·cases h;exact tt111
 ·cases h;exact tt112
 ·cases h;exact tt113
 ·cases h;exact tt115
 ·cases h;exact tt116
 ·cases h;exact tt117
 ·cases h;exact tt118
 ·cases h;exact tt119
 ·cases h;exact tt120
 ·cases h;exact tt121
 ·cases h;exact tt122
 ·cases h;exact tt123
 ·cases h;exact tt133
 ·cases h;exact tt134
 ·cases h;exact tt137
 ·cases h;exact tt138
 ·cases h;exact tt139
 ·cases h;exact tt140
 ·cases h;exact tt142
 ·cases h;exact tt143
 ·cases h;exact tt146
 ·cases h;exact tt147
 ·cases h;exact tt148
 ·cases h;exact tt158
 ·cases h;exact tt159
 ·cases h;exact tt167
 ·cases h;exact tt168
 ·cases h;exact tt175
 ·cases h;exact tt176
 ·cases h;exact tt177
 ·cases h;exact tt178
 ·cases h;exact tt183
 ·cases h;exact tt187
 ·cases h;exact tt189
 ·cases h;exact tt190
 ·cases h;exact tt195
 ·cases h;exact tt198
 ·cases h;exact tt199
 ·cases h;exact tt202
 ·cases h;exact tt203
 ·cases h;exact tt204
 ·cases h;exact tt205
 ·cases h;exact tt206
 ·cases h;exact tt207
 ·cases h;exact tt208
 ·cases h;exact tt210
 ·cases h;exact tt211
 ·cases h;exact tt212
 ·cases h;exact tt213
 ·cases h;exact tt214
 ·cases h
def isP:FuncId->Bool:=fun f=>f==92||f==121||f==46||f==47||f==54||f==105||f==61||f==56||f==29||f==70||f==127||f==100||f==123||f==117||f==118||f==112||f==111||f==71||f==137||f==131||f==133||f==136||f==132||f==134||f==135||f==97||f==55
theorem mixed:Try.prog.follows .mixedOrders=true:=by kernel_rfl
theorem hyp {l:List (FuncId×Entry)} {lp:List (FuncId×EntryP)} (h:allOk Try.prog l) (hp:allPOk Try.prog lp):Hyp Try.prog tab isP (spList l) (spPList lp) chkAll:=
 ⟨hT,spPList_ok hp,spList_ok h,draw_ok mixed hT (spPList_ok hp) (spList_ok h)⟩
def SidesOk (w h:Int):Prop:=0<=w/\0<=h/\w<=200/\h<=200/\w*h<=8192
instance (w h:Int):Decidable (SidesOk w h):=by unfold SidesOk;infer_instance
def ValOk (n:Int):Prop:=0<=n/\n<=255
instance (n:Int):Decidable (ValOk n):=by unfold ValOk;infer_instance
theorem SidesOk.bd {w h:Int} (H:SidesOk w h):0<=w*h/\w*h<=8192:=⟨Int.mul_nonneg H.1 H.2.1,H.2.2.2.2⟩
def b104_1:IR:=
 .seq (r_ [b_ 9 .lss 8 7] []) (.seq (.cond (.t 9) (.skip) (.exit 0)) (.seq (.block 1 (.seq (r_ [m_ 10 8,m_ 5 10] [9,10]) (.seq (r_ [m_ 11 1,m_ 12 0,m_ 13 5,i_ 14 12 13 1,L_ 15 14,o_ 16 (.callv (some 4) 10 (.t 11) [.t 15])] [11,12,13,14,15]) (.cond (.t 16) (.seq (r_ [m_ 17 5,m_ 4 17] [0,1,5,7,8,16,17]) (.ret)) (.skip))))) (r_ [a_ 18 8 1,m_ 8 18] [4,5,16,18])))
def r104_2:IR:=
 .seq (r_ [z_ 4 (-1)] [0,1,7,8]) (.ret)
def ir104:IR:=
 .seq (r_ [z_ 4 0] [4]) (.seq (.seq (r_ [m_ 6 0,h_ 7 6,z_ 8 0] [6]) (.block 0 (.loop b104_1))) (r104_2))
def kp104_1:List Nat:=[0,1,7,8]
def kl104_1:List Nat:=[10,11,12,13]
attribute [push_cast] kp104_1 kl104_1
set_option maxRecDepth 4000 in
theorem comp104:(Try.f104.body.bind fun c=>compC tab isP chkAll ir104 c)=some ir104:=by kernel_rfl
def ir62:IR:=
 .seq (r_ [o_ 4 (.mov (.k (.bool false)))] [4]) (.seq (r_ [m_ 5 0,m_ 6 1,o_ 7 (.call (some 4) 10 104 [.t 5,.t 6]),c_ 8 .geq 7 0,m_ 4 8] [0,1,5,6,7,8]) (.ret))
set_option maxRecDepth 4000 in
theorem comp62:(Try.f62.body.bind fun c=>compC tab isP chkAll ir62 c)=some ir62:=by kernel_rfl
structure RowA where
 L:Xf.Loc
 xs:List Int
def AllVal (xs:List Int):Prop:=∀ n∈xs,ValOk n
instance (xs:List Int):Decidable (AllVal xs):=by unfold AllVal;infer_instance
structure RowN where
 L:Xf.Loc
 xs:List Int
 n:Int
structure Im where
 w:Int
 h:Int
 R:List Int
 G:List Int
 B:List Int
structure ImA where
 i:Im
 L1:Xf.Loc
 L2:Xf.Loc
 L3:Xf.Loc
def imV (i:Im) (L1 L2 L3:Xf.Loc) (c:Nat):SV:=.agg [.int .i64 i.w,.int .i64 i.h,.sl c L1 1 0 i.R.length,.sl (c+1) L2 1 0 i.G.length,.sl (c+2) L3 1 0 i.B.length]
def Im.small (i:Im):Prop:=i.R.length<=140737488355328/\i.G.length<=140737488355328/\i.B.length<=140737488355328
def Im.Ok (i:Im):Prop:=SidesOk i.w i.h/\(i.R.length=i.w*i.h/\AllVal i.R)/\(i.G.length=i.w*i.h/\AllVal i.G)/\(i.B.length=i.w*i.h/\AllVal i.B)
instance (i:Im):Decidable i.Ok:=by unfold Im.Ok;infer_instance
def getI (look:Look):SV->Option (ImA×List Nat)
 | .agg [.int .i64 w,.int .i64 h,.sl c1 _ 1 0 _,.sl c2 _ 1 0 _,.sl c3 _ 1 0 _]=>match rowI (look c1),rowI (look c2),rowI (look c3)with
  | some (L1,.i64,R),some (L2,.i64,G),some (L3,.i64,B)=>some (⟨⟨w,h,R,G,B⟩,L1,L2,L3⟩,[c1,c2,c3])
  | _,_,_=>none
 | _=>none
attribute [push_cast] getI imV
def ir52:IR:=
 .seq (r_ [o_ 4 (.alloc 10 [y_,y_,nilSV,nilSV,nilSV])] []) (.seq (r_ [m_ 6 0,m_ 7 1,b_ 8 .mul 6 7,m_ 5 8] [6,7,8]) (.seq (R_ [m_ 9 0,m_ 10 1,m_ 11 5,o_ 12 (.mks 11 (.int .i64 0) 8 (.t 11) (.t 11)),m_ 13 5,o_ 14 (.mks 12 (.int .i64 0) 8 (.t 13) (.t 13)),m_ 15 5,o_ 16 (.mks 13 (.int .i64 0) 8 (.t 15) (.t 15)),o_ 17 (.build [y_,y_,nilSV,nilSV,nilSV] [(0,1,.t 9),(1,1,.t 10),(2,1,.t 12),(3,1,.t 14),(4,1,.t 16)]),s_ 5 .i64 4 17] [0,1,5,9,10,11,12,13,14,15,16,17]) (.ret)))
set_option maxRecDepth 4000 in
theorem comp52:(Try.f52.body.bind fun c=>compC tab isP chkAll ir52 c)=some ir52:=by kernel_rfl
def ir53:IR:=
 R_ [m_ 10 0,n_ 11 10,f_ 12 11 2,l_ 13 12,m_ 14 1,m_ 15 0,n_ 16 15,f_ 17 16 3,l_ 18 17,m_ 19 1,m_ 20 0,n_ 21 20,f_ 22 21 4,l_ 23 22,m_ 24 1,m_ 25 2,m_ 26 3,m_ 27 4,i_ 28 13 14 1,S_ 1 .i64 28 25,i_ 29 18 19 1,S_ 1 .i64 29 26,i_ 30 23 24 1,S_ 1 .i64 30 27] [0,1,2,3,4,10,11,12,13,14,15,16,17,18,19,20,21,22,23,24,25,26,27,28,29,30]
set_option maxRecDepth 4000 in
theorem comp53:(Try.f53.body.bind fun c=>compC tab isP chkAll ir53 c)=some ir53:=by kernel_rfl
structure WH where
 w:Int
 h:Int
def zs (n:Int):List Int:=List.replicate n.toNat 0
def fs52:FS where
 A:=WH
 args:=fun a=>[.int .i64 a.w,.int .i64 a.h]
 mem:=fun _=>[]
 pre:=fun a=>SidesOk a.w a.h
 res:=fun a x=>.agg [.int .i64 a.w,.int .i64 a.h,.sl 0 (x 0) 1 0 (a.w*a.h),.sl 1 (x 1) 1 0 (a.w*a.h),.sl 2 (x 2) 1 0 (a.w*a.h)]
 out:=fun _ _=>[]
 new:=fun a x=>[(x 0,.ints .i64 (zs (a.w*a.h))),(x 1,.ints .i64 (zs (a.w*a.h))),(x 2,.ints .i64 (zs (a.w*a.h)))]
def inv52:List SV->Look->Option (WH×List Nat)
 | [.int .i64 w,.int .i64 h],_=>some (⟨w,h⟩,[])
 | _,_=>none
attribute [push_cast] inv52
theorem ok52:FSOk Try.prog 52 fs52:=by
 refine⟨⟨_,Try.func52,by kernel_rfl,by kernel_rfl⟩,fun a=>⟨by simp[fs52,push_cast,noMine,argOwn,Chunk.frArg],by simp[fs52,push_cast,outOk,Chunk.ext],fun x=>.inl (by simp[fs52,push_cast,frNew,frOut,Chunk.fr])⟩,fun a hp=>?_⟩
 obtain⟨w,h⟩:=a
 change SidesOk w h at hp
 change Tri Try.prog 52 [.int .i64 w,.int .i64 h] [] (postF fs52 ⟨w,h⟩)
 refine tri_evS (hyp (l:=[]) (lp:=[]) trivial trivial) Try.func52 comp52 (rs:=[.cell 4 (some 5)]) (by rfl) Try.ntmps52 14 ?_
 simp -implicitDefEqProofs only[push_cast,zz,seval,ir52]
 intro X
 have hm:=hp.bd
 refine⟨by omega,by omega,fun X1=>⟨by omega,by omega,by omega,by omega,by omega,by omega,by omega,by omega,by omega,postF.mk' (locs [X1 3 11,X1 5 12,X1 7 13]) [some 11,some 12,some 13] ?_⟩⟩
 simp -implicitDefEqProofs only[push_cast,zz,seval,fs52,zs]
def ent52:Entry:=spOf fs52 inv52
theorem e52:EntryOk Try.prog 52 ent52:=entry_of ok52 inv52
@[push_cast] theorem ent52_app (us:List SV) (look:Look) (x:Nat->Xf.Loc) (k:Nat):ent52 us look x k=spOf fs52 inv52 us look x k:=rfl
structure SetA where
 i:Im
 L:Xf.Loc
 L1:Xf.Loc
 L2:Xf.Loc
 L3:Xf.Loc
 k:Int
 r:Int
 g:Int
 b:Int
 n1:Int
 n2:Int
 n3:Int
def fs53:FS where
 A:=SetA
 args:=fun a=>[.ptr 0 a.L 0 0 0,.int .i64 a.k,.int .i64 a.r,.int .i64 a.g,.int .i64 a.b]
 mem:=fun a=>[some (.ro,a.L,.cells [.int .i64 a.i.w,.int .i64 a.i.h,.sl 1 a.L1 1 0 a.n1,.sl 2 a.L2 1 0 a.n2,.sl 3 a.L3 1 0 a.n3]),some (.lent,a.L1,.ints .i64 a.i.R),some (.lent,a.L2,.ints .i64 a.i.G),some (.lent,a.L3,.ints .i64 a.i.B)]
 pre:=fun a=>0<=a.k/\a.k<a.i.R.length/\a.k<a.i.G.length/\a.k<a.i.B.length/\a.n1=a.i.R.length/\a.n2=a.i.G.length/\a.n3=a.i.B.length
 res:=fun a x=>.tup []
 out:=fun a _=>[none,some (some (.ints .i64 (a.i.R.set a.k.toNat a.r))),some (some (.ints .i64 (a.i.G.set a.k.toNat a.g))),some (some (.ints .i64 (a.i.B.set a.k.toNat a.b)))]
 new:=fun _ _=>[]
def inv53:List SV->Look->Option (SetA×List Nat)
 | [.ptr c _ _ _ _,.int .i64 k,.int .i64 r,.int .i64 g,.int .i64 b],look=>match rowC (look c)with
  | some (L,[.int .i64 w,.int .i64 h,.sl c1 _ 1 0 n1,.sl c2 _ 1 0 n2,.sl c3 _ 1 0 n3])=>match rowI (look c1),rowI (look c2),rowI (look c3)with
   | some (L1,.i64,R),some (L2,.i64,G),some (L3,.i64,B)=>some (⟨⟨w,h,R,G,B⟩,L,L1,L2,L3,k,r,g,b,n1,n2,n3⟩,[c,c1,c2,c3])
   | _,_,_=>none
  | _=>none
 | _,_=>none
attribute [push_cast] inv53
theorem ok53:FSOk Try.prog 53 fs53:=by
 refine⟨⟨_,Try.func53,by kernel_rfl,by kernel_rfl⟩,fun a=>⟨by simp[fs53,push_cast,noMine,argOwn,Chunk.frArg],by simp[fs53,push_cast,outOk,Chunk.ext],fun x=>.inl (by simp[fs53,push_cast,frNew,frOut,Chunk.fr])⟩,fun a hp=>?_⟩
 obtain⟨⟨w,h,R,G,B⟩,L,L1,L2,L3,k,r,g,b,n1,n2,n3⟩:=a
 obtain⟨h1,h2,h3,h4,rfl,rfl,rfl⟩:0<=k/\k<R.length/\k<G.length/\k<B.length/\n1=R.length/\n2=G.length/\n3=B.length:=hp
 change Tri Try.prog 53 [.ptr 0 L 0 0 0,.int .i64 k,.int .i64 r,.int .i64 g,.int .i64 b] [some (.ro,L,.cells [.int .i64 w,.int .i64 h,.sl 1 L1 1 0 R.length,.sl 2 L2 1 0 G.length,.sl 3 L3 1 0 B.length]),some (.lent,L1,.ints .i64 R),some (.lent,L2,.ints .i64 G),some (.lent,L3,.ints .i64 B)] (postF fs53 ⟨⟨w,h,R,G,B⟩,L,L1,L2,L3,k,r,g,b,R.length,G.length,B.length⟩)
 refine tri_evS (hyp (l:=[]) (lp:=[]) trivial trivial) Try.func53 comp53 (rs:=[]) (by rfl) Try.ntmps53 14 ?_
 simp -implicitDefEqProofs only[push_cast,zz,seval,ir53,h1,h2,h3,h4]
 exact postF.mk' (fun _=>default) [some 0,some 1,some 2,some 3] (by simp -implicitDefEqProofs only[push_cast,zz,seval,fs53])
def ent53:Entry:=spOf fs53 inv53
theorem e53:EntryOk Try.prog 53 ent53:=entry_of ok53 inv53
@[push_cast] theorem ent53_app (us:List SV) (look:Look) (x:Nat->Xf.Loc) (k:Nat):ent53 us look x k=spOf fs53 inv53 us look x k:=rfl
structure NewA where
 w:Int
 h:Int
 r:Int
 g:Int
 b:Int
def NewA.Ok (a:NewA):Prop:=SidesOk a.w a.h/\ValOk a.r/\ValOk a.g/\ValOk a.b
instance (a:NewA):Decidable a.Ok:=by unfold NewA.Ok;infer_instance
def im0:Im:=⟨0,0,[],[],[]⟩
def imN (i:Im) (x:Nat->Xf.Loc):List (Xf.Loc×Chunk):=[(x 0,.ints .i64 i.R),(x 1,.ints .i64 i.G),(x 2,.ints .i64 i.B)]
def lx (p:Prop) [Decidable p] (x:Nat->Xf.Loc) (k:Nat):Xf.Loc:=if p then x k else nilLoc
attribute [push_cast] imN
theorem allVal_rd {xs:List Int}:AllVal xs↔∀ j:Nat,j<xs.length->ValOk (rd xs j):=by
 unfold AllVal
 constructor
 ·intro h j hj;rw[rd_lt xs j hj];exact h _ (List.getElem_mem hj)
 ·intro h x hx
  obtain⟨j,hj,rfl⟩:=List.getElem_of_mem hx
  have:=h j hj
  rwa [rd_lt xs j hj]at this
def b19_1:IR:=
 .seq (.seq (r_ [m_ 47 5,f_ 48 2 2,l_ 49 48,h_ 50 49,b_ 51 .lss 47 50] [47,48,49,50]) (.cond (.t 51) (.skip) (.exit 0))) (.seq (.block 1 (.seq (R_ [f_ 54 2 2,l_ 55 54,m_ 56 5,i_ 57 55 56 1,L_ 58 57,f_ 59 3 2,l_ 60 59,m_ 61 5,i_ 62 60 61 1,L_ 63 62,b_ 64 .neq 58 63] [51,54,55,56,57,58,59,60,61,62,63]) (.cond (.t 64) (.seq (r_ [o_ 4 (.mov (.k (.bool false)))] [2,3,5,64]) (.ret)) (.skip)))) (r_ [m_ 52 5,a_ 53 52 1,m_ 5 53] [4,52,53,64]))
def b19_2:IR:=
 .seq (.seq (r_ [m_ 65 6,f_ 66 2 3,l_ 67 66,h_ 68 67,b_ 69 .lss 65 68] [65,66,67,68]) (.cond (.t 69) (.skip) (.exit 2))) (.seq (.block 3 (.seq (R_ [f_ 72 2 3,l_ 73 72,m_ 74 6,i_ 75 73 74 1,L_ 76 75,f_ 77 3 3,l_ 78 77,m_ 79 6,i_ 80 78 79 1,L_ 81 80,b_ 82 .neq 76 81] [69,72,73,74,75,76,77,78,79,80,81]) (.cond (.t 82) (.seq (r_ [o_ 4 (.mov (.k (.bool false)))] [2,3,6,82]) (.ret)) (.skip)))) (r_ [m_ 70 6,a_ 71 70 1,m_ 6 71] [4,70,71,82]))
def b19_3:IR:=
 .seq (.seq (r_ [m_ 83 7,f_ 84 2 4,l_ 85 84,h_ 86 85,b_ 87 .lss 83 86] [83,84,85,86]) (.cond (.t 87) (.skip) (.exit 4))) (.seq (.block 5 (.seq (R_ [f_ 90 2 4,l_ 91 90,m_ 92 7,i_ 93 91 92 1,L_ 94 93,f_ 95 3 4,l_ 96 95,m_ 97 7,i_ 98 96 97 1,L_ 99 98,b_ 100 .neq 94 99] [87,90,91,92,93,94,95,96,97,98,99]) (.cond (.t 100) (.seq (r_ [o_ 4 (.mov (.k (.bool false)))] [2,3,7,100]) (.ret)) (.skip)))) (r_ [m_ 88 7,a_ 89 88 1,m_ 7 89] [4,88,89,100]))
def r19_4:IR:=
 .seq (r_ [o_ 4 (.mov (.k (.bool true)))] [2,3,7]) (.ret)
def r19_5:IR:=
 .seq (.seq (r_ [z_ 7 0] [6]) (.block 4 (.loop b19_3))) (r19_4)
def r19_6:IR:=
 .seq (.seq (r_ [z_ 6 0] [5]) (.block 2 (.loop b19_2))) (r19_5)
def ir19:IR:=
 .seq (r_ [o_ 2 (.box 10 (.t 0)),o_ 3 (.box 11 (.t 1)),o_ 4 (.mov (.k (.bool false)))] [0,1,4]) (.seq (.seq (r_ [f_ 8 2 0,l_ 9 8,f_ 10 3 0,l_ 11 10,b_ 12 .neq 9 11,m_ 13 12,q_ 13 (f_ 14 2 1),q_ 13 (l_ 15 14),q_ 13 (f_ 16 3 1),q_ 13 (l_ 17 16),q_ 13 (b_ 18 .neq 15 17),k_ 19 13 18,m_ 20 19,q_ 20 (f_ 21 2 2),q_ 20 (l_ 22 21),q_ 20 (h_ 23 22),q_ 20 (f_ 24 3 2),q_ 20 (l_ 25 24),q_ 20 (h_ 26 25),q_ 20 (b_ 27 .neq 23 26),k_ 28 20 27,m_ 29 28,q_ 29 (f_ 30 2 3),q_ 29 (l_ 31 30),q_ 29 (h_ 32 31),q_ 29 (f_ 33 3 3),q_ 29 (l_ 34 33),q_ 29 (h_ 35 34),q_ 29 (b_ 36 .neq 32 35),k_ 37 29 36,m_ 38 37,q_ 38 (f_ 39 2 4),q_ 38 (l_ 40 39),q_ 38 (h_ 41 40),q_ 38 (f_ 42 3 4),q_ 38 (l_ 43 42),q_ 38 (h_ 44 43),q_ 38 (b_ 45 .neq 41 44),k_ 46 38 45] [8,9,10,11,12,13,14,15,16,17,18,19,20,21,22,23,24,25,26,27,28,29,30,31,32,33,34,35,36,37,38,39,40,41,42,43,44,45]) (.cond (.t 46) (.seq (r_ [o_ 4 (.mov (.k (.bool false)))] [2,3,46]) (.ret)) (.skip))) (.seq (.seq (r_ [z_ 5 0] [4,46]) (.block 0 (.loop b19_1))) (r19_6)))
set_option maxRecDepth 4000 in
theorem comp19:(Try.f19.body.bind fun c=>compC tab isP chkAll ir19 c)=some ir19:=by kernel_rfl
def Im.Eq (a b:Im):Prop:=a.w=b.w/\a.h=b.h/\a.R=b.R/\a.G=b.G/\a.B=b.B
instance (a b:Im):Decidable (a.Eq b):=by unfold Im.Eq;infer_instance
theorem Im.Eq.refl (a:Im):a.Eq a:=⟨rfl,rfl,rfl,rfl,rfl⟩
structure Im2 where
 a:ImA
 b:ImA
def fs19:FS where
 A:=Im2
 args:=fun a=>[imV a.a.i a.a.L1 a.a.L2 a.a.L3 0,imV a.b.i a.b.L1 a.b.L2 a.b.L3 3]
 mem:=fun a=>[some (.ro,a.a.L1,.ints .i64 a.a.i.R),some (.ro,a.a.L2,.ints .i64 a.a.i.G),some (.ro,a.a.L3,.ints .i64 a.a.i.B),some (.ro,a.b.L1,.ints .i64 a.b.i.R),some (.ro,a.b.L2,.ints .i64 a.b.i.G),some (.ro,a.b.L3,.ints .i64 a.b.i.B)]
 pre:=fun a=>a.a.i.small/\a.b.i.small
 res:=fun a _=>.bool (decide (a.a.i.Eq a.b.i))
 out:=fun _ _=>[]
 new:=fun _ _=>[]
def inv19:List SV->Look->Option (Im2×List Nat)
 | [v,u],look=>match getI look v,getI look u with
  | some (a,g),some (b,g')=>some (⟨a,b⟩,g++g')
  | _,_=>none
 | _,_=>none
attribute [push_cast] inv19
def M19 (w h w' h':Int) (R G B R' G' B':List Int) (L1 L2 L3 M1 M2 M3 L0 L0':Xf.Loc):Mem:=
 mkM 18 [(0,.ro,L1,.ints .i64 R),(1,.ro,L2,.ints .i64 G),(2,.ro,L3,.ints .i64 B),(3,.ro,M1,.ints .i64 R'),(4,.ro,M2,.ints .i64 G'),(5,.ro,M3,.ints .i64 B'),
  (10,.mine,L0,.cells [.int .i64 w,.int .i64 h,.sl 0 L1 1 0 R.length,.sl 1 L2 1 0 G.length,.sl 2 L3 1 0 B.length]),(11,.mine,L0',.cells [.int .i64 w',.int .i64 h',.sl 3 M1 1 0 R'.length,.sl 4 M2 1 0 G'.length,.sl 5 M3 1 0 B'.length])]
def lp19 (t:Nat) (xs ys:List Int) (m:Mem) (L0 L0':Xf.Loc):LoopS where
 A:=Nat
 I:=fun i=>(mkS 101 [(2,.ptr 10 L0 0 0 0),(3,.ptr 11 L0' 0 0 0),(t,.int .i64 i)],m)
 R:=fun i=>i<=xs.length/\∀ j,j<i->rd xs (j:Nat)=rd ys (j:Nat)
 mu:=fun i=>xs.length-i
theorem ok19:FSOk Try.prog 19 fs19:=by
 refine⟨⟨_,Try.func19,by kernel_rfl,by kernel_rfl⟩,fun a=>⟨by simp[fs19,push_cast,noMine,argOwn,Chunk.frArg],by simp[fs19,push_cast,outOk,Chunk.ext],fun x=>.inl (by simp[fs19,push_cast,frNew,frOut,Chunk.fr])⟩,fun a hp=>?_⟩
 obtain⟨⟨⟨w,h,R,G,B⟩,L1,L2,L3⟩,⟨⟨w',h',R',G',B'⟩,M1,M2,M3⟩⟩:=a
 obtain⟨⟨s1,s2,s3⟩,s4,s5,s6⟩:=hp
 simp only at s1 s2 s3 s4 s5 s6
 change Tri Try.prog 19 [imV ⟨w,h,R,G,B⟩ L1 L2 L3 0,imV ⟨w',h',R',G',B'⟩ M1 M2 M3 3] [some (.ro,L1,.ints .i64 R),some (.ro,L2,.ints .i64 G),some (.ro,L3,.ints .i64 B),some (.ro,M1,.ints .i64 R'),some (.ro,M2,.ints .i64 G'),some (.ro,M3,.ints .i64 B')] (postF fs19 ⟨⟨⟨w,h,R,G,B⟩,L1,L2,L3⟩,⟨⟨w',h',R',G',B'⟩,M1,M2,M3⟩⟩)
 refine tri_evS (hyp (l:=[]) (lp:=[]) trivial trivial) Try.func19 comp19 (rs:=[.tmp 4]) (by rfl) Try.ntmps19 12 ?_
 simp -implicitDefEqProofs only[push_cast,zz,seval,ir19]
 intro X
 refine⟨fun hn=>?_,fun hy=>?_⟩
 ·have e:¬ (⟨w,h,R,G,B⟩:Im).Eq ⟨w',h',R',G',B'⟩:=fun H=>by
   obtain⟨a,b,c,d,f⟩:=H
   simp only at a b c d f
   subst a b c d f
   simp at hn
  refine postF.mk' (fun _=>default) [some 0,some 1,some 2,some 3,some 4,some 5] ?_
  simp -implicitDefEqProofs only[push_cast,zz,seval,fs19,e,decide_false]
 obtain⟨q1,q2,q3,q4,q5⟩:w=w'/\h=h'/\R.length=R'.length/\G.length=G'.length/\B.length=B'.length:=by omega
 refine evS_loop _ _ _ (lp19 5 R R' (M19 w h w' h' R G B R' G' B' L1 L2 L3 M1 M2 M3 (X 0 10) (X 1 11)) (X 0 10) (X 1 11)) (0:Nat) ⟨Nat.zero_le _,fun j hj=>absurd hj (Nat.not_lt_zero _)⟩ ?_ ?_
 ·change Sub _ _ ((lp19 5 R R' (M19 w h w' h' R G B R' G' B' L1 L2 L3 M1 M2 M3 (X 0 10) (X 1 11)) (X 0 10) (X 1 11)).I (0:Nat)).1 ((lp19 5 R R' (M19 w h w' h' R G B R' G' B' L1 L2 L3 M1 M2 M3 (X 0 10) (X 1 11)) (X 0 10) (X 1 11)).I (0:Nat)).2
  refine Sub.of (mkG 18 [(0,0),(1,1),(2,2),(3,3),(4,4),(5,5),(10,10),(11,11)]) ?_
  simp -implicitDefEqProofs only[push_cast,zz,seval,lp19,M19]
 intro (i:Nat) ⟨(hi:i<=R.length),(hj:∀ j,j<i->rd R (j:Nat)=rd R' (j:Nat))⟩
 change evS _ _ _ _ (mkS 101 [(2,.ptr 10 (X 0 10) 0 0 0),(3,.ptr 11 (X 1 11) 0 0 0),(5,.int .i64 i)]) (M19 w h w' h' R G B R' G' B' L1 L2 L3 M1 M2 M3 (X 0 10) (X 1 11))
 simp -implicitDefEqProofs only[push_cast,zz,seval,M19,b19_1,r19_6]
 refine⟨fun hl=>⟨by omega,by omega,by omega,by omega,by omega,by omega,by omega,by omega,fun hb=>?_,fun hg=>⟨by omega,by omega,?_⟩⟩,fun hl=>?_⟩
 ·have e:¬ (⟨w,h,R,G,B⟩:Im).Eq ⟨w',h',R',G',B'⟩:=fun H=>by
   obtain⟨a,b,c,d,f⟩:=H
   simp only at a b c d f
   subst a b c d f
   simp at hb
  refine postF.mk' (fun _=>default) [some 0,some 1,some 2,some 3,some 4,some 5] ?_
  simp -implicitDefEqProofs only[push_cast,zz,seval,fs19,e,decide_false]
 ·refine lpK_mk (i+1:Nat) ⟨by omega,fun j h=>?_⟩ (show R.length-(i+1)<R.length-i by omega) ?_
  ·by_cases e:j=i
   ·subst e;exact hg
   ·exact hj j (by omega)
  ·change Sub _ _ ((lp19 5 R R' (M19 w h w' h' R G B R' G' B' L1 L2 L3 M1 M2 M3 (X 0 10) (X 1 11)) (X 0 10) (X 1 11)).I (i+1:Nat)).1 ((lp19 5 R R' (M19 w h w' h' R G B R' G' B' L1 L2 L3 M1 M2 M3 (X 0 10) (X 1 11)) (X 0 10) (X 1 11)).I (i+1:Nat)).2
   simp -implicitDefEqProofs only[push_cast,zz,seval,lp19,M19]
   exact Sub.refl _ _
 have eqR:R=R':=eq_of_rd q3 fun j h=>hj j (by omega)
 clear hj
 refine evS_loop _ _ _ (lp19 6 G G' (M19 w h w' h' R G B R' G' B' L1 L2 L3 M1 M2 M3 (X 0 10) (X 1 11)) (X 0 10) (X 1 11)) (0:Nat) ⟨Nat.zero_le _,fun j hj=>absurd hj (Nat.not_lt_zero _)⟩ ?_ ?_
 ·change Sub _ _ ((lp19 6 G G' (M19 w h w' h' R G B R' G' B' L1 L2 L3 M1 M2 M3 (X 0 10) (X 1 11)) (X 0 10) (X 1 11)).I (0:Nat)).1 ((lp19 6 G G' (M19 w h w' h' R G B R' G' B' L1 L2 L3 M1 M2 M3 (X 0 10) (X 1 11)) (X 0 10) (X 1 11)).I (0:Nat)).2
  refine Sub.of (mkG 18 [(0,0),(1,1),(2,2),(3,3),(4,4),(5,5),(10,10),(11,11)]) ?_
  simp -implicitDefEqProofs only[push_cast,zz,seval,lp19,M19]
 intro (i:Nat) ⟨(hi:i<=G.length),(hj:∀ j,j<i->rd G (j:Nat)=rd G' (j:Nat))⟩
 change evS _ _ _ _ (mkS 101 [(2,.ptr 10 (X 0 10) 0 0 0),(3,.ptr 11 (X 1 11) 0 0 0),(6,.int .i64 i)]) (M19 w h w' h' R G B R' G' B' L1 L2 L3 M1 M2 M3 (X 0 10) (X 1 11))
 simp -implicitDefEqProofs only[push_cast,zz,seval,M19,b19_2,r19_5]
 refine⟨fun hl=>⟨by omega,by omega,by omega,by omega,by omega,by omega,by omega,by omega,fun hb=>?_,fun hg=>⟨by omega,by omega,?_⟩⟩,fun hl=>?_⟩
 ·have e:¬ (⟨w,h,R,G,B⟩:Im).Eq ⟨w',h',R',G',B'⟩:=fun H=>by
   obtain⟨a,b,c,d,f⟩:=H
   simp only at a b c d f
   subst a b c d f
   simp at hb
  refine postF.mk' (fun _=>default) [some 0,some 1,some 2,some 3,some 4,some 5] ?_
  simp -implicitDefEqProofs only[push_cast,zz,seval,fs19,e,decide_false]
 ·refine lpK_mk (i+1:Nat) ⟨by omega,fun j h=>?_⟩ (show G.length-(i+1)<G.length-i by omega) ?_
  ·by_cases e:j=i
   ·subst e;exact hg
   ·exact hj j (by omega)
  ·change Sub _ _ ((lp19 6 G G' (M19 w h w' h' R G B R' G' B' L1 L2 L3 M1 M2 M3 (X 0 10) (X 1 11)) (X 0 10) (X 1 11)).I (i+1:Nat)).1 ((lp19 6 G G' (M19 w h w' h' R G B R' G' B' L1 L2 L3 M1 M2 M3 (X 0 10) (X 1 11)) (X 0 10) (X 1 11)).I (i+1:Nat)).2
   simp -implicitDefEqProofs only[push_cast,zz,seval,lp19,M19]
   exact Sub.refl _ _
 have eqG:G=G':=eq_of_rd q4 fun j h=>hj j (by omega)
 clear hj
 refine evS_loop _ _ _ (lp19 7 B B' (M19 w h w' h' R G B R' G' B' L1 L2 L3 M1 M2 M3 (X 0 10) (X 1 11)) (X 0 10) (X 1 11)) (0:Nat) ⟨Nat.zero_le _,fun j hj=>absurd hj (Nat.not_lt_zero _)⟩ ?_ ?_
 ·change Sub _ _ ((lp19 7 B B' (M19 w h w' h' R G B R' G' B' L1 L2 L3 M1 M2 M3 (X 0 10) (X 1 11)) (X 0 10) (X 1 11)).I (0:Nat)).1 ((lp19 7 B B' (M19 w h w' h' R G B R' G' B' L1 L2 L3 M1 M2 M3 (X 0 10) (X 1 11)) (X 0 10) (X 1 11)).I (0:Nat)).2
  refine Sub.of (mkG 18 [(0,0),(1,1),(2,2),(3,3),(4,4),(5,5),(10,10),(11,11)]) ?_
  simp -implicitDefEqProofs only[push_cast,zz,seval,lp19,M19]
 intro (i:Nat) ⟨(hi:i<=B.length),(hj:∀ j,j<i->rd B (j:Nat)=rd B' (j:Nat))⟩
 change evS _ _ _ _ (mkS 101 [(2,.ptr 10 (X 0 10) 0 0 0),(3,.ptr 11 (X 1 11) 0 0 0),(7,.int .i64 i)]) (M19 w h w' h' R G B R' G' B' L1 L2 L3 M1 M2 M3 (X 0 10) (X 1 11))
 simp -implicitDefEqProofs only[push_cast,zz,seval,M19,b19_3,r19_4]
 refine⟨fun hl=>⟨by omega,by omega,by omega,by omega,by omega,by omega,by omega,by omega,fun hb=>?_,fun hg=>⟨by omega,by omega,?_⟩⟩,fun hl=>?_⟩
 ·have e:¬ (⟨w,h,R,G,B⟩:Im).Eq ⟨w',h',R',G',B'⟩:=fun H=>by
   obtain⟨a,b,c,d,f⟩:=H
   simp only at a b c d f
   subst a b c d f
   simp at hb
  refine postF.mk' (fun _=>default) [some 0,some 1,some 2,some 3,some 4,some 5] ?_
  simp -implicitDefEqProofs only[push_cast,zz,seval,fs19,e,decide_false]
 ·refine lpK_mk (i+1:Nat) ⟨by omega,fun j h=>?_⟩ (show B.length-(i+1)<B.length-i by omega) ?_
  ·by_cases e:j=i
   ·subst e;exact hg
   ·exact hj j (by omega)
  ·change Sub _ _ ((lp19 7 B B' (M19 w h w' h' R G B R' G' B' L1 L2 L3 M1 M2 M3 (X 0 10) (X 1 11)) (X 0 10) (X 1 11)).I (i+1:Nat)).1 ((lp19 7 B B' (M19 w h w' h' R G B R' G' B' L1 L2 L3 M1 M2 M3 (X 0 10) (X 1 11)) (X 0 10) (X 1 11)).I (i+1:Nat)).2
   simp -implicitDefEqProofs only[push_cast,zz,seval,lp19,M19]
   exact Sub.refl _ _
 have eqB:B=B':=eq_of_rd q5 fun j h=>hj j (by omega)
 clear hj
 have e:(⟨w,h,R,G,B⟩:Im).Eq ⟨w',h',R',G',B'⟩:=⟨q1,q2,eqR,eqG,eqB⟩
 refine postF.mk' (fun _=>default) [some 0,some 1,some 2,some 3,some 4,some 5] ?_
 simp -implicitDefEqProofs only[push_cast,zz,seval,fs19,e,decide_true]
def ent19:Entry:=spOf fs19 inv19
theorem e19:EntryOk Try.prog 19 ent19:=entry_of ok19 inv19
@[push_cast] theorem ent19_app (us:List SV) (look:Look) (x:Nat->Xf.Loc) (k:Nat):ent19 us look x k=spOf fs19 inv19 us look x k:=rfl
structure Pl where
 w:Int
 h:Int
 xs:List Int
def plV (p:Pl) (L:Xf.Loc) (c:Nat):SV:=.agg [.int .i64 p.w,.int .i64 p.h,.sl c L 1 0 p.xs.length]
attribute [push_cast] plV
def pl0:Pl:=⟨0,0,[]⟩
theorem Im.Ok.val {i:Im} (h:i.Ok):i.G.length=i.R.length/\i.B.length=i.R.length/\∀ k:Nat,k<i.R.length->(0<=rd i.R (k:Nat)/\rd i.R (k:Nat)<=255)/\(0<=rd i.G (k:Nat)/\rd i.G (k:Nat)<=255)/\(0<=rd i.B (k:Nat)/\rd i.B (k:Nat)<=255):=by
 obtain⟨_,⟨a,x⟩,⟨b,y⟩,⟨c,z⟩⟩:=h
 have e1:i.G.length=i.R.length:=by omega
 have e2:i.B.length=i.R.length:=by omega
 exact⟨e1,e2,fun k hk=>⟨allVal_rd.1 x k hk,allVal_rd.1 y k (by omega),allVal_rd.1 z k (by omega)⟩⟩
structure CutA where
 a:ImA
 x:Int
 y:Int
 w:Int
 h:Int
def CutA.In (c:CutA):Prop:=0<=c.x/\0<=c.y/\0<=c.w/\0<=c.h/\c.x+c.w<=c.a.i.w/\c.y+c.h<=c.a.i.h
instance (c:CutA):Decidable c.In:=by unfold CutA.In;infer_instance
def CutA.Ok (c:CutA):Prop:=c.a.i.Ok/\c.In
instance (c:CutA):Decidable c.Ok:=by unfold CutA.Ok;infer_instance
def ir105:IR:=
 .seq (r_ [o_ 4 (.mov (.k (.bool false)))] [4]) (.seq (r_ [m_ 5 0,c_ 6 .geq 5 0,m_ 7 6,p_ 7 (m_ 8 1),p_ 7 (c_ 9 .geq 8 0),K_ 10 7 9,m_ 11 10,p_ 11 (m_ 12 0),p_ 11 (c_ 13 .leq 12 200),K_ 14 11 13,m_ 15 14,p_ 15 (m_ 16 1),p_ 15 (c_ 17 .leq 16 200),K_ 18 15 17,m_ 4 18] [0,1,5,6,7,8,9,10,11,12,13,14,15,16,17,18]) (.ret))
set_option maxRecDepth 4000 in
theorem comp105:(Try.f105.body.bind fun c=>compC tab isP chkAll ir105 c)=some ir105:=by kernel_rfl
def ir106:IR:=
 .seq (r_ [o_ 4 (.mov (.k (.bool false)))] [4]) (.seq (r_ [m_ 5 0,l_ 6 1,b_ 7 .lss 5 6,m_ 8 7,q_ 8 (m_ 9 0),q_ 8 (l_ 10 2),q_ 8 (b_ 11 .gtr 9 10),k_ 12 8 11,m_ 4 12] [0,1,2,5,6,7,8,9,10,11,12]) (.ret))
set_option maxRecDepth 4000 in
theorem comp106:(Try.f106.body.bind fun c=>compC tab isP chkAll ir106 c)=some ir106:=by kernel_rfl
def ir66:IR:=
 .seq (r_ [o_ 3 (.box 10 (.t 0)),o_ 4 (.box 11 (.t 1)),o_ 5 (.box 12 (.t 2)),o_ 6 (.mov (.k (.bool false)))] [0,1,2,6]) (.seq (.seq (r_ [f_ 7 3 0,l_ 8 7,f_ 9 3 1,l_ 10 9,o_ 11 (.callp 105 [.t 8,.t 10]),o_ 12 (.not (.t 11)),m_ 13 12,q_ 13 (f_ 14 3 0),q_ 13 (l_ 15 14),q_ 13 (f_ 16 3 1),q_ 13 (l_ 17 16),q_ 13 (b_ 18 .mul 15 17),q_ 13 (f_ 19 3 2),q_ 13 (l_ 20 19),q_ 13 (h_ 21 20),q_ 13 (b_ 22 .neq 18 21),k_ 23 13 22,m_ 24 23,q_ 24 (f_ 25 3 2),q_ 24 (l_ 26 25),q_ 24 (h_ 27 26),q_ 24 (c_ 28 .gtr 27 8192),k_ 29 24 28] [7,8,9,10,11,12,13,14,15,16,17,18,19,20,21,22,23,24,25,26,27,28]) (.cond (.t 29) (.seq (r_ [o_ 6 (.mov (.k (.bool false)))] [3,4,5,29]) (.ret)) (.skip))) (.seq (r_ [f_ 30 3 2,l_ 31 30,o_ 32 (.mkf 106 [.t 4,.t 5]),o_ 33 (.call (some 4) 13 62 [.t 31,.t 32]),o_ 34 (.not (.t 33)),m_ 6 34] [3,4,5,29,30,31,32,33,34]) (.ret)))
set_option maxRecDepth 4000 in
theorem comp66:(Try.f66.body.bind fun c=>compC tab isP chkAll ir66 c)=some ir66:=by kernel_rfl
def ir28:IR:=
 .seq (r_ [o_ 1 (.box 10 (.t 0)),o_ 2 (.mov (.k (.bool false)))] [0,2]) (.seq (r_ [o_ 3 (.ld false (some 3) 0 0 (.t 1)),o_ 4 (.call (some 4) 11 66 [.t 3,Z_ (-16777216),Z_ 16777216]),m_ 2 4] [1,3,4]) (.ret))
set_option maxRecDepth 4000 in
theorem comp28:(Try.f28.body.bind fun c=>compC tab isP chkAll ir28 c)=some ir28:=by kernel_rfl
def firstB (p:Int->Bool) (xs:List Int):Int:=if xs.findIdx p<xs.length then xs.findIdx p else -1
theorem firstB_at {p:Int->Bool} {xs:List Int} {i:Nat} (h:i<xs.length) (hb:p (rd xs i)=true) (hj:∀ j,j<i->p (rd xs (j:Nat))=false):firstB p xs=i:=by
 have:xs.findIdx p=i:=by
  rw[List.findIdx_eq h]
  refine⟨by rw[rd_lt xs i h]at hb;exact hb,fun j hji=>?_⟩
  have:=hj j hji
  rw[rd_lt xs j (by omega)]at this
  exact this
 unfold firstB
 rw[this,if_pos h]
theorem firstB_no {p:Int->Bool} {xs:List Int} (hj:∀ j,j<xs.length->p (rd xs (j:Nat))=false):firstB p xs=-1:=by
 unfold firstB
 rw[if_neg]
 intro h
 have:=List.findIdx_getElem (w:=h)
 have h2:=hj _ h
 rw[rd_lt xs _ h,this]at h2
 cases h2
theorem firstB_iff (p:Int->Bool) (xs:List Int):0<=firstB p xs↔∃ n,n∈xs/\p n=true:=by
 unfold firstB
 have h:=List.findIdx_lt_length (xs:=xs) (p:=p)
 by_cases hh:xs.findIdx p<xs.length
 ·rw[if_pos hh]
  exact⟨fun _=>h.1 hh,fun _=>by omega⟩
 ·rw[if_neg hh]
  exact⟨fun h=>by omega,fun H=>absurd (h.2 H) hh⟩
def sides4F:EntryP
 | [.int .i64 w,.int .i64 h]=>some (True,.bool (decide (0<=w/\0<=h/\w<=200/\h<=200)))
 | _=>none
attribute [push_cast] sides4F
theorem p105:EntryPOk Try.prog 105 sides4F:=by
 refine⟨⟨_,Try.func105,by kernel_rfl,by kernel_rfl⟩,fun us p v h hp=>?_⟩
 unfold sides4F at h
 split at h<;>cases h
 refine tri_evS (hyp (l:=[]) (lp:=[]) trivial trivial) Try.func105 comp105 (rs:=[.tmp 4]) (by rfl) Try.ntmps105 10 ?_
 simp -implicitDefEqProofs only[push_cast,zz,seval,ir105,sides4F]
structure OutA where
 L1:Xf.Loc
 L2:Xf.Loc
 n:Int
 lo:Int
 hi:Int
def outB (lo hi n:Int):Bool:=decide (n<lo∨hi<n)
def fs106:FS where
 A:=OutA
 args:=fun a=>[.int .i64 a.n,.ptr 0 a.L1 0 0 0,.ptr 1 a.L2 0 0 0]
 mem:=fun a=>[some (.ro,a.L1,.cells [.int .i64 a.lo]),some (.ro,a.L2,.cells [.int .i64 a.hi])]
 pre:=fun _=>True
 res:=fun a _=>.bool (outB a.lo a.hi a.n)
 out:=fun _ _=>[]
 new:=fun _ _=>[]
def inv106:List SV->Look->Option (OutA×List Nat)
 | [.int .i64 n,.ptr c1 _ 0 0 0,.ptr c2 _ 0 0 0],look=>match rowC (look c1),rowC (look c2)with
  | some (L1,[.int .i64 lo]),some (L2,[.int .i64 hi])=>some (⟨L1,L2,n,lo,hi⟩,[c1,c2])
  | _,_=>none
 | _,_=>none
attribute [push_cast] inv106
theorem ok106:FSOk Try.prog 106 fs106:=by
 refine⟨⟨_,Try.func106,by kernel_rfl,by kernel_rfl⟩,fun a=>⟨by simp[fs106,push_cast,noMine,argOwn,Chunk.frArg],by simp[fs106,push_cast,outOk,Chunk.ext],fun x=>.inl (by simp[fs106,push_cast,frNew,frOut,Chunk.fr])⟩,fun a hp=>?_⟩
 obtain⟨L1,L2,n,lo,hi⟩:=a
 change Tri Try.prog 106 [.int .i64 n,.ptr 0 L1 0 0 0,.ptr 1 L2 0 0 0] [some (.ro,L1,.cells [.int .i64 lo]),some (.ro,L2,.cells [.int .i64 hi])] (postF fs106 ⟨L1,L2,n,lo,hi⟩)
 refine tri_evS (hyp (l:=[]) (lp:=[]) trivial trivial) Try.func106 comp106 (rs:=[.tmp 4]) (by rfl) Try.ntmps106 10 ?_
 simp -implicitDefEqProofs only[push_cast,zz,seval,ir106]
 refine postF.mk' (fun _=>default) [some 0,some 1] ?_
 simp -implicitDefEqProofs only[push_cast,zz,seval,fs106,outB]
def ent106:Entry:=spOf fs106 inv106
theorem e106:EntryOk Try.prog 106 ent106:=entry_of ok106 inv106
@[push_cast] theorem ent106_app (us:List SV) (look:Look) (x:Nat->Xf.Loc) (k:Nat):ent106 us look x k=spOf fs106 inv106 us look x k:=rfl
structure OutR where
 L:Xf.Loc
 xs:List Int
 L1:Xf.Loc
 L2:Xf.Loc
 lo:Int
 hi:Int
def fs104w:FS where
 A:=OutR
 args:=fun a=>[.sl 0 a.L 1 0 a.xs.length,.fn 106 [.ptr 1 a.L1 0 0 0,.ptr 2 a.L2 0 0 0]]
 mem:=fun a=>[some (.ro,a.L,.ints .i64 a.xs),some (.ro,a.L1,.cells [.int .i64 a.lo]),some (.ro,a.L2,.cells [.int .i64 a.hi])]
 pre:=fun a=>a.xs.length<=140737488355328
 res:=fun a _=>.int .i64 (firstB (outB a.lo a.hi) a.xs)
 out:=fun _ _=>[]
 new:=fun _ _=>[]
def inv104w:List SV->Look->Option (OutR×List Nat)
 | [.sl c _ 1 0 _,.fn 106 [.ptr c1 _ 0 0 0,.ptr c2 _ 0 0 0]],look=>match rowI (look c),rowC (look c1),rowC (look c2)with
  | some (L,.i64,xs),some (L1,[.int .i64 lo]),some (L2,[.int .i64 hi])=>some (⟨L,xs,L1,L2,lo,hi⟩,[c,c1,c2])
  | _,_,_=>none
 | _,_=>none
attribute [push_cast] inv104w
theorem ok104w:FSOk Try.prog 104 fs104w:=by
 refine⟨⟨_,Try.func104,by kernel_rfl,by kernel_rfl⟩,fun a=>⟨by simp[fs104w,push_cast,noMine,argOwn,Chunk.frArg],by simp[fs104w,push_cast,outOk,Chunk.ext],fun x=>.inl (by simp[fs104w,push_cast,frNew,frOut,Chunk.fr])⟩,fun a hp=>?_⟩
 obtain⟨L,xs,L1,L2,lo,hi⟩:=a
 change xs.length<=140737488355328 at hp
 change Tri Try.prog 104 [.sl 0 L 1 0 xs.length,.fn 106 [.ptr 1 L1 0 0 0,.ptr 2 L2 0 0 0]] [some (.ro,L,.ints .i64 xs),some (.ro,L1,.cells [.int .i64 lo]),some (.ro,L2,.cells [.int .i64 hi])] (postF fs104w ⟨L,xs,L1,L2,lo,hi⟩)
 refine tri_evS (hyp (l:=[(106,ent106)]) (lp:=[]) ⟨e106,trivial⟩ trivial) Try.func104 comp104 (rs:=[.tmp 4]) (by rfl) Try.ntmps104 14 ?_
 simp -implicitDefEqProofs only[push_cast,zz,seval,ir104]
 refine evS_loopU (A:=Nat) kp104_1 kl104_1 (fun i=>[(8,.int .i64 i)]) (fun _=>[])
  (fun i=>i<=xs.length/\∀ j,j<i->outB lo hi (rd xs (j:Nat))=false) (fun i=>xs.length-i) 0 ⟨by omega,by omega⟩ (Sub.pt ?_) ?_
 ·simp -implicitDefEqProofs only[push_cast,zz,seval]
 intro i ⟨h1,h2⟩ K hK
 simp -implicitDefEqProofs only[push_cast,zz,seval,b104_1,r104_2,fs106]
 refine⟨fun h=>⟨by omega,h,by omega,h,fun hb=>?_,fun hb=>⟨by omega,by omega,?_⟩⟩,fun h=>?_⟩
 ·have e:=firstB_at (by omega) hb h2
  exact postF.mk' (fun _=>default) [some 0,some 1,some 2] (by simp -implicitDefEqProofs only[push_cast,zz,seval,fs104w,e])
 ·refine hK (i+1) ⟨by omega,?_⟩ (show xs.length-(i+1)<xs.length-i by omega) _ _ (Sub.pt ?_)
  ·intro j hj
   by_cases e:j=i
   ·subst e;exact hb
   ·exact h2 j (by omega)
  ·simp -implicitDefEqProofs only[push_cast,zz,seval]
 ·have e:=firstB_no (p:=outB lo hi) (xs:=xs) (fun j hj=>h2 j (by omega))
  exact postF.mk' (fun _=>default) [some 0,some 1,some 2] (by simp -implicitDefEqProofs only[push_cast,zz,seval,fs104w,e])
def ent104w:Entry:=spOf fs104w inv104w
theorem e104w:EntryOk Try.prog 104 ent104w:=entry_of ok104w inv104w
@[push_cast] theorem ent104w_app (us:List SV) (look:Look) (x:Nat->Xf.Loc) (k:Nat):ent104w us look x k=spOf fs104w inv104w us look x k:=rfl
def AllIn (lo hi:Int) (xs:List Int):Prop:=∀ n,n∈xs->lo<=n/\n<=hi
instance (lo hi:Int) (xs:List Int):Decidable (AllIn lo hi xs):=by unfold AllIn;infer_instance
theorem allIn_iff {lo hi:Int} {xs:List Int}:(0<=firstB (outB lo hi) xs)=¬ AllIn lo hi xs:=by
 rw[firstB_iff]
 unfold AllIn outB
 simp only[decide_eq_true_eq,Classical.not_forall,eq_iff_iff]
 constructor
 ·rintro⟨n,h1,h2⟩;exact⟨n,h1,by omega⟩
 ·rintro⟨n,h1,h2⟩;exact⟨n,h1,by omega⟩
theorem allIn_rd {lo hi:Int} {xs:List Int}:AllIn lo hi xs↔∀ j:Nat,j<xs.length->lo<=rd xs j/\rd xs j<=hi:=by
 unfold AllIn
 constructor
 ·intro h j hj;rw[rd_lt xs j hj];exact h _ (List.getElem_mem hj)
 ·intro h n hn
  obtain⟨j,hj,rfl⟩:=List.mem_iff_getElem.1 hn
  have:=h j hj
  rwa [rd_lt xs j hj]at this
def fs62w:FS:={ fs104w with res:=fun a _=>.bool (decide (¬ AllIn a.lo a.hi a.xs)) }
theorem ok62w:FSOk Try.prog 62 fs62w:=by
 refine⟨⟨_,Try.func62,by kernel_rfl,by kernel_rfl⟩,fun a=>⟨by simp[fs62w,fs104w,push_cast,noMine,argOwn,Chunk.frArg],by simp[fs62w,fs104w,push_cast,outOk,Chunk.ext],fun x=>.inl (by simp[fs62w,fs104w,push_cast,frNew,frOut,Chunk.fr])⟩,fun a hp=>?_⟩
 obtain⟨L,xs,L1,L2,lo,hi⟩:=a
 change xs.length<=140737488355328 at hp
 change Tri Try.prog 62 [.sl 0 L 1 0 xs.length,.fn 106 [.ptr 1 L1 0 0 0,.ptr 2 L2 0 0 0]] [some (.ro,L,.ints .i64 xs),some (.ro,L1,.cells [.int .i64 lo]),some (.ro,L2,.cells [.int .i64 hi])] (postF fs62w ⟨L,xs,L1,L2,lo,hi⟩)
 refine tri_evS (hyp (l:=[(104,ent104w)]) (lp:=[]) ⟨e104w,trivial⟩ trivial) Try.func62 comp62 (rs:=[.tmp 4]) (by rfl) Try.ntmps62 14 ?_
 simp -implicitDefEqProofs only[push_cast,zz,seval,ir62,fs104w]
 exact⟨hp,postF.mk' (fun _=>default) [some 0,some 1,some 2] (by simp -implicitDefEqProofs only[push_cast,zz,seval,fs62w,fs104w,allIn_iff])⟩
def ent62w:Entry:=spOf fs62w inv104w
theorem e62w:EntryOk Try.prog 62 ent62w:=entry_of ok62w inv104w
@[push_cast] theorem ent62w_app (us:List SV) (look:Look) (x:Nat->Xf.Loc) (k:Nat):ent62w us look x k=spOf fs62w inv104w us look x k:=rfl
def Pl.In (p:Pl) (lo hi:Int):Prop:=SidesOk p.w p.h/\p.xs.length=p.w*p.h/\AllIn lo hi p.xs
instance (p:Pl) (lo hi:Int):Decidable (p.In lo hi):=by unfold Pl.In;infer_instance
structure PlA where
 p:Pl
 L:Xf.Loc
structure PlW where
 a:PlA
 lo:Int
 hi:Int
def getP (look:Look):SV->Option (PlA×List Nat)
 | .agg [.int .i64 w,.int .i64 h,.sl c _ 1 0 _]=>match rowI (lkZ look (.ints .i64 []) c)with
  | some (L,.i64,xs)=>some (⟨⟨w,h,xs⟩,L⟩,[c])
  | _=>none
 | _=>none
attribute [push_cast] getP
def fs66:FS where
 A:=PlW
 args:=fun a=>[plV a.a.p a.a.L 0,.int .i64 a.lo,.int .i64 a.hi]
 mem:=fun a=>[some (.ro,a.a.L,.ints .i64 a.a.p.xs)]
 pre:=fun a=>a.a.p.xs.length<=140737488355328
 res:=fun a _=>.bool (decide (a.a.p.In a.lo a.hi))
 out:=fun _ _=>[]
 new:=fun _ _=>[]
def inv66:List SV->Look->Option (PlW×List Nat)
 | [v,.int .i64 lo,.int .i64 hi],look=>match getP look v with
  | some (a,g)=>some (⟨a,lo,hi⟩,g)
  | _=>none
 | _,_=>none
attribute [push_cast] inv66
theorem ok66:FSOk Try.prog 66 fs66:=by
 refine⟨⟨_,Try.func66,by kernel_rfl,by kernel_rfl⟩,fun a=>⟨by simp[fs66,push_cast,noMine,argOwn,Chunk.frArg],by simp[fs66,push_cast,outOk,Chunk.ext],fun x=>.inl (by simp[fs66,push_cast,frNew,frOut,Chunk.fr])⟩,fun a hp=>?_⟩
 obtain⟨⟨⟨w,h,xs⟩,L⟩,lo,hi⟩:=a
 change xs.length<=140737488355328 at hp
 change Tri Try.prog 66 [plV ⟨w,h,xs⟩ L 0,.int .i64 lo,.int .i64 hi] [some (.ro,L,.ints .i64 xs)] (postF fs66 ⟨⟨⟨w,h,xs⟩,L⟩,lo,hi⟩)
 refine tri_evS (hyp (l:=[(62,ent62w)]) (lp:=[(105,sides4F)]) ⟨e62w,trivial⟩ ⟨p105,trivial⟩) Try.func66 comp66 (rs:=[.tmp 6]) (by rfl) Try.ntmps66 17 ?_
 simp -implicitDefEqProofs only[push_cast,zz,seval,ir66,fs62w,fs104w,hp]
 intro X
 refine⟨fun H=>?_,fun H=>⟨H.1,H.2.1,H.2.2.1,H.2.2.2,H⟩,fun hn=>?_,fun hy=>?_⟩
 ·have:=mul_bd H.1 H.2.2.1 H.2.1 H.2.2.2
  omega
 ·have e:¬ (⟨w,h,xs⟩:Pl).In lo hi:=fun H=>by
   obtain⟨⟨a1,a2,a3,a4,a5⟩,b,_⟩:=H
   simp only at a1 a2 a3 a4 a5 b
   omega
  refine postF.mk' (fun _=>default) [some 0] ?_
  simp -implicitDefEqProofs only[push_cast,zz,seval,fs66,e,decide_false]
 ·have e:(AllIn lo hi xs)↔(⟨w,h,xs⟩:Pl).In lo hi:=by
   unfold Pl.In SidesOk
   simp only
   constructor
   ·intro H;refine⟨⟨by omega,by omega,by omega,by omega,by omega⟩,by omega,H⟩
   ·intro H;exact H.2.2
  refine postF.mk' (fun _=>default) [some 0] ?_
  simp -implicitDefEqProofs only[push_cast,zz,seval,fs66,e]
def ent66:Entry:=spOf fs66 inv66
theorem e66:EntryOk Try.prog 66 ent66:=entry_of ok66 inv66
@[push_cast] theorem ent66_app (us:List SV) (look:Look) (x:Nat->Xf.Loc) (k:Nat):ent66 us look x k=spOf fs66 inv66 us look x k:=rfl
def Pl.Ok (p:Pl):Prop:=p.In (-16777216) 16777216
def Pl.Gr (p:Pl):Prop:=p.In 0 255
instance (p:Pl):Decidable p.Ok:=by unfold Pl.Ok;infer_instance
instance (p:Pl):Decidable p.Gr:=by unfold Pl.Gr;infer_instance
def fs28:FS where
 A:=PlA
 args:=fun a=>[plV a.p a.L 0]
 mem:=fun a=>[some (.ro,a.L,.ints .i64 a.p.xs)]
 pre:=fun a=>a.p.xs.length<=140737488355328
 res:=fun a _=>.bool (decide a.p.Ok)
 out:=fun _ _=>[]
 new:=fun _ _=>[]
def inv28:List SV->Look->Option (PlA×List Nat)
 | [v],look=>getP look v
 | _,_=>none
attribute [push_cast] inv28
theorem ok28:FSOk Try.prog 28 fs28:=by
 refine⟨⟨_,Try.func28,by kernel_rfl,by kernel_rfl⟩,fun a=>⟨by simp[fs28,push_cast,noMine,argOwn,Chunk.frArg],by simp[fs28,push_cast,outOk,Chunk.ext],fun x=>.inl (by simp[fs28,push_cast,frNew,frOut,Chunk.fr])⟩,fun a hp=>?_⟩
 obtain⟨⟨w,h,xs⟩,L⟩:=a
 change xs.length<=140737488355328 at hp
 change Tri Try.prog 28 [plV ⟨w,h,xs⟩ L 0] [some (.ro,L,.ints .i64 xs)] (postF fs28 ⟨⟨w,h,xs⟩,L⟩)
 refine tri_evS (hyp (l:=[(66,ent66)]) (lp:=[]) ⟨e66,trivial⟩ trivial) Try.func28 comp28 (rs:=[.tmp 2]) (by rfl) Try.ntmps28 15 ?_
 simp -implicitDefEqProofs only[push_cast,zz,seval,ir28,fs66,hp]
 refine fun X=>postF.mk' (fun _=>default) [some 0] ?_
 simp -implicitDefEqProofs only[push_cast,zz,seval,fs28,Pl.Ok]
def ent28:Entry:=spOf fs28 inv28
theorem e28:EntryOk Try.prog 28 ent28:=entry_of ok28 inv28
@[push_cast] theorem ent28_app (us:List SV) (look:Look) (x:Nat->Xf.Loc) (k:Nat):ent28 us look x k=spOf fs28 inv28 us look x k:=rfl
def Pl.Eq (a b:Pl):Prop:=a.w=b.w/\a.h=b.h/\a.xs=b.xs
instance (a b:Pl):Decidable (a.Eq b):=by unfold Pl.Eq;infer_instance
theorem Pl.Eq.refl (a:Pl):a.Eq a:=⟨rfl,rfl,rfl⟩
structure Pl2 where
 a:PlA
 b:PlA
def ir54:IR:=
 .seq (r_ [z_ 2 0] [2]) (.seq (r_ [m_ 3 0,o_ 4 (.mx (.t 3) (Z_ 0)),o_ 5 (.mn (.t 4) (Z_ 255)),m_ 2 5] [0,3,4,5]) (.ret))
set_option maxRecDepth 4000 in
theorem comp54:(Try.f54.body.bind fun c=>compC tab isP chkAll ir54 c)=some ir54:=by kernel_rfl
def b18_1:IR:=
 .seq (r_ [b_ 61 .lss 60 59] []) (.seq (.cond (.t 61) (.skip) (.exit 0)) (.seq (.block 1 (.seq (r_ [m_ 62 60,m_ 9 62] [61,62]) (.seq (R_ [f_ 63 3 2,l_ 64 63,m_ 65 9,i_ 66 64 65 1,L_ 67 66,f_ 68 4 2,l_ 69 68,m_ 70 9,i_ 71 69 70 1,L_ 72 71,f_ 73 5 2,l_ 74 73,m_ 75 9,i_ 76 74 75 1,L_ 77 76,b_ 78 .add 72 77,o_ 79 (.bin 0 .shr (.t 78) (.k (.int .u64 2))),b_ 80 .sub 67 79,m_ 10 80] [63,64,65,66,67,68,69,70,71,72,73,74,75,76,77,78,79,80]) (R_ [m_ 81 9,f_ 82 5 2,l_ 83 82,m_ 84 9,i_ 85 83 84 1,L_ 86 85,m_ 87 10,b_ 88 .add 86 87,o_ 89 (.callp 54 [.t 88]),m_ 90 10,o_ 91 (.callp 54 [.t 90]),f_ 92 4 2,l_ 93 92,m_ 94 9,i_ 95 93 94 1,L_ 96 95,m_ 97 10,b_ 98 .add 96 97,o_ 99 (.callp 54 [.t 98]),o_ 100 (.call none 31 53 [.t 8,.t 81,.t 89,.t 91,.t 99])] [9,10,81,82,83,84,85,86,87,88,89,90,91,92,93,94,95,96,97,98,99,100])))) (r_ [a_ 101 60 1,m_ 60 101] [101])))
def r18_2:IR:=
 .seq (r_ [o_ 102 (.ld false (some 5) 0 0 (.t 8)),s_ 5 .i64 6 102,z_ 7 0] [3,4,5,8,59,60,102]) (.ret)
def ir18:IR:=
 .seq (r_ [o_ 3 (.box 10 (.t 0)),o_ 4 (.box 11 (.t 1)),o_ 5 (.box 12 (.t 2)),o_ 6 (.alloc 13 [y_,y_,nilSV,nilSV,nilSV]),z_ 7 0] [0,1,2,7]) (.seq (.seq (r_ [o_ 11 (.ld false (some 3) 0 0 (.t 3)),o_ 12 (.call (some 4) 14 28 [.t 11]),o_ 13 (.not (.t 12)),m_ 14 13,q_ 14 (o_ 15 (.ld false (some 3) 0 0 (.t 4))),q_ 14 (o_ 16 (.call (some 4) 18 28 [.t 15])),q_ 14 (o_ 17 (.not (.t 16))),k_ 18 14 17,m_ 19 18,q_ 19 (o_ 20 (.ld false (some 3) 0 0 (.t 5))),q_ 19 (o_ 21 (.call (some 4) 22 28 [.t 20])),q_ 19 (o_ 22 (.not (.t 21))),k_ 23 19 22] [11,12,13,14,15,16,17,18,19,20,21,22]) (.cond (.t 23) (.seq (r_ [o_ 24 (.build [y_,y_,nilSV,nilSV,nilSV] []),s_ 5 .i64 6 24,z_ 7 70] [3,4,5,23,24]) (.ret)) (.skip))) (.seq (.seq (r_ [f_ 25 3 0,l_ 26 25,f_ 27 4 0,l_ 28 27,b_ 29 .neq 26 28,m_ 30 29,q_ 30 (f_ 31 3 0),q_ 30 (l_ 32 31),q_ 30 (f_ 33 5 0),q_ 30 (l_ 34 33),q_ 30 (b_ 35 .neq 32 34),k_ 36 30 35,m_ 37 36,q_ 37 (f_ 38 3 1),q_ 37 (l_ 39 38),q_ 37 (f_ 40 4 1),q_ 37 (l_ 41 40),q_ 37 (b_ 42 .neq 39 41),k_ 43 37 42,m_ 44 43,q_ 44 (f_ 45 3 1),q_ 44 (l_ 46 45),q_ 44 (f_ 47 5 1),q_ 44 (l_ 48 47),q_ 44 (b_ 49 .neq 46 48),k_ 50 44 49] [7,23,25,26,27,28,29,30,31,32,33,34,35,36,37,38,39,40,41,42,43,44,45,46,47,48,49]) (.cond (.t 50) (.seq (r_ [o_ 51 (.build [y_,y_,nilSV,nilSV,nilSV] []),s_ 5 .i64 6 51,z_ 7 2] [3,4,5,50,51]) (.ret)) (.skip))) (.seq (r_ [f_ 52 3 0,l_ 53 52,f_ 54 3 1,l_ 55 54,o_ 56 (.call (some 4) 26 52 [.t 53,.t 55]),o_ 8 (.alloc 30 [y_,y_,nilSV,nilSV,nilSV]),s_ 5 .i64 8 56] [7,50,52,53,54,55,56]) (.seq (.seq (r_ [f_ 57 3 2,l_ 58 57,h_ 59 58,z_ 60 0] [57,58]) (.block 0 (.loop b18_1))) (r18_2)))))
def kp18_1:List Nat:=[3,4,5,6,8,59,60]
def kl18_1:List Nat:=[31,32,33,34]
attribute [push_cast] kp18_1 kl18_1
set_option maxRecDepth 4000 in
theorem comp18:(Try.f18.body.bind fun c=>compC tab isP chkAll ir18 c)=some ir18:=by kernel_rfl
def clampI (n:Int):Int:=min (max n 0) 255
def clampF:EntryP
 | [.int .i64 n]=>some (True,.int .i64 (clampI n))
 | _=>none
attribute [push_cast] clampF
theorem p54:EntryPOk Try.prog 54 clampF:=by
 refine⟨⟨_,Try.func54,by kernel_rfl,by kernel_rfl⟩,fun us p v h hp=>?_⟩
 unfold clampF at h
 split at h<;>cases h
 refine tri_evS (hyp (l:=[]) (lp:=[]) trivial trivial) Try.func54 comp54 (rs:=[.tmp 2]) (by rfl) Try.ntmps54 10 ?_
 simp -implicitDefEqProofs only[push_cast,zz,seval,ir54,clampF,clampI]
structure Bk where
 y:PlA
 u:PlA
 v:PlA
def Bk.planes (b:Bk):Prop:=b.y.p.Ok/\b.u.p.Ok/\b.v.p.Ok
def Bk.sides (b:Bk):Prop:=b.u.p.w=b.y.p.w/\b.u.p.h=b.y.p.h/\b.v.p.w=b.y.p.w/\b.v.p.h=b.y.p.h
instance (b:Bk):Decidable b.planes:=by unfold Bk.planes;infer_instance
instance (b:Bk):Decidable b.sides:=by unfold Bk.sides;infer_instance
def Bk.Ok (b:Bk):Prop:=b.planes/\b.sides
instance (b:Bk):Decidable b.Ok:=by unfold Bk.Ok;infer_instance
def bG (y u v:List Int):Nat->Int:=fun k=>rd y (k:Nat)-(rd u (k:Nat)+rd v (k:Nat)) / 4
def bkR (y u v:List Int):Nat->Int:=fun k=>clampI (rd v (k:Nat)+bG y u v k)
def bkG (y u v:List Int):Nat->Int:=fun k=>clampI (bG y u v k)
def bkB (y u v:List Int):Nat->Int:=fun k=>clampI (rd u (k:Nat)+bG y u v k)
def backI (b:Bk):Im:=if b.Ok then ⟨b.y.p.w,b.y.p.h,tabl b.y.p.xs.length (bkR b.y.p.xs b.u.p.xs b.v.p.xs),tabl b.y.p.xs.length (bkG b.y.p.xs b.u.p.xs b.v.p.xs),tabl b.y.p.xs.length (bkB b.y.p.xs b.u.p.xs b.v.p.xs)⟩else im0
def Bk.small (b:Bk):Prop:=b.y.p.xs.length<=140737488355328/\b.u.p.xs.length<=140737488355328/\b.v.p.xs.length<=140737488355328
def fs18:FS where
 A:=Bk
 args:=fun b=>[plV b.y.p b.y.L 0,plV b.u.p b.u.L 1,plV b.v.p b.v.L 2]
 mem:=fun b=>[some (.ro,b.y.L,.ints .i64 b.y.p.xs),some (.ro,b.u.L,.ints .i64 b.u.p.xs),some (.ro,b.v.L,.ints .i64 b.v.p.xs)]
 pre:=fun b=>b.small
 res:=fun b x=>.tup [imV (backI b) (lx b.Ok x 0) (lx b.Ok x 1) (lx b.Ok x 2) 3,.int .i64 (if b.Ok then 0 else if b.planes then 2 else 70)]
 out:=fun _ _=>[]
 new:=fun b x=>imN (backI b) (lx b.Ok x)
def inv18:List SV->Look->Option (Bk×List Nat)
 | [a,b,c],look=>match getP look a,getP look b,getP look c with
  | some (a,g),some (b,g'),some (c,g'')=>some (⟨a,b,c⟩,g++(g'++g''))
  | _,_,_=>none
 | _,_=>none
attribute [push_cast] inv18
theorem Bk.Ok.val {w h w1 h1 w2 h2:Int} {xs ys ws:List Int} {L1 L2 L3:Xf.Loc} (H:(⟨⟨⟨w,h,xs⟩,L1⟩,⟨⟨w1,h1,ys⟩,L2⟩,⟨⟨w2,h2,ws⟩,L3⟩⟩:Bk).Ok) :
  SidesOk w h/\(xs.length:Int)=w*h/\ys.length=xs.length/\ws.length=xs.length/\w1=w/\h1=h/\w2=w/\h2=h /\
   ∀ k:Nat,k<xs.length->(-16777216<=rd xs k/\rd xs k<=16777216)/\(-16777216<=rd ys k/\rd ys k<=16777216)/\(-16777216<=rd ws k/\rd ws k<=16777216):=by
 obtain⟨⟨⟨a1,a2,a3⟩,⟨b1,b2,b3⟩,⟨c1,c2,c3⟩⟩,d1,d2,d3,d4⟩:=H
 simp only at a1 a2 a3 b1 b2 b3 c1 c2 c3 d1 d2 d3 d4
 subst d1 d2 d3 d4
 have e1:ys.length=xs.length:=by omega
 have e2:ws.length=xs.length:=by omega
 exact⟨a1,a2,e1,e2,rfl,rfl,rfl,rfl,fun k hk=>⟨allIn_rd.1 a3 k hk,allIn_rd.1 b3 k (by omega),allIn_rd.1 c3 k (by omega)⟩⟩
theorem ok18:FSOk Try.prog 18 fs18:=by
 refine⟨⟨_,Try.func18,by kernel_rfl,by kernel_rfl⟩,fun a=>⟨by simp[fs18,push_cast,noMine,argOwn,Chunk.frArg],by simp[fs18,push_cast,outOk,Chunk.ext],fun x=>.inl (by simp[fs18,push_cast,frNew,frOut,Chunk.fr])⟩,fun a hp=>?_⟩
 obtain⟨⟨⟨w,h,xs⟩,L1⟩,⟨⟨w1,h1,ys⟩,L2⟩,⟨⟨w2,h2,ws⟩,L3⟩⟩:=a
 obtain⟨hp1,hp2,hp3⟩:xs.length<=140737488355328/\ys.length<=140737488355328/\ws.length<=140737488355328:=hp
 change Tri Try.prog 18 [plV ⟨w,h,xs⟩ L1 0,plV ⟨w1,h1,ys⟩ L2 1,plV ⟨w2,h2,ws⟩ L3 2] [some (.ro,L1,.ints .i64 xs),some (.ro,L2,.ints .i64 ys),some (.ro,L3,.ints .i64 ws)] (postF fs18 ⟨⟨⟨w,h,xs⟩,L1⟩,⟨⟨w1,h1,ys⟩,L2⟩,⟨⟨w2,h2,ws⟩,L3⟩⟩)
 refine tri_evS (hyp (l:=[(28,ent28),(52,ent52),(53,ent53)]) (lp:=[(54,clampF)]) ⟨e28,e52,e53,trivial⟩ ⟨p54,trivial⟩) Try.func18 comp18 (rs:=[.cell 6 (some 5),.tmp 7]) (by rfl) Try.ntmps18 35 ?_
 simp -implicitDefEqProofs only[push_cast,zz,seval,ir18,fs28,fs52,hp1,hp2,hp3]
 intro X
 have he:(⟨⟨⟨w,h,xs⟩,L1⟩,⟨⟨w1,h1,ys⟩,L2⟩,⟨⟨w2,h2,ws⟩,L3⟩⟩:Bk).planes↔((⟨w,h,xs⟩:Pl).Ok/\(⟨w1,h1,ys⟩:Pl).Ok/\(⟨w2,h2,ws⟩:Pl).Ok):=Iff.rfl
 have hd:(⟨⟨⟨w,h,xs⟩,L1⟩,⟨⟨w1,h1,ys⟩,L2⟩,⟨⟨w2,h2,ws⟩,L3⟩⟩:Bk).sides↔(w1=w/\h1=h/\w2=w/\h2=h):=Iff.rfl
 have hO:(⟨⟨⟨w,h,xs⟩,L1⟩,⟨⟨w1,h1,ys⟩,L2⟩,⟨⟨w2,h2,ws⟩,L3⟩⟩:Bk).Ok↔(⟨⟨⟨w,h,xs⟩,L1⟩,⟨⟨w1,h1,ys⟩,L2⟩,⟨⟨w2,h2,ws⟩,L3⟩⟩:Bk).planes/\(⟨⟨⟨w,h,xs⟩,L1⟩,⟨⟨w1,h1,ys⟩,L2⟩,⟨⟨w2,h2,ws⟩,L3⟩⟩:Bk).sides:=Iff.rfl
 generalize hb:(⟨⟨⟨w,h,xs⟩,L1⟩,⟨⟨w1,h1,ys⟩,L2⟩,⟨⟨w2,h2,ws⟩,L3⟩⟩:Bk)=b at he hd hO ⊢
 refine⟨fun hn=>?_,fun hy=>⟨fun hn=>?_,fun hs X1=>?_⟩⟩
 ·have e1:¬ b.planes:=by rw[he];simp only[<-and_assoc];intro H;simp[H]at hn
  have e2:¬ b.Ok:=fun H=>e1 (hO.1 H).1
  refine postF.mk' (fun _=>default) [some 0,some 1,some 2,none,none,none] ?_
  subst hb
  simp -implicitDefEqProofs only[push_cast,zz,seval,fs18,backI,e1,e2,if_false,lx,im0]
 ·have e1:b.planes:=by rw[he];simp only[not_or,Classical.not_not]at hy;exact⟨hy.1.1,hy.1.2,hy.2⟩
  have e2:¬ b.Ok:=fun H=>by have:=hd.1 (hO.1 H).2;omega
  refine postF.mk' (fun _=>default) [some 0,some 1,some 2,none,none,none] ?_
  subst hb
  simp -implicitDefEqProofs only[push_cast,zz,seval,fs18,backI,e1,e2,if_false,if_true,lx,im0]
 have e1:b.planes:=by rw[he];simp only[not_or,Classical.not_not]at hy;exact⟨hy.1.1,hy.1.2,hy.2⟩
 have e2:b.Ok:=hO.2 ⟨e1,hd.2 (by omega)⟩
 subst hb
 obtain⟨hsd,hl,ly,lz,rfl,rfl,rfl,rfl,hv⟩:=e2.val
 have hm:=hsd.bd
 refine⟨hsd,?_⟩
 have ez:(w2*h2).toNat=xs.length:=by omega
 refine evS_loopU (A:=Nat) kp18_1 kl18_1 (fun i=>[(60,.int .i64 i)]) (fun k=>[(26,.mine,X1 4 26,.ints .i64 (prt xs.length k (bkR xs ys ws))),(27,.mine,X1 4 27,.ints .i64 (prt xs.length k (bkG xs ys ws))),(28,.mine,X1 4 28,.ints .i64 (prt xs.length k (bkB xs ys ws)))])
  (fun i=>i<=xs.length) (fun i=>xs.length-i) 0 (by omega) (Sub.pt ?_) ?_
 ·simp -implicitDefEqProofs only[push_cast,zz,seval,zs,prt_zero,ez]
 intro k (hk:k<=xs.length) K hK
 simp -implicitDefEqProofs only[push_cast,zz,seval,b18_1,r18_2,fs53]
 refine⟨fun hk1=>?_,fun hk1=>?_⟩
 ·have hk':k<xs.length:=by omega
  obtain⟨v1,v2,v3⟩:=hv k hk'
  have lR:=prt_length hk (bkR xs ys ws)
  have lG:=prt_length hk (bkG xs ys ws)
  have lB:=prt_length hk (bkB xs ys ws)
  repeat refine om_ ?_
  refine hK (k+1) hk' (show xs.length-(k+1)<xs.length-k by omega) _ _ (Sub.pt ?_)
  have e4:(2:Int)^2=4:=rfl
  have qR:(prt xs.length k (bkR xs ys ws)).set k (clampI (rd ws k+(rd xs k-(rd ys k+rd ws k) / 4)))=prt xs.length (k+1) (bkR xs ys ws):=prt_set hk' _
  have qG:(prt xs.length k (bkG xs ys ws)).set k (clampI (rd xs k-(rd ys k+rd ws k) / 4))=prt xs.length (k+1) (bkG xs ys ws):=prt_set hk' _
  have qB:(prt xs.length k (bkB xs ys ws)).set k (clampI (rd ys k+(rd xs k-(rd ys k+rd ws k) / 4)))=prt xs.length (k+1) (bkB xs ys ws):=prt_set hk' _
  simp -implicitDefEqProofs only[push_cast,zz,seval,e4,Int.toNat_natCast,qR,qG,qB]
 ·obtain rfl:k=xs.length:=by omega
  refine postF.mk' (locs [X1 4 26,X1 4 27,X1 4 28]) [some 0,some 1,some 2,some 26,some 27,some 28] ?_
  simp -implicitDefEqProofs only[push_cast,zz,seval,fs18,backI,e2,if_true,lx,prt_all,tabl_length,hl]
def ent18:Entry:=spOf fs18 inv18
theorem e18:EntryOk Try.prog 18 ent18:=entry_of ok18 inv18
@[push_cast] theorem ent18_app (us:List SV) (look:Look) (x:Nat->Xf.Loc) (k:Nat):ent18 us look x k=spOf fs18 inv18 us look x k:=rfl
theorem Dens.mem:∀ {cs:List SV} {vs:List Value} {c:SV},Dens cs vs->c∈cs->∃ v,Den c v
 | [],_,_,_,h=>by cases h
 | d::cs,vs,c,hd,h=>by
  simp only[Dens]at hd
  obtain⟨v,vs',_,h1,h2⟩:=hd
  rcases List.mem_cons.1 h with rfl | h
  ·exact⟨v,h1⟩
  ·exact Dens.mem h2 h
structure Row2 where
 L:Xf.Loc
 xs:List Int
 M:Xf.Loc
 ys:List Int
theorem rd_bd {lo hi:Int} {xs:List Int} (h:AllIn lo hi xs) (h0:lo<=0) (h1:0<=hi) (k:Int):lo<=rd xs k/\rd xs k<=hi:=by
 by_cases hk:k.toNat<xs.length
 ·have e:rd xs k=xs[k.toNat]:=by simp[rd,hk]
  rw[e];exact h _ (List.getElem_mem hk)
 ·have e:rd xs k=0:=by simp[rd,List.getElem?_eq_none (Nat.not_lt.1 hk)]
  rw[e];exact⟨h0,h1⟩
structure PlD where
 a:PlA
 w:Int
 h:Int
def PlD.fit (d:PlD):Prop:=SidesOk d.w d.h/\d.a.p.w=(d.w+1) / 2/\d.a.p.h=(d.h+1) / 2
instance (d:PlD):Decidable d.fit:=by unfold PlD.fit;infer_instance
def PlD.Ok (d:PlD):Prop:=d.a.p.Ok/\d.fit
instance (d:PlD):Decidable d.Ok:=by unfold PlD.Ok;infer_instance
structure Bm where
 w:Int
 h:Int
 xs:List Int
structure BmA where
 b:Bm
 L:Xf.Loc
def Bits (xs:List Int):Prop:=∀ n,n∈xs->n<=1
instance (xs:List Int):Decidable (Bits xs):=by unfold Bits;infer_instance
def Bm.Ok (b:Bm):Prop:=SidesOk b.w b.h/\b.xs.length=b.w*b.h/\Bits b.xs
instance (b:Bm):Decidable b.Ok:=by unfold Bm.Ok;infer_instance
structure AtA where
 a:BmA
 x:Int
 y:Int
def AtA.inside (a:AtA):Prop:=0<=a.x/\0<=a.y/\a.x<a.a.b.w/\a.y<a.a.b.h
instance (a:AtA):Decidable a.inside:=by unfold AtA.inside;infer_instance
def nearP (n:Int):Prop:=-100000<=n/\n<=100000
instance (n:Int):Decidable (nearP n):=by unfold nearP;infer_instance
structure PaintA where
 a:ImA
 b:BmA
 x:Int
 y:Int
 r:Int
 g:Int
 bl:Int
def PaintA.fit (P:PaintA):Prop:=P.b.b.Ok/\nearP P.x/\nearP P.y/\ValOk P.r/\ValOk P.g/\ValOk P.bl
instance (P:PaintA):Decidable P.fit:=by unfold PaintA.fit;infer_instance
def PaintA.Ok (P:PaintA):Prop:=P.a.i.Ok/\P.fit
instance (P:PaintA):Decidable P.Ok:=by unfold PaintA.Ok;infer_instance
def b45_1:IR:=
 .seq (r_ [b_ 14 .lss 13 12] []) (.seq (.cond (.t 14) (.skip) (.exit 0)) (.seq (.block 1 (.seq (r_ [m_ 15 13,m_ 5 15] [14,15]) (.seq (R_ [m_ 16 0,m_ 17 5,i_ 18 16 17 1,L_ 19 18,m_ 20 1,m_ 21 5,i_ 22 20 21 1,L_ 23 22,b_ 24 .neq 19 23] [5,16,17,18,19,20,21,22,23]) (.cond (.t 24) (.seq (r_ [o_ 4 (.mov (.k (.bool false)))] [0,1,12,13,24]) (.ret)) (.skip))))) (r_ [a_ 25 13 1,m_ 13 25] [4,24,25])))
def r45_2:IR:=
 .seq (r_ [o_ 4 (.mov (.k (.bool true)))] [0,1,12,13]) (.ret)
def ir45:IR:=
 .seq (r_ [o_ 4 (.mov (.k (.bool false)))] [4]) (.seq (.seq (r_ [m_ 6 0,h_ 7 6,m_ 8 1,h_ 9 8,b_ 10 .neq 7 9] [6,7,8,9]) (.cond (.t 10) (.seq (r_ [o_ 4 (.mov (.k (.bool false)))] [0,1,10]) (.ret)) (.skip))) (.seq (.seq (r_ [m_ 11 0,h_ 12 11,z_ 13 0] [4,10,11]) (.block 0 (.loop b45_1))) (r45_2)))
def kp45_1:List Nat:=[0,1,12,13]
def kl45_1:List Nat:=[]
attribute [push_cast] kp45_1 kl45_1
set_option maxRecDepth 4000 in
theorem comp45:(Try.f45.body.bind fun c=>compC tab isP chkAll ir45 c)=some ir45:=by kernel_rfl
structure Row2w where
 L:Xf.Loc
 xs:List Int
 M:Xf.Loc
 ys:List Int
def fs45:FS where
 A:=Row2w
 args:=fun a=>[.sl 0 a.L 1 0 a.xs.length,.sl 1 a.M 1 0 a.ys.length]
 mem:=fun a=>[some (.ro,a.L,.ints .i64 a.xs),some (.ro,a.M,.ints .i64 a.ys)]
 pre:=fun a=>a.xs.length<=140737488355328/\a.ys.length<=140737488355328
 res:=fun a _=>.bool (decide (a.xs=a.ys))
 out:=fun _ _=>[]
 new:=fun _ _=>[]
def inv45:List SV->Look->Option (Row2w×List Nat)
 | [.sl c _ 1 0 _,.sl d _ 1 0 _],look=>match rowI (lkZ look (.ints .i64 []) c),rowI (lkZ look (.ints .i64 []) d)with
  | some (L,.i64,xs),some (M,.i64,ys)=>some (⟨L,xs,M,ys⟩,[c,d])
  | _,_=>none
 | _,_=>none
attribute [push_cast] inv45
theorem ok45:FSOk Try.prog 45 fs45:=by
 refine⟨⟨_,Try.func45,by kernel_rfl,by kernel_rfl⟩,fun a=>⟨by simp[fs45,push_cast,noMine,argOwn,Chunk.frArg],by simp[fs45,push_cast,outOk,Chunk.ext],fun x=>.inl (by simp[fs45,push_cast,frNew,frOut,Chunk.fr])⟩,fun a hp=>?_⟩
 obtain⟨L,xs,M,ys⟩:=a
 obtain⟨hp1,hp2⟩:xs.length<=140737488355328/\ys.length<=140737488355328:=hp
 change Tri Try.prog 45 [.sl 0 L 1 0 xs.length,.sl 1 M 1 0 ys.length] [some (.ro,L,.ints .i64 xs),some (.ro,M,.ints .i64 ys)] (postF fs45 ⟨L,xs,M,ys⟩)
 refine tri_evS (hyp (l:=[]) (lp:=[]) trivial trivial) Try.func45 comp45 (rs:=[.tmp 4]) (by rfl) Try.ntmps45 10 ?_
 simp -implicitDefEqProofs only[push_cast,zz,seval,ir45]
 refine⟨fun hn=>?_,fun hy=>?_⟩
 ·have e:¬ xs=ys:=fun H=>by subst H;exact hn rfl
  refine postF.mk' (fun _=>default) [some 0,some 1] ?_
  simp -implicitDefEqProofs only[push_cast,zz,seval,fs45,e,decide_false]
 have hl:xs.length=ys.length:=by omega
 refine evS_loopU (A:=Nat) kp45_1 kl45_1 (fun i=>[(13,.int .i64 i)]) (fun _=>[])
  (fun i=>i<=xs.length/\∀ j,j<i->rd xs (j:Nat)=rd ys (j:Nat)) (fun i=>xs.length-i) 0 ⟨by omega,by omega⟩ (Sub.pt ?_) ?_
 ·simp -implicitDefEqProofs only[push_cast,zz,seval]
 intro i ⟨h1,h2⟩ K hK
 simp -implicitDefEqProofs only[push_cast,zz,seval,b45_1,r45_2]
 refine⟨fun h=>?_,fun h=>?_⟩
 ·repeat refine om_ ?_
  refine⟨fun hb=>?_,fun hg=>⟨by omega,by omega,?_⟩⟩
  ·have e:¬ xs=ys:=fun H=>by subst H;exact hb rfl
   refine postF.mk' (fun _=>default) [some 0,some 1] ?_
   simp -implicitDefEqProofs only[push_cast,zz,seval,fs45,e,decide_false]
  ·refine hK (i+1) ⟨by omega,fun j hj=>?_⟩ (show xs.length-(i+1)<xs.length-i by omega) _ _ (Sub.pt ?_)
   ·by_cases e:j=i
    ·subst e;exact hg
    ·exact h2 j (by omega)
   ·simp -implicitDefEqProofs only[push_cast,zz,seval]
 ·have e:xs=ys:=eq_of_rd hl fun j hj=>h2 j (by omega)
  refine postF.mk' (fun _=>default) [some 0,some 1] ?_
  simp -implicitDefEqProofs only[push_cast,zz,seval,fs45,e,decide_true]
def ent45:Entry:=spOf fs45 inv45
theorem e45:EntryOk Try.prog 45 ent45:=entry_of ok45 inv45
@[push_cast] theorem ent45_app (us:List SV) (look:Look) (x:Nat->Xf.Loc) (k:Nat):ent45 us look x k=spOf fs45 inv45 us look x k:=rfl
structure OutU where
 L1:Xf.Loc
 n:Int
 m:Int
structure OutV where
 L:Xf.Loc
 xs:List Int
 L1:Xf.Loc
 m:Int
structure RowM where
 L:Xf.Loc
 xs:List Int
 m:Int
structure LiftA where
 kind:Int
 L:Xf.Loc
 xs:List Int
 lo:Int
 n:Int
 i:Int
structure NearA where
 L:Xf.Loc
 xs:List Int
 lo:Int
 n:Int
 i:Int
def BdF (B:Int) (f:Int->Int):Prop:=∀ j,-B<=f j/\f j<=B
theorem BdF.rd {xs:List Int} {B:Int} (h:AllIn (-B) B xs) (h0:0<=B) (lo:Int):BdF B (fun j=>rd xs (lo+j)):=fun j=>rd_bd h (by omega) h0 _
structure LineA where
 kind:Int
 L:Xf.Loc
 xs:List Int
 lo:Int
 n:Nat
structure LnA where
 kind:Int
 L:Xf.Loc
 xs:List Int
structure QA where
 a:PlA
 q:Int
 M:Xf.Loc
def qR (q:Int):Prop:=1<=q/\q<=1000
instance (q:Int):Decidable (qR q):=by unfold qR;infer_instance
structure Q1 where
 n:Int
 L:Xf.Loc
 q:Int
def ir13:IR:=
 .seq (r_ [o_ 2 (.box 10 (.t 0)),o_ 3 (.box 11 (.t 1)),o_ 4 (.mov (.k (.bool false)))] [0,1,4]) (.seq (r_ [f_ 5 2 0,l_ 6 5,f_ 7 3 0,l_ 8 7,b_ 9 .eql 6 8,m_ 10 9,p_ 10 (f_ 11 2 1),p_ 10 (l_ 12 11),p_ 10 (f_ 13 3 1),p_ 10 (l_ 14 13),p_ 10 (b_ 15 .eql 12 14),K_ 16 10 15,m_ 17 16,p_ 17 (f_ 18 2 2),p_ 17 (l_ 19 18),p_ 17 (f_ 20 3 2),p_ 17 (l_ 21 20),p_ 17 (o_ 22 (.call (some 4) 12 45 [.t 19,.t 21])),K_ 23 17 22,m_ 4 23] [2,3,5,6,7,8,9,10,11,12,13,14,15,16,17,18,19,20,21,22,23]) (.ret))
set_option maxRecDepth 4000 in
theorem comp13:(Try.f13.body.bind fun c=>compC tab isP chkAll ir13 c)=some ir13:=by kernel_rfl
def fs13:FS where
 A:=Pl2
 args:=fun a=>[plV a.a.p a.a.L 0,plV a.b.p a.b.L 1]
 mem:=fun a=>[some (.ro,a.a.L,.ints .i64 a.a.p.xs),some (.ro,a.b.L,.ints .i64 a.b.p.xs)]
 pre:=fun a=>a.a.p.xs.length<=140737488355328/\a.b.p.xs.length<=140737488355328
 res:=fun a _=>.bool (decide (a.a.p.Eq a.b.p))
 out:=fun _ _=>[]
 new:=fun _ _=>[]
def inv13:List SV->Look->Option (Pl2×List Nat)
 | [v,u],look=>match getP look v,getP look u with
  | some (a,g),some (b,g')=>some (⟨a,b⟩,g++g')
  | _,_=>none
 | _,_=>none
attribute [push_cast] inv13
theorem ok13:FSOk Try.prog 13 fs13:=by
 refine⟨⟨_,Try.func13,by kernel_rfl,by kernel_rfl⟩,fun a=>⟨by simp[fs13,push_cast,noMine,argOwn,Chunk.frArg],by simp[fs13,push_cast,outOk,Chunk.ext],fun x=>.inl (by simp[fs13,push_cast,frNew,frOut,Chunk.fr])⟩,fun a hp=>?_⟩
 obtain⟨⟨⟨w,h,xs⟩,L⟩,⟨⟨w',h',ys⟩,M⟩⟩:=a
 obtain⟨hp1,hp2⟩:xs.length<=140737488355328/\ys.length<=140737488355328:=hp
 change Tri Try.prog 13 [plV ⟨w,h,xs⟩ L 0,plV ⟨w',h',ys⟩ M 1] [some (.ro,L,.ints .i64 xs),some (.ro,M,.ints .i64 ys)] (postF fs13 ⟨⟨⟨w,h,xs⟩,L⟩,⟨⟨w',h',ys⟩,M⟩⟩)
 refine tri_evS (hyp (l:=[(45,ent45)]) (lp:=[]) ⟨e45,trivial⟩ trivial) Try.func13 comp13 (rs:=[.tmp 4]) (by rfl) Try.ntmps13 16 ?_
 simp -implicitDefEqProofs only[push_cast,zz,seval,ir13,fs45,hp1,hp2]
 refine fun X=>⟨fun H=>⟨H.1,H.2,H⟩,?_⟩
 refine postF.mk' (fun _=>default) [some 0,some 1] ?_
 simp -implicitDefEqProofs only[push_cast,zz,seval,fs13,Pl.Eq]
def ent13:Entry:=spOf fs13 inv13
theorem e13:EntryOk Try.prog 13 ent13:=entry_of ok13 inv13
@[push_cast] theorem ent13_app (us:List SV) (look:Look) (x:Nat->Xf.Loc) (k:Nat):ent13 us look x k=spOf fs13 inv13 us look x k:=rfl
structure AlA where
 F:Xf.Loc
 LP:Xf.Loc
 w:Int
 kind:Int
 ws:List Int
 a:Int
 b:Int
 n:Nat
abbrev LT:=Int->Nat->(Int->Int)->List Int
structure Trn (T:LT):Prop where
 len:∀ k n f,(T k n f).length=n
 bd:∀ k n f B,BdF B f->0<=B->AllIn (-(3*B+1)) (3*B+1) (T k n f)
 congr:∀ k (n:Nat) f g,(∀ j:Nat,j<n->f j=g j)->T k n f=T k n g
def hlf (w:Nat):Nat->Nat
 | 0=>w
 | i+1=>(hlf w i+1) / 2
theorem hlf_le (w:Nat):∀ i,hlf w i<=w
 | 0=>Nat.le_refl _
 | i+1=>by have:=hlf_le w i;simp only[hlf];omega
theorem hlf_mono (w:Nat) (i:Nat):hlf w (i+1)<=hlf w i:=by simp only[hlf];omega
structure RwA where
 F:Xf.Loc
 LP:Xf.Loc
 W:Nat
 kind:Int
 ws:List Int
 w:Nat
 h:Nat
def b24_1:IR:=
 .seq (r_ [b_ 10 .lss 9 8] []) (.seq (.cond (.t 10) (.skip) (.exit 0)) (.seq (.block 1 (.seq (r_ [m_ 11 7,m_ 12 0,m_ 13 1,o_ 14 (.build [y_,y_] [(0,1,.t 12),(1,1,.t 13)]),o_ 15 (.brecs 10 2 .i64 [.t 14]),o_ 16 (.app 11 2 16 (.t 11) (.t 15)),m_ 7 16] [10,11,12,13,14,15,16]) (r_ [m_ 17 0,a_ 18 17 1,c_ 19 .quo 18 2,m_ 20 1,a_ 21 20 1,c_ 22 .quo 21 2,m_ 0 19,m_ 1 22] [17,18,19,20,21,22]))) (r_ [a_ 23 9 1,m_ 9 23] [23])))
def r24_2:IR:=
 .seq (r_ [m_ 24 7,m_ 6 24] [0,1,7,8,9,24]) (.ret)
def ir24:IR:=
 .seq (r_ [o_ 6 (.mov (.k nilSV))] [6]) (.seq (r_ [o_ 7 (.mov (.k nilSV))] []) (.seq (.seq (r_ [m_ 8 2,z_ 9 0] [2]) (.block 0 (.loop b24_1))) (r24_2)))
def kp24_1:List Nat:=[0,1,7,8,9]
def kl24_1:List Nat:=[10,11]
attribute [push_cast] kp24_1 kl24_1
set_option maxRecDepth 4000 in
theorem comp24:(Try.f24.body.bind fun c=>compC tab isP chkAll ir24 c)=some ir24:=by kernel_rfl
def tabR (n:Nat) (g:Nat->List RC):List (List RC):=(List.range n).map g
theorem tabR_length (n:Nat) (g:Nat->List RC):(tabR n g).length=n:=by simp[tabR]
theorem tabR_zero (g:Nat->List RC):tabR 0 g=[]:=rfl
theorem tabR_snoc (n:Nat) (g:Nat->List RC):tabR n g++[g n]=tabR (n+1) g:=by simp[tabR,List.range_succ]
theorem recAt_tabR {n i:Nat} (h:i<n) (g:Nat->List RC) (z:List RC):recAt (i:Int) z (tabR n g)=g i:=by
 simp[recAt,tabR,h]
def esz (s:Nat):Nat->Nat
 | 0=>1
 | _+1=>s
theorem esz_pos {s n:Nat} (h:0<n):esz s n=s:=by cases n;omega;rfl
def sdR (w h:Nat) (i:Nat):List RC:=[.int .i64 (hlf w i),.int .i64 (hlf h i)]
structure SdA where
 w:Nat
 h:Nat
 n:Nat
def fs24:FS where
 A:=SdA
 args:=fun a=>[.int .i64 a.w,.int .i64 a.h,.int .i64 a.n]
 mem:=fun _=>[]
 pre:=fun a=>a.w<=200/\a.h<=200/\a.n<=7
 res:=fun a x=>.sl 0 (lx (0<a.n) x 0) (esz 2 a.n) 0 a.n
 out:=fun _ _=>[]
 new:=fun a x=>[(lx (0<a.n) x 0,.recs 2 true [] (tabR a.n (sdR a.w a.h)))]
def inv24:List SV->Look->Option (SdA×List Nat)
 | [.int .i64 w,.int .i64 h,.int .i64 n],look=>some (⟨w.toNat,h.toNat,n.toNat⟩,[])
 | _,_=>none
attribute [push_cast] inv24
theorem hlf_succ (w i:Nat):((hlf w i:Int)+1) / 2=(hlf w (i+1):Int):=by simp only[hlf];omega
theorem ok24:FSOk Try.prog 24 fs24:=by
 refine⟨⟨_,Try.func24,by kernel_rfl,by kernel_rfl⟩,fun a=>⟨by simp[fs24,push_cast,noMine,argOwn,Chunk.frArg],by simp[fs24,push_cast,outOk,Chunk.ext],fun x=>.inl (by simp[fs24,push_cast,frNew,frOut,Chunk.fr])⟩,fun a hp=>?_⟩
 obtain⟨w,h,n⟩:=a
 obtain⟨h1,h2,h3⟩:w<=200/\h<=200/\n<=7:=hp
 change Tri Try.prog 24 [.int .i64 w,.int .i64 h,.int .i64 n] [] (postF fs24 ⟨w,h,n⟩)
 refine tri_evS (hyp (l:=[]) (lp:=[]) trivial trivial) Try.func24 comp24 (rs:=[.tmp 6]) (by rfl) Try.ntmps24 12 ?_
 simp -implicitDefEqProofs only[push_cast,zz,seval,ir24]
 refine evS_loopU (A:=Nat×Xf.Loc) kp24_1 kl24_1 (fun y=>[(0,.int .i64 (hlf w y.1)),(1,.int .i64 (hlf h y.1)),(7,.sl 11 y.2 (esz 2 y.1) 0 y.1),(9,.int .i64 y.1)]) (fun y=>[(11,.mine,y.2,.recs 2 true [] (tabR y.1 (sdR w h)))])
  (fun y=>y.1<=n/\(y.1=0->y.2=nilLoc)) (fun y=>n-y.1) (0,nilLoc) ⟨Nat.zero_le _,fun _=>rfl⟩ (Sub.pt ?_) ?_
 ·simp -implicitDefEqProofs only[push_cast,zz,seval,hlf,esz,tabR_zero]
 intro ⟨i,N⟩ ⟨(hi:i<=n),(hN:i=0->N=nilLoc)⟩ K hK
 simp -implicitDefEqProofs only[push_cast,zz,seval,b24_1,r24_2]
 have b1:=hlf_le w i
 have b2:=hlf_le h i
 have b3:=hlf_succ w i
 have b4:=hlf_succ h i
 refine⟨fun hl=>?_,fun hl=>?_⟩
 ·simp only[tabR_length]
  intro X
  repeat refine om_ ?_
  rw[b3,b4]
  refine hK (i+1,X 5 11) ⟨show i+1<=n by omega,fun q=>absurd q (Nat.succ_ne_zero i)⟩ (show n-(i+1)<n-i by omega) _ _ (Sub.pt ?_)
  have q:tabR i (sdR w h)++[[.int .i64 (hlf w i),.int .i64 (hlf h i)]]=tabR (i+1) (sdR w h):=tabR_snoc i (sdR w h)
  simp -implicitDefEqProofs only[push_cast,zz,seval,esz,q]
 ·obtain rfl:i=n:=by omega
  refine postF.mk' (fun _=>N) [some 11] ?_
  by_cases h0:0<i
  ·simp -implicitDefEqProofs only[push_cast,zz,seval,fs24,h0,if_true,lx]
  ·obtain rfl:i=0:=by omega
   obtain rfl:=hN rfl
   simp -implicitDefEqProofs only[push_cast,zz,seval,fs24,h0,if_false,lx]
def ent24:Entry:=spOf fs24 inv24
theorem e24:EntryOk Try.prog 24 ent24:=entry_of ok24 inv24
@[push_cast] theorem ent24_app (us:List SV) (look:Look) (x:Nat->Xf.Loc) (k:Nat):ent24 us look x k=spOf fs24 inv24 us look x k:=rfl
structure AskA where
 a:PlA
 kind:Int
 n:Int
structure TurnA where
 a:LineA
 b:Bool
structure RrA where
 L:Xf.Loc
 W:Nat
 H:Int
 ws:List Int
 w:Nat
 h:Nat
 kind:Int
 b:Bool
def ir109:IR:=
 .seq (r_ [o_ 1 (.box 10 (.t 0)),o_ 2 (.mov (.k (.bool false)))] [0,2]) (.seq (r_ [f_ 3 1 4,l_ 4 3,f_ 5 1 5,l_ 6 5,b_ 7 .mul 4 6,c_ 8 .eql 7 0,m_ 2 8] [1,3,4,5,6,7,8]) (.ret))
set_option maxRecDepth 4000 in
theorem comp109:(Try.f109.body.bind fun c=>compC tab isP chkAll ir109 c)=some ir109:=by kernel_rfl
def b129_1:IR:=
 .seq (r_ [b_ 9 .lss 8 7] []) (.seq (.cond (.t 9) (.skip) (.exit 0)) (.seq (.block 1 (.seq (r_ [m_ 10 8,m_ 5 10] [9,10]) (.seq (r_ [m_ 11 1,m_ 12 0,m_ 13 5,i_ 14 12 13 6,o_ 15 (.ld true (some 6) 0 0 (.t 14)),o_ 16 (.callv (some 4) 10 (.t 11) [.t 15])] [11,12,13,14,15]) (.cond (.t 16) (.seq (r_ [m_ 17 5,m_ 4 17] [0,1,5,7,8,16,17]) (.ret)) (.skip))))) (r_ [a_ 18 8 1,m_ 8 18] [4,5,16,18])))
def r129_2:IR:=
 .seq (r_ [z_ 4 (-1)] [0,1,7,8]) (.ret)
def ir129:IR:=
 .seq (r_ [z_ 4 0] [4]) (.seq (.seq (r_ [m_ 6 0,h_ 7 6,z_ 8 0] [6]) (.block 0 (.loop b129_1))) (r129_2))
def kp129_1:List Nat:=[0,1,7,8]
def kl129_1:List Nat:=[10,11,12,13]
attribute [push_cast] kp129_1 kl129_1
set_option maxRecDepth 4000 in
theorem comp129:(Try.f129.body.bind fun c=>compC tab isP chkAll ir129 c)=some ir129:=by kernel_rfl
def b108_1:IR:=
 .seq (.seq (r_ [m_ 16 6,m_ 17 0,h_ 18 17,b_ 19 .lss 16 18] [16,17,18]) (.cond (.t 19) (.skip) (.exit 0))) (.seq (.block 1 (.seq (r_ [m_ 22 0,m_ 23 6,i_ 24 22 23 6,o_ 25 (.ld true (some 6) 0 0 (.t 24)),o_ 7 (.alloc 14 [y_,y_,y_,y_,y_,y_]),s_ 6 .i64 7 25] [19,22,23,24,25]) (.seq (r_ [m_ 26 1,o_ 27 (.ld false (some 6) 0 0 (.t 7)),o_ 28 (.callv (some 4) 15 (.t 26) [.t 27]),o_ 29 (.not (.t 28))] [26,27,28]) (.cond (.t 29) (.seq (r_ [m_ 30 0,m_ 31 5,o_ 32 (.ld false (some 6) 0 0 (.t 7)),i_ 33 30 31 6,S_ 6 .i64 33 32] [7,29,30,31,32,33]) (r_ [m_ 34 5,a_ 35 34 1,m_ 5 35] [34,35])) (.skip))))) (r_ [m_ 20 6,a_ 21 20 1,m_ 6 21] [7,20,21,29]))
def r108_2:IR:=
 .seq (r_ [m_ 36 0,m_ 37 5,o_ 38 (.slc (.t 36) 6 (some (.t 37)) none),O_ (.clear [.int .i64 0,.int .i64 0,.int .i64 0,.int .i64 0,.int .i64 0,.int .i64 0] (.t 38))] [1,6,36,37,38]) (.seq (r_ [m_ 39 0,m_ 40 5,o_ 41 (.slc (.t 39) 6 none (some (.t 40))),m_ 4 41] [0,5,39,40,41]) (.ret))
def ir108:IR:=
 .seq (r_ [o_ 4 (.mov (.k nilSV))] [4]) (.seq (r_ [m_ 8 0,m_ 9 1,o_ 10 (.call (some 4) 10 129 [.t 8,.t 9]),m_ 5 10] [8,9,10]) (.seq (.seq (r_ [m_ 11 5,c_ 12 .eql 11 (-1)] [11]) (.cond (.t 12) (.seq (r_ [m_ 13 0,m_ 4 13] [0,1,5,12,13]) (.ret)) (.skip))) (.seq (.seq (r_ [m_ 14 5,a_ 15 14 1,m_ 6 15] [4,12,14,15]) (.block 0 (.loop b108_1))) (r108_2))))
def kp108_1:List Nat:=[0,1,5,6]
def kl108_1:List Nat:=[14,15,16,17,18]
attribute [push_cast] kp108_1 kl108_1
set_option maxRecDepth 4000 in
theorem comp108:(Try.f108.body.bind fun c=>compC tab isP chkAll ir108 c)=some ir108:=by kernel_rfl
structure Bd where
 lv:Int
 kd:Int
 x:Int
 y:Int
 w:Int
 h:Int
 deriving Inhabited,DecidableEq
def Bd.rc (x:Bd):List RC:=[.int .i64 x.lv,.int .i64 x.kd,.int .i64 x.x,.int .i64 x.y,.int .i64 x.w,.int .i64 x.h]
def Bd.sv (x:Bd):SV:=.agg [.int .i64 x.lv,.int .i64 x.kd,.int .i64 x.x,.int .i64 x.y,.int .i64 x.w,.int .i64 x.h]
attribute [push_cast] Bd.sv
def rdBd (l:List Bd) (i:Int):Bd:=l.getD i.toNat default
theorem recAt_Bd {l:List Bd} {i:Int} (h0:0<=i) (h1:i<l.length) (z:List RC) (e:List (List RC)):recAt i z (l.map Bd.rc++e)=(rdBd l i).rc:=by
 have h:i.toNat<l.length:=by omega
 unfold recAt rdBd
 simp[List.getD_eq_getElem?_getD,List.getElem?_append_left,h]
theorem recAt_Bd' {l:List Bd} {i:Int} (h0:0<=i) (h1:i<l.length) (z:List RC):recAt i z (l.map Bd.rc)=(rdBd l i).rc:=by
 have:=recAt_Bd h0 h1 z []
 rwa [List.append_nil]at this
theorem rdBd_nat {l:List Bd} {i:Nat} (h:i<l.length):rdBd l (i:Int)=l[i]:=by simp[rdBd,h]
theorem rdBd_mem {l:List Bd} {i:Nat} (h:i<l.length):rdBd l (i:Int)∈l:=by rw[rdBd_nat h];exact List.getElem_mem h
theorem Bd.noRow (l:List Bd) (k n:Nat) (fr:Bool) (y:Addr):¬ rows (.recs n fr [] (l.map Bd.rc++List.replicate k [.int .i64 0,.int .i64 0,.int .i64 0,.int .i64 0,.int .i64 0,.int .i64 0])) y:=by
 rintro⟨L,kk,xs,⟨r,hr,hin⟩,_⟩
 rcases List.mem_append.1 hr with h | h
 ·obtain⟨x,_,rfl⟩:=List.mem_map.1 h
  simp[Bd.rc]at hin
 ·obtain⟨_,rfl⟩:=List.mem_replicate.1 h
  simp at hin
def Bd.ok (x:Bd):Prop:=0<=x.w/\x.w<=200/\0<=x.h/\x.h<=200
def Bd.gone (x:Bd):Bool:=decide (x.w*x.h=0)
structure Bd1 where
 x:Bd
def fs109:FS where
 A:=Bd1
 args:=fun a=>[a.x.sv]
 mem:=fun _=>[]
 pre:=fun a=>a.x.ok
 res:=fun a _=>.bool a.x.gone
 out:=fun _ _=>[]
 new:=fun _ _=>[]
def inv109:List SV->Look->Option (Bd1×List Nat)
 | [.agg [.int .i64 lv,.int .i64 kd,.int .i64 x,.int .i64 y,.int .i64 w,.int .i64 h]],look=>some (⟨⟨lv,kd,x,y,w,h⟩⟩,[])
 | _,_=>none
attribute [push_cast] inv109
theorem ok109:FSOk Try.prog 109 fs109:=by
 refine⟨⟨_,Try.func109,by kernel_rfl,by kernel_rfl⟩,fun a=>⟨by simp[fs109,push_cast,noMine,argOwn,Chunk.frArg],by simp[fs109,push_cast,outOk,Chunk.ext],fun x=>.inl (by simp[fs109,push_cast,frNew,frOut,Chunk.fr])⟩,fun a hp=>?_⟩
 obtain⟨⟨lv,kd,x,y,w,h⟩⟩:=a
 obtain⟨h1,h2,h3,h4⟩:0<=w/\w<=200/\0<=h/\h<=200:=hp
 change Tri Try.prog 109 [(⟨lv,kd,x,y,w,h⟩:Bd).sv] [] (postF fs109 ⟨⟨lv,kd,x,y,w,h⟩⟩)
 have hm:=mul_bd h1 h2 h3 h4
 refine tri_evS (hyp (l:=[]) (lp:=[]) trivial trivial) Try.func109 comp109 (rs:=[.tmp 2]) (by rfl) Try.ntmps109 11 ?_
 simp -implicitDefEqProofs only[push_cast,zz,seval,ir109]
 intro X
 repeat refine om_ ?_
 refine postF.mk' (fun _=>default) [] ?_
 simp -implicitDefEqProofs only[push_cast,zz,seval,fs109,Bd.gone]
def ent109:Entry:=spOf fs109 inv109
theorem e109:EntryOk Try.prog 109 ent109:=entry_of ok109 inv109
@[push_cast] theorem ent109_app (us:List SV) (look:Look) (x:Nat->Xf.Loc) (k:Nat):ent109 us look x k=spOf fs109 inv109 us look x k:=rfl
structure Bds where
 L:Xf.Loc
 l:List Bd
def fs129:FS where
 A:=Bds
 args:=fun a=>[.sl 0 a.L 6 0 a.l.length,.fn 109 []]
 mem:=fun a=>[some (.ro,a.L,.recs 6 false [] (a.l.map Bd.rc))]
 pre:=fun a=>a.l.length<=1000000/\∀ x∈a.l,x.ok
 res:=fun a _=>.int .i64 (if a.l.findIdx Bd.gone<a.l.length then (a.l.findIdx Bd.gone:Nat)else -1)
 out:=fun _ _=>[]
 new:=fun _ _=>[]
def getBd:List (List RC)->Option (List Bd)
 | []=>some []
 | [.int .i64 lv,.int .i64 kd,.int .i64 x,.int .i64 y,.int .i64 w,.int .i64 h]::l=>match getBd l with | some r=>some (⟨lv,kd,x,y,w,h⟩::r) | none=>none
 | _=>none
theorem getBd_map:∀ l:List Bd,getBd (l.map Bd.rc)=some l
 | []=>rfl
 | x::l=>by simp only[List.map_cons,Bd.rc,getBd,getBd_map l]
def inv129:List SV->Look->Option (Bds×List Nat)
 | [.sl c _ 6 0 _,.fn 109 []],look=>match rowR (look c)with
  | some (L,6,_,r)=>match getBd r with | some l=>some (⟨L,l⟩,[c]) | none=>none
  | _=>none
 | _,_=>none
attribute [push_cast] inv129 getBd_map
theorem ok129:FSOk Try.prog 129 fs129:=by
 refine⟨⟨_,Try.func129,by kernel_rfl,by kernel_rfl⟩,fun a=>⟨by simp[fs129,push_cast,noMine,argOwn,Chunk.frArg],by simp[fs129,push_cast,outOk,Chunk.ext],fun x=>.inl (by simp[fs129,push_cast,frNew,frOut,Chunk.fr])⟩,fun a hp=>?_⟩
 obtain⟨L,l⟩:=a
 obtain⟨hl,hok⟩:l.length<=1000000/\∀ x∈l,x.ok:=hp
 change Tri Try.prog 129 [.sl 0 L 6 0 l.length,.fn 109 []] [some (.ro,L,.recs 6 false [] (l.map Bd.rc))] (postF fs129 ⟨L,l⟩)
 refine tri_evS (hyp (l:=[(109,ent109)]) (lp:=[]) ⟨e109,trivial⟩ trivial) Try.func129 comp129 (rs:=[.tmp 4]) (by rfl) Try.ntmps129 14 ?_
 simp -implicitDefEqProofs only[push_cast,zz,seval,ir129]
 refine evS_loopU (A:=Nat) kp129_1 kl129_1 (fun i=>[(8,.int .i64 i)]) (fun _=>[]) (fun i=>i<=l.length/\∀ j:Nat,j<i->(rdBd l j).gone=false) (fun i=>l.length-i) 0 ⟨Nat.zero_le _,fun j hj=>absurd hj (Nat.not_lt_zero j)⟩ (Sub.pt ?_) ?_
 ·simp -implicitDefEqProofs only[push_cast,zz,seval]
 intro i ⟨hi,hj⟩ K hK
 by_cases hi':i<l.length
 ·have r1:=recAt_Bd' (l:=l) (i:=(i:Int)) (by omega) (by omega) []
  have o1:=hok _ (rdBd_mem hi')
  have hlm:(l.map Bd.rc).length=l.length:=by rw[List.length_map]
  obtain⟨x,hx⟩:∃ x,rdBd l (i:Int)=x:=⟨_,rfl⟩
  have hx':l[i]=x:=by rw[<-rdBd_nat hi',hx]
  rw[hx]at r1 o1
  obtain⟨lv,kd,x,y,w,h⟩:=x
  obtain⟨g,hg⟩:∃ g,(⟨lv,kd,x,y,w,h⟩:Bd).gone=g:=⟨_,rfl⟩
  simp -implicitDefEqProofs only[push_cast,zz,seval,b129_1,r129_2,r1,Bd.rc,hlm,fs109,hg]
  refine⟨fun _=>?_,fun hl=>by omega⟩
  repeat refine om_ ?_
  refine⟨fun hb=>?_,fun hb=>⟨by omega,by omega,hK (i+1) ⟨by omega,fun j h=>?_⟩ (by omega) _ _ (Sub.pt ?_)⟩⟩
  ·have e:l.findIdx Bd.gone=i:=by
    rw[List.findIdx_eq hi']
    refine⟨by rw[hx',hg];exact hb,fun j h=>?_⟩
    have:=hj j h
    rwa [rdBd_nat (by omega)]at this
   refine postF.mk' (fun _=>default) [some 0] ?_
   simp -implicitDefEqProofs only[push_cast,zz,seval,fs129,e,hi',if_true]
  ·by_cases e:j=i
   ·subst e;rw[hx,hg];exact hb
   ·exact hj j (by omega)
  ·simp -implicitDefEqProofs only[push_cast,zz,seval]
 ·obtain rfl:i=l.length:=by omega
  clear hK
  have e:¬ l.findIdx Bd.gone<l.length:=fun h=>by
   have h1:=List.findIdx_getElem (w:=h)
   have h2:=hj _ h
   rw[rdBd_nat h,h1]at h2
   cases h2
  simp -implicitDefEqProofs only[push_cast,zz,seval,b129_1,r129_2,Int.lt_irrefl,true_implies,true_and]
  refine postF.mk' (fun _=>default) [some 0] ?_
  simp -implicitDefEqProofs only[push_cast,zz,seval,fs129,e,if_false]
def ent129:Entry:=spOf fs129 inv129
theorem e129:EntryOk Try.prog 129 ent129:=entry_of ok129 inv129
@[push_cast] theorem ent129_app (us:List SV) (look:Look) (x:Nat->Xf.Loc) (k:Nat):ent129 us look x k=spOf fs129 inv129 us look x k:=rfl
def keptBd (l:List Bd):List Bd:=l.filter fun x=>!x.gone
theorem keptBd_le (l:List Bd):(keptBd l).length<=l.length:=List.length_filter_le _ _
def fs108:FS where
 A:=Bds
 args:=fun a=>[.sl 0 a.L 6 0 a.l.length,.fn 109 []]
 mem:=fun a=>[some (.lent,a.L,.recs 6 false [] (a.l.map Bd.rc))]
 pre:=fun a=>a.l.length<=1000000/\∀ x∈a.l,x.ok
 res:=fun a _=>.sl 0 a.L 6 0 (keptBd a.l).length
 out:=fun a _=>[some (some (.recs 6 false [] ((keptBd a.l).map Bd.rc++List.replicate (a.l.length-(keptBd a.l).length) [.int .i64 0,.int .i64 0,.int .i64 0,.int .i64 0,.int .i64 0,.int .i64 0])))]
 new:=fun _ _=>[]
theorem del_step {l m:List Bd} {i j:Nat} (hij:i<j) (hj:j<l.length) (hm:m.length=l.length) (h1:m.take i=keptBd (l.take j)) (h2:m.drop j=l.drop j) :
  rdBd m j=rdBd l j/\((rdBd l j).gone=true->m.take i=keptBd (l.take (j+1)))/\((rdBd l j).gone=false->(m.set i (rdBd l j)).take (i+1)=keptBd (l.take (j+1))/\(m.set i (rdBd l j)).drop (j+1)=l.drop (j+1))/\m.drop (j+1)=l.drop (j+1):=by
 have e0:m[j]'(by omega)=l[j]:=by
  have:=congrArg (fun q=>q[0]?) h2
  simp only[List.getElem?_drop,Nat.add_zero]at this
  rw[List.getElem?_eq_getElem (by omega),List.getElem?_eq_getElem hj]at this
  exact Option.some.inj this
 have e1:l.take (j+1)=l.take j++[l[j]]:=List.take_succ_eq_append_getElem hj
 have e2:m.drop (j+1)=l.drop (j+1):=by
  have:=congrArg (List.drop 1) h2
  simpa [List.drop_drop,Nat.add_comm]using this
 refine⟨by rw[rdBd_nat hj,rdBd_nat (by omega),e0],fun h=>?_,fun h=>?_,e2⟩
 ·rw[rdBd_nat hj]at h
  rw[h1,e1];unfold keptBd;rw[List.filter_append];simp[h]
 ·rw[rdBd_nat hj]at h ⊢
  refine⟨?_,by rw[List.drop_set_of_lt (by omega),e2]⟩
  rw[List.take_succ_eq_append_getElem (by simp;omega),List.take_set_of_le (Nat.le_refl i),List.getElem_set_self,h1,e1]
  unfold keptBd;rw[List.filter_append];simp[h]
theorem kept_find {l:List Bd} (h:l.findIdx Bd.gone<l.length):l.take (l.findIdx Bd.gone)=keptBd (l.take (l.findIdx Bd.gone+1)):=by
 rw[List.take_succ_eq_append_getElem h]
 unfold keptBd
 rw[List.filter_append,List.filter_eq_self.2 fun x hx=>?_]
 ·have:=List.findIdx_getElem (w:=h);simp[this]
 ·obtain⟨j,hj,rfl⟩:=List.getElem_of_mem hx
  simp only[List.length_take]at hj
  have:=List.not_of_lt_findIdx (xs:=l) (p:=Bd.gone) (i:=j) (by omega)
  simpa using this
theorem kept_no {l:List Bd} (h:¬ l.findIdx Bd.gone<l.length):keptBd l=l:=by
 refine List.filter_eq_self.2 fun x hx=>?_
 have h1:¬ ∃ x∈l,x.gone=true:=fun q=>h (List.findIdx_lt_length.2 q)
 simp only[Bool.not_eq_true',<-Bool.not_eq_true]
 exact fun q=>h1 ⟨x,hx,q⟩
theorem ok108:FSOk Try.prog 108 fs108:=by
 refine⟨⟨_,Try.func108,by kernel_rfl,by kernel_rfl⟩,fun a=>⟨by simp[fs108,push_cast,noMine,argOwn,Chunk.frArg],by simp[fs108,push_cast,outOk,Chunk.ext],fun x=>.inr ⟨fun j L ch h=>?_,fun c ch h=>.inr fun y hy=>?_⟩⟩,fun a hp=>?_⟩
 ·simp[fs108]at h
 ·exfalso
  match c,h with
  | 0,h=>simp only[fs108,lk,Option.some.injEq]at h;subst h;exact Bd.noRow _ _ _ _ _ hy
  | c+1,h=>simp[fs108,lk]at h
 obtain⟨L,l⟩:=a
 obtain⟨hl,hok⟩:l.length<=1000000/\∀ x∈l,x.ok:=hp
 change Tri Try.prog 108 [.sl 0 L 6 0 l.length,.fn 109 []] [some (.lent,L,.recs 6 false [] (l.map Bd.rc))] (postF fs108 ⟨L,l⟩)
 refine tri_evS (hyp (l:=[(129,ent129),(109,ent109)]) (lp:=[]) ⟨e129,e109,trivial⟩ trivial) Try.func108 comp108 (rs:=[.tmp 4]) (by rfl) Try.ntmps108 19 ?_
 simp -implicitDefEqProofs only[push_cast,zz,seval,ir108,fs129]
 refine⟨hl,hok,?_⟩
 by_cases hf:l.findIdx Bd.gone<l.length
 case neg=>
  rw[if_neg hf]
  have e:=kept_no hf
  simp -implicitDefEqProofs only[push_cast,zz,seval,true_implies,true_and]
  refine postF.mk' (fun _=>default) [some 0] ?_
  simp -implicitDefEqProofs only[push_cast,zz,seval,fs108,e,Nat.sub_self,List.replicate_zero]
 rw[if_pos hf]
 have hk:=kept_find hf
 obtain⟨f,hfe⟩:∃ f,l.findIdx Bd.gone=f:=⟨_,rfl⟩
 rw[hfe]at hf hk ⊢
 refine⟨fun h=>by omega,fun _=>⟨by omega,by omega,?_⟩⟩
 refine evS_loopU (A:=Nat×Nat×List Bd) kp108_1 kl108_1 (fun y=>[(5,.int .i64 y.1),(6,.int .i64 y.2.1)]) (fun y=>[(0,.lent,L,.recs 6 false [] (y.2.2.map Bd.rc))])
  (fun y=>y.1<y.2.1/\y.2.1<=l.length/\y.2.2.length=l.length/\y.2.2.take y.1=keptBd (l.take y.2.1)/\y.2.2.drop y.2.1=l.drop y.2.1) (fun y=>l.length-y.2.1) (f,f+1,l) ⟨by simp only;omega,by simp only;omega,rfl,hk,rfl⟩ (Sub.pt ?_) ?_
 ·simp -implicitDefEqProofs only[push_cast,zz,seval]
 rintro⟨i,j,m⟩ ⟨h1,h2,h3,h4,h5⟩ K hK
 simp only at h1 h2 h3 h4 h5
 have hlm:(m.map Bd.rc).length=l.length:=by rw[List.length_map,h3]
 by_cases hj:j<l.length
 ·obtain⟨s1,s2,s3,s4⟩:=del_step h1 hj h3 h4 h5
  have r1:=recAt_Bd' (l:=m) (i:=(j:Int)) (by omega) (by omega) []
  have o1:=hok _ (rdBd_mem hj)
  rw[s1]at r1
  obtain⟨x,hx⟩:∃ x,rdBd l (j:Int)=x:=⟨_,rfl⟩
  rw[hx]at r1 o1 s2 s3
  obtain⟨lv,kd,x,y,w,h⟩:=x
  obtain⟨g,hg⟩:∃ g,(⟨lv,kd,x,y,w,h⟩:Bd).gone=g:=⟨_,rfl⟩
  rw[hg]at s2 s3
  simp -implicitDefEqProofs only[push_cast,zz,seval,b108_1,r108_2,r1,Bd.rc,hlm,fs109,hg]
  refine⟨fun _=>?_,fun hl=>by omega⟩
  intro X
  repeat refine om_ ?_
  refine⟨fun hb=>?_,fun hb=>?_⟩
  ·repeat refine om_ ?_
   refine hK (i+1,j+1,m.set i ⟨lv,kd,x,y,w,h⟩) ⟨by simp only;omega,by simp only;omega,by simp only[List.length_set];exact h3,(s3 (by simpa using hb)).1,(s3 (by simpa using hb)).2⟩ (by simp only;omega) _ _ (Sub.pt ?_)
   have q:(m.map Bd.rc).set i [.int .i64 lv,.int .i64 kd,.int .i64 x,.int .i64 y,.int .i64 w,.int .i64 h]=(m.set i ⟨lv,kd,x,y,w,h⟩).map Bd.rc:=by rw[List.map_set];rfl
   simp -implicitDefEqProofs only[push_cast,zz,seval,q,Int.toNat_natCast]
  ·repeat refine om_ ?_
   refine hK (i,j+1,m) ⟨by simp only;omega,by simp only;omega,h3,s2 (by simpa using hb),s4⟩ (by simp only;omega) _ _ (Sub.pt ?_)
   simp -implicitDefEqProofs only[push_cast,zz,seval]
 ·obtain rfl:j=l.length:=by omega
  clear hK
  rw[List.take_length]at h4
  have hi:i=(keptBd l).length:=by
   have:=congrArg List.length h4
   rw[List.length_take]at this;omega
  simp -implicitDefEqProofs only[push_cast,zz,seval,b108_1,r108_2,hlm,Int.lt_irrefl,true_implies,true_and]
  repeat refine om_ ?_
  refine postF.mk' (fun _=>default) [some 0] ?_
  have q:(m.map Bd.rc).take i=(keptBd l).map Bd.rc:=by rw[<-List.map_take,h4]
  have q2:((l.length:Int)-(i:Int)).toNat=l.length-(keptBd l).length:=by omega
  simp -implicitDefEqProofs only[push_cast,zz,seval,fs108,q,q2,<-hi,Int.toNat_natCast,Int.zero_add,Int.sub_zero]
def ent108:Entry:=spOf fs108 inv129
theorem e108:EntryOk Try.prog 108 ent108:=entry_of ok108 inv129
@[push_cast] theorem ent108_app (us:List SV) (look:Look) (x:Nat->Xf.Loc) (k:Nat):ent108 us look x k=spOf fs108 inv129 us look x k:=rfl
def b69_1:IR:=
 .seq (.seq (r_ [m_ 56 10,c_ 57 .gtr 56 0] [56]) (.cond (.t 57) (.skip) (.exit 0))) (.seq (.block 1 (.seq (r_ [m_ 60 8,m_ 61 10,c_ 62 .sub 61 1,i_ 63 60 62 2,o_ 64 (.ld true (some 2) 0 0 (.t 63)),o_ 11 (.allocI 15 .i64 2),S_ 2 .i64 11 64] [57,60,61,62,63,64]) (.seq (r_ [m_ 65 8,m_ 66 10,i_ 67 65 66 2,o_ 68 (.ld true (some 2) 0 0 (.t 67)),o_ 12 (.allocI 16 .i64 2),S_ 2 .i64 12 68] [65,66,67,68]) (.seq (R_ [o_ 69 (.idxP (.t 11) (Z_ 0) 2 1),L_ 70 69,o_ 71 (.idxP (.t 12) (Z_ 0) 2 1),L_ 72 71,b_ 73 .sub 70 72,o_ 74 (.idxP (.t 11) (Z_ 1) 2 1),L_ 75 74,o_ 76 (.idxP (.t 12) (Z_ 1) 2 1),L_ 77 76,b_ 78 .sub 75 77,m_ 13 73,m_ 14 78] [11,69,70,71,72,73,74,75,76,77,78]) (r_ [m_ 79 9,m_ 80 10,o_ 81 (.idxP (.t 12) (Z_ 0) 2 1),L_ 82 81,m_ 83 13,o_ 84 (.idxP (.t 12) (Z_ 1) 2 1),L_ 85 84,o_ 86 (.build [y_,y_,y_,y_,y_,y_] [(0,1,.t 80),(1,1,Z_ 1),(2,1,.t 82),(4,1,.t 83),(5,1,.t 85)]),m_ 87 10,o_ 88 (.idxP (.t 12) (Z_ 1) 2 1),L_ 89 88,o_ 90 (.idxP (.t 12) (Z_ 0) 2 1),L_ 91 90,m_ 92 14,o_ 93 (.build [y_,y_,y_,y_,y_,y_] [(0,1,.t 87),(1,1,Z_ 2),(3,1,.t 89),(4,1,.t 91),(5,1,.t 92)]),m_ 94 10,o_ 95 (.idxP (.t 12) (Z_ 0) 2 1),L_ 96 95,o_ 97 (.idxP (.t 12) (Z_ 1) 2 1),L_ 98 97,m_ 99 13,m_ 100 14,o_ 101 (.build [y_,y_,y_,y_,y_,y_] [(0,1,.t 94),(1,1,Z_ 3),(2,1,.t 96),(3,1,.t 98),(4,1,.t 99),(5,1,.t 100)]),o_ 102 (.brecs 17 6 .i64 [.t 86,.t 93,.t 101]),o_ 103 (.app 18 6 48 (.t 79) (.t 102)),m_ 9 103] [12,13,14,79,80,81,82,83,84,85,86,87,88,89,90,91,92,93,94,95,96,97,98,99,100,101,102,103]))))) (r_ [m_ 58 10,c_ 59 .sub 58 1,m_ 10 59] [58,59]))
def r69_2:IR:=
 .seq (r_ [m_ 104 9,o_ 105 (.call none 19 108 [.t 104,.k (.fn 109 [])]),m_ 6 105,z_ 7 0] [8,9,10,104,105]) (.ret)
def ir69:IR:=
 .seq (r_ [o_ 6 (.mov (.k nilSV)),z_ 7 0] [6,7]) (.seq (.seq (r_ [m_ 15 2,c_ 16 .lss 15 0,m_ 17 16,q_ 17 (m_ 18 2),q_ 17 (c_ 19 .gtr 18 6),k_ 20 17 19,m_ 21 20,q_ 21 (m_ 22 0),q_ 21 (c_ 23 .lss 22 0),k_ 24 21 23,m_ 25 24,q_ 25 (m_ 26 1),q_ 25 (c_ 27 .lss 26 0),k_ 28 25 27,m_ 29 28,q_ 29 (m_ 30 0),q_ 29 (c_ 31 .gtr 30 200),k_ 32 29 31,m_ 33 32,q_ 33 (m_ 34 1),q_ 33 (c_ 35 .gtr 34 200),k_ 36 33 35] [15,16,17,18,19,20,21,22,23,24,25,26,27,28,29,30,31,32,33,34,35]) (.cond (.t 36) (.seq (r_ [o_ 6 (.mov (.k nilSV)),z_ 7 2] [0,1,2,36]) (.ret)) (.skip))) (.seq (r_ [m_ 37 0,m_ 38 1,m_ 39 2,a_ 40 39 1,o_ 41 (.call (some 4) 10 24 [.t 37,.t 38,.t 40]),m_ 8 41] [0,1,6,7,36,37,38,39,40,41]) (.seq (R_ [m_ 42 2,m_ 43 8,m_ 44 2,i_ 45 43 44 2,o_ 46 (.idxP (.t 45) (Z_ 0) 2 1),L_ 47 46,m_ 48 8,m_ 49 2,i_ 50 48 49 2,o_ 51 (.idxP (.t 50) (Z_ 1) 2 1),L_ 52 51,o_ 53 (.build [y_,y_,y_,y_,y_,y_] [(0,1,.t 42),(4,1,.t 47),(5,1,.t 52)]),o_ 54 (.brecs 14 6 .i64 [.t 53]),m_ 9 54] [42,43,44,45,46,47,48,49,50,51,52,53,54]) (.seq (.seq (r_ [m_ 55 2,m_ 10 55] [2,55]) (.block 0 (.loop b69_1))) (r69_2)))))
def kp69_1:List Nat:=[8,9,10]
def kl69_1:List Nat:=[15,16,17,18]
attribute [push_cast] kp69_1 kl69_1
set_option maxRecDepth 4000 in
theorem comp69:(Try.f69.body.bind fun c=>compC tab isP chkAll ir69 c)=some ir69:=by kernel_rfl
def bd0 (w h n:Nat):Bd:=⟨n,0,0,0,hlf w n,hlf h n⟩
def bd3 (w h i:Nat):List Bd:=[⟨i,1,hlf w i,0,(hlf w (i-1):Int)-hlf w i,hlf h i⟩,⟨i,2,0,hlf h i,hlf w i,(hlf h (i-1):Int)-hlf h i⟩,⟨i,3,hlf w i,hlf h i,(hlf w (i-1):Int)-hlf w i,(hlf h (i-1):Int)-hlf h i⟩]
def bdD (w h n:Nat):Nat->List Bd
 | 0=>[bd0 w h n]
 | k+1=>bdD w h n k++bd3 w h (n-k)
def bdN (k:Nat):Nat:=1+3*k
theorem bdD_length (w h n:Nat):∀ k,(bdD w h n k).length=bdN k
 | 0=>rfl
 | k+1=>by rw[bdD,List.length_append,bdD_length w h n k];simp[bd3,bdN];omega
theorem bdD_ok {w h n:Nat} (hw:w<=200) (hh:h<=200):∀ k,k<=n->∀ x∈bdD w h n k,x.ok
 | 0,_,x,hx=>by
  have b1:=hlf_le w n
  have b2:=hlf_le h n
  simp only[bdD,List.mem_singleton]at hx
  subst hx
  simp only[Bd.ok,bd0];omega
 | k+1,hk,x,hx=>by
  rw[bdD,List.mem_append]at hx
  rcases hx with hx | hx
  ·exact bdD_ok hw hh k (by omega) x hx
  ·obtain⟨i,hi⟩:∃ i,n-k=i+1:=⟨n-k-1,by omega⟩
   rw[hi]at hx
   have b1:=hlf_le w i
   have b2:=hlf_le h i
   have b3:=hlf_mono w i
   have b4:=hlf_mono h i
   simp only[bd3,Nat.add_sub_cancel,List.mem_cons,List.not_mem_nil,or_false]at hx
   rcases hx with rfl | rfl | rfl<;>simp only[Bd.ok]<;>omega
def bnOk (w h n:Int):Prop:=0<=n/\n<=6/\0<=w/\w<=200/\0<=h/\h<=200
instance (w h n:Int):Decidable (bnOk w h n):=by unfold bnOk;infer_instance
def bnA (w h n:Int):List Bd:=if bnOk w h n then bdD w.toNat h.toNat n.toNat n.toNat else []
def bnL (w h n:Int):List Bd:=keptBd (bnA w h n)
theorem bnL_le (w h n:Int):(bnL w h n).length<=19:=by
 refine Nat.le_trans (keptBd_le _) ?_
 unfold bnA
 split
 ·rename_i H;rw[bdD_length];obtain⟨h1,h2,_⟩:=H;unfold bdN;omega
 ·exact Nat.zero_le _
structure BnA where
 w:Int
 h:Int
 n:Int
def bnZ (w h n:Int):List (List RC):=(bnL w h n).map Bd.rc++List.replicate ((bnA w h n).length-(bnL w h n).length) [.int .i64 0,.int .i64 0,.int .i64 0,.int .i64 0,.int .i64 0,.int .i64 0]
def fs69:FS where
 A:=BnA
 args:=fun a=>[.int .i64 a.w,.int .i64 a.h,.int .i64 a.n]
 mem:=fun _=>[]
 pre:=fun _=>True
 res:=fun a x=>.tup [.sl 0 (lx (bnOk a.w a.h a.n) x 0) (if bnOk a.w a.h a.n then 6 else 1) 0 (bnL a.w a.h a.n).length,.int .i64 (if bnOk a.w a.h a.n then 0 else 2)]
 out:=fun _ _=>[]
 new:=fun a x=>[(lx (bnOk a.w a.h a.n) x 0,.recs 6 false [] (bnZ a.w a.h a.n))]
def inv69:List SV->Look->Option (BnA×List Nat)
 | [.int .i64 w,.int .i64 h,.int .i64 n],look=>some (⟨w,h,n⟩,[])
 | _,_=>none
attribute [push_cast] inv69
theorem ok69:FSOk Try.prog 69 fs69:=by
 refine⟨⟨_,Try.func69,by kernel_rfl,by kernel_rfl⟩,fun a=>⟨by simp[fs69,push_cast,noMine,argOwn,Chunk.frArg],by simp[fs69,push_cast,outOk,Chunk.ext],fun x=>.inr ⟨fun j L ch h=>.inr fun y hy=>?_,fun c ch h=>?_⟩⟩,fun a hp=>?_⟩
 ·exfalso
  match j,h with
  | 0,h=>
   simp only[fs69,List.getElem?_cons_zero,Option.some.injEq,Prod.mk.injEq]at h
   obtain⟨_,rfl⟩:=h;exact Bd.noRow _ _ _ _ _ hy
  | j+1,h=>simp[fs69]at h
 ·simp[fs69,lk]at h
 obtain⟨w,h,n⟩:=a
 change Tri Try.prog 69 [.int .i64 w,.int .i64 h,.int .i64 n] [] (postF fs69 ⟨w,h,n⟩)
 refine tri_evS (hyp (l:=[(24,ent24),(108,ent108)]) (lp:=[]) ⟨e24,e108,trivial⟩ trivial) Try.func69 comp69 (rs:=[.tmp 6,.tmp 7]) (by rfl) Try.ntmps69 23 ?_
 simp -implicitDefEqProofs only[push_cast,zz,seval,ir69]
 refine⟨fun hb=>?_,fun hg=>?_⟩
 ·have e:¬ bnOk w h n:=fun H=>by obtain⟨q1,q2,q3,q4,q5,q6⟩:=H;omega
  have e1:bnA w h n=[]:=if_neg e
  have e2:bnL w h n=[]:=by unfold bnL;rw[e1];rfl
  refine postF.mk' (fun _=>default) [none] ?_
  simp -implicitDefEqProofs only[push_cast,zz,seval,fs69,bnZ,e,e1,e2,if_false,lx,List.length_nil,List.map_nil,Nat.sub_self,List.replicate_zero]
 have e:bnOk w h n:=by unfold bnOk;omega
 obtain⟨q1,q2,q3,q4,q5,q6⟩:=id e
 obtain⟨w,rfl⟩:∃ m:Nat,w=(m:Int):=⟨w.toNat,by omega⟩
 obtain⟨h,rfl⟩:∃ m:Nat,h=(m:Int):=⟨h.toNat,by omega⟩
 obtain⟨n,rfl⟩:∃ m:Nat,n=(m:Int):=⟨n.toNat,by omega⟩
 have en:((n:Int)+1).toNat=n+1:=by omega
 have r1:=recAt_tabR (i:=n) (n:=n+1) (by omega) (sdR w h) []
 simp -implicitDefEqProofs only[push_cast,zz,seval,fs24,Int.toNat_natCast,en,r1,sdR,esz,tabR_length]
 intro X
 repeat refine om_ ?_
 intro X1
 repeat refine om_ ?_
 refine evS_loopU (A:=Nat×Nat×Xf.Loc) kp69_1 kl69_1 (fun y=>[(9,.sl 14 y.2.2 6 0 (bdN y.1)),(10,.int .i64 y.2.1)]) (fun y=>[(14,.mine,y.2.2,.recs 6 true [] ((bdD w h n y.1).map Bd.rc))]) (fun y=>y.1+y.2.1=n) (fun y=>y.2.1) (0,n,X1 12 14) (Nat.zero_add n) (Sub.pt ?_) ?_
 ·simp -implicitDefEqProofs only[push_cast,zz,seval,bdD,bd0,Bd.rc,List.map_cons,List.map_nil,Nat.mul_zero,show bdN 0=1 from rfl]
 rintro⟨k,lv,N⟩ (hk:k+lv=n) K hK
 have hlen:((bdD w h n k).map Bd.rc).length=bdN k:=by rw[List.length_map,bdD_length]
 have hN3:bdN k=1+3*k:=rfl
 have hN4:bdN (k+1)=1+3*(k+1):=rfl
 by_cases h0:0<lv
 ·obtain⟨lv,rfl⟩:∃ i,lv=i+1:=⟨lv-1,by omega⟩
  have e1:((lv+1:Nat):Int)-1=(lv:Int):=by omega
  have r2:=recAt_tabR (i:=lv) (n:=n+1) (by omega) (sdR w h) []
  have r3:=recAt_tabR (i:=lv+1) (n:=n+1) (by omega) (sdR w h) []
  have b1:=hlf_le w lv
  have b2:=hlf_le h lv
  have b3:=hlf_mono w lv
  have b4:=hlf_mono h lv
  have e0:∀ a b:Int,rd [a,b] 0=a:=fun _ _=>rfl
  have e2:∀ a b:Int,rd [a,b] 1=b:=fun _ _=>rfl
  generalize hlv:((lv+1:Nat):Int)=lvi at e1 r3
  simp -implicitDefEqProofs only[push_cast,zz,seval,b69_1,r69_2,hlv,e1,r2,r3,sdR,e0,e2,hlen,tabR_length]
  refine⟨fun _=>?_,fun hl=>by omega⟩
  intro X2
  repeat refine om_ ?_
  intro X3
  repeat refine om_ ?_
  intro X4
  repeat refine om_ ?_
  have q:(bdD w h n k).map Bd.rc++[[.int .i64 lvi,.int .i64 1,.int .i64 (hlf w (lv+1)),.int .i64 0,.int .i64 ((hlf w lv:Int)-hlf w (lv+1)),.int .i64 (hlf h (lv+1))],[.int .i64 lvi,.int .i64 2,.int .i64 0,.int .i64 (hlf h (lv+1)),.int .i64 (hlf w (lv+1)),.int .i64 ((hlf h lv:Int)-hlf h (lv+1))],[.int .i64 lvi,.int .i64 3,.int .i64 (hlf w (lv+1)),.int .i64 (hlf h (lv+1)),.int .i64 ((hlf w lv:Int)-hlf w (lv+1)),.int .i64 ((hlf h lv:Int)-hlf h (lv+1))]]=(bdD w h n (k+1)).map Bd.rc:=by
   rw[bdD,List.map_append,show n-k=lv+1 by omega]
   simp[bd3,Bd.rc,<-hlv]
  refine hK (k+1,lv,X4 24 18) (show k+1+lv=n by omega) (show lv<lv+1 by omega) _ _ (Sub.of (mkG 23 [(10,10),(14,18)]) ?_)
  simp -implicitDefEqProofs only[push_cast,zz,seval,q]
  omega
 ·obtain rfl:lv=0:=by omega
  obtain rfl:k=n:=by omega
  clear hK
  have hall:bnA w h k=bdD w h k k:=by unfold bnA;rw[if_pos e];simp only[Int.toNat_natCast]
  have hg2:getBd ((bdD w h k k).map Bd.rc)=some (bdD w h k k):=getBd_map _
  have hle:=bdD_length w h k k
  have hok:=bdD_ok (w:=w) (h:=h) (n:=k) (by omega) (by omega) k (Nat.le_refl _)
  simp -implicitDefEqProofs only[push_cast,zz,seval,b69_1,r69_2,fs108,hg2,hle,Int.lt_irrefl,true_implies,true_and]
  refine⟨by omega,hok,postF.mk' (fun _=>N) [some 14] ?_⟩
  have hL:bnL w h k=keptBd (bdD w h k k):=by unfold bnL;rw[hall]
  simp -implicitDefEqProofs only[push_cast,zz,seval,fs69,bnZ,hL,hall,hle,e,if_true,lx]
def ent69:Entry:=spOf fs69 inv69
theorem e69:EntryOk Try.prog 69 ent69:=entry_of ok69 inv69
@[push_cast] theorem ent69_app (us:List SV) (look:Look) (x:Nat->Xf.Loc) (k:Nat):ent69 us look x k=spOf fs69 inv69 us look x k:=rfl
theorem bd_keep {x:Bd} (h:x.ok):(0<x.w/\0<x.h)↔x.gone=false:=by
 obtain⟨h1,h2,h3,h4⟩:=h
 unfold Bd.gone
 rw[decide_eq_false_iff_not,Int.mul_eq_zero]
 omega
theorem kept_in {w h n:Nat} (hw:w<=200) (hh:h<=200) {b:Bd} (hb:b∈keptBd (bdD w h n n)):0<=b.x/\0<=b.y/\1<=b.w/\1<=b.h/\b.x+b.w<=w/\b.y+b.h<=h:=by
 have hm:b∈bdD w h n n/\b.gone=false:=by
  unfold keptBd at hb
  rw[List.mem_filter]at hb
  exact⟨hb.1,by simpa using hb.2⟩
 have ho:=bdD_ok hw hh n (Nat.le_refl n) b hm.1
 have hp:=(bd_keep ho).2 hm.2
 have key:∀ k,k<=n->∀ x∈bdD w h n k,0<=x.x/\0<=x.y/\x.x+x.w<=w/\x.y+x.h<=h:=by
  intro k
  induction k with
  | zero=>
   intro _ x hx
   have b1:=hlf_le w n
   have b2:=hlf_le h n
   simp only[bdD,List.mem_singleton]at hx
   subst hx
   simp only[bd0];omega
  | succ k ih=>
   intro hk x hx
   rw[bdD,List.mem_append]at hx
   rcases hx with hx | hx
   ·exact ih (by omega) x hx
   ·obtain⟨i,hi⟩:∃ i,n-k=i+1:=⟨n-k-1,by omega⟩
    rw[hi]at hx
    have b1:=hlf_le w i
    have b2:=hlf_le h i
    have b3:=hlf_mono w i
    have b4:=hlf_mono h i
    simp only[bd3,Nat.add_sub_cancel,List.mem_cons,List.not_mem_nil,or_false]at hx
    rcases hx with rfl | rfl | rfl<;>simp only<;>omega
 have:=key n (Nat.le_refl n) b hm.1
 omega
def b112_1:IR:=
 .seq (r_ [c_ 5 .lss 4 32] []) (.seq (.cond (.t 5) (.skip) (.exit 0)) (.seq (.block 1 (.seq (r_ [m_ 6 4,m_ 3 6] [5,6]) (.seq (r_ [m_ 7 3,m_ 8 2,o_ 9 (.idxP (.t 1) (.t 7) 32 1),S_ 1 .i64 9 8] [3,7,8,9]) (r_ [m_ 10 2,m_ 11 2,c_ 12 .quo 11 8,b_ 13 .sub 10 12,m_ 2 13] [10,11,12,13])))) (r_ [a_ 14 4 1,m_ 4 14] [14])))
def r112_2:IR:=
 .seq (r_ [o_ 15 (.ld true (some 32) 0 0 (.t 1)),S_ 32 .i64 0 15] [1,2,4,15]) (.ret)
def ir112:IR:=
 .seq (r_ [o_ 0 (.allocI 10 .i64 32)] []) (.seq (r_ [o_ 1 (.allocI 11 .i64 32)] []) (.seq (r_ [z_ 2 2048] []) (.seq (.seq (r_ [z_ 4 0] []) (.block 0 (.loop b112_1))) (r112_2))))
def kp112_1:List Nat:=[0,1,2,4]
def kl112_1:List Nat:=[]
attribute [push_cast] kp112_1 kl112_1
set_option maxRecDepth 4000 in
theorem comp112:(Try.f112.body.bind fun c=>compC tab isP chkAll ir112 c)=some ir112:=by kernel_rfl
def ir118:IR:=
 .seq (r_ [o_ 3 (.box 10 (.t 0)),z_ 6 0] [0,6]) (.seq (.seq (r_ [m_ 9 1,c_ 10 .eql 9 1] [1,9]) (.cond (.t 10) (.seq (r_ [m_ 11 2,c_ 12 .quo 11 256,m_ 13 2,c_ 14 .rem 13 256,m_ 7 12,m_ 8 14] [2,3,10,11,12,13,14]) (.seq (r_ [m_ 15 8,o_ 16 (.bin 0 .mul (Z_ 2) (.t 15)),a_ 17 16 1,c_ 18 .mul 17 4096,m_ 19 7,o_ 20 (.bin 0 .mul (Z_ 2) (.t 19)),m_ 21 8,o_ 22 (.bin 0 .mul (Z_ 2) (.t 21)),b_ 23 .add 20 22,a_ 24 23 2,b_ 25 .quo 18 24,o_ 26 (.mx (.t 25) (Z_ 1)),o_ 27 (.mn (.t 26) (Z_ 4095)),m_ 6 27] [7,8,15,16,17,18,19,20,21,22,23,24,25,26,27]) (.ret))) (.skip))) (.seq (.seq (r_ [m_ 28 2,c_ 29 .geq 28 32] [6,10,28]) (.cond (.t 29) (.seq (r_ [m_ 30 2,c_ 31 .sub 30 32,o_ 32 (.idxP (.t 3) (.t 31) 32 1),l_ 33 32,o_ 34 (.bin 0 .sub (Z_ 4096) (.t 33)),m_ 6 34] [2,3,29,30,31,32,33,34]) (.ret)) (.skip))) (.seq (r_ [m_ 35 2,o_ 36 (.idxP (.t 3) (.t 35) 32 1),l_ 37 36,m_ 6 37] [2,3,29,35,36,37]) (.ret))))
set_option maxRecDepth 4000 in
theorem comp118:(Try.f118.body.bind fun c=>compC tab isP chkAll ir118 c)=some ir118:=by kernel_rfl
def qs:List Int:=[2048,1792,1568,1372,1201,1051,920,805,705,617,540,473,414,363,318,279,245,215,189,166,146,128,112,98,86,76,67,59,52,46,41,36]
def qsV:List SV:=[.int .i64 2048,.int .i64 1792,.int .i64 1568,.int .i64 1372,.int .i64 1201,.int .i64 1051,.int .i64 920,.int .i64 805,.int .i64 705,.int .i64 617,.int .i64 540,.int .i64 473,.int .i64 414,.int .i64 363,.int .i64 318,.int .i64 279,.int .i64 245,.int .i64 215,.int .i64 189,.int .i64 166,.int .i64 146,.int .i64 128,.int .i64 112,.int .i64 98,.int .i64 86,.int .i64 76,.int .i64 67,.int .i64 59,.int .i64 52,.int .i64 46,.int .i64 41,.int .i64 36]
theorem qs_len:qs.length=32:=rfl
theorem qsV_len:qsV.length=32:=rfl
theorem qsV_ints:intsV .i64 qs 32=qsV:=rfl
theorem qsV_as:asInts .i64 qsV=some qs:=rfl
theorem qsV_map:qsV=qs.map (fun n=>.int .i64 n):=rfl
theorem qsV_get (k:Nat) (h:k<32):getL qsV k=some (.int .i64 (rd qs (k:Nat))):=by
 rw[getL_eq,qsV_map,List.getElem?_map,List.getElem?_eq_getElem (by rw[qs_len];exact h),rd_lt qs k (by rw[qs_len];exact h)]
 rfl
theorem qs_bd:∀ k,k<32->0<=rd qs (k:Nat)/\rd qs (k:Nat)<=2048/\1<=rd qs (k:Nat):=by decide +kernel
def qst:Nat->List Int×Int
 | 0=>(intsZ 32,2048)
 | k+1=>((qst k).1.set k (qst k).2,(qst k).2-(qst k).2 / 8)
theorem qst_len:∀ k,(qst k).1.length=32
 | 0=>rfl
 | k+1=>by rw[qst,List.length_set,qst_len k]
theorem qst_bd:∀ k,0<=(qst k).2/\(qst k).2<=2048
 | 0=>by decide
 | k+1=>by have:=qst_bd k;rw[qst];simp only;omega
theorem qst_end:(qst 32).1=qs:=by decide +kernel
def chancesF:EntryP
 | []=>some (True,.agg qsV)
 | _=>none
attribute [push_cast] chancesF
set_option maxRecDepth 4000 in
theorem p112:EntryPOk Try.prog 112 chancesF:=by
 refine⟨⟨_,Try.func112,by kernel_rfl,by kernel_rfl⟩,fun us p v h hp=>?_⟩
 unfold chancesF at h
 split at h<;>cases h
 refine tri_evS (hyp (l:=[]) (lp:=[]) trivial trivial) Try.func112 comp112 (rs:=[.cell 0 (some 32)]) (by rfl) Try.ntmps112 12 ?_
 simp -implicitDefEqProofs only[push_cast,zz,seval,ir112]
 intro X X1
 refine evS_loopU (A:=Nat) kp112_1 kl112_1 (fun k=>[(4,.int .i64 k),(2,.int .i64 (qst k).2)]) (fun k=>[(11,.mine,⟨(X1 0 11).b,(X1 0 11).o,false,32⟩,.ints .i64 (qst k).1)]) (fun k=>k<=32) (fun k=>32-k) 0 (Nat.zero_le _) (Sub.pt ?_) ?_
 ·have e0:qst 0=(intsZ 32,2048):=rfl
  simp -implicitDefEqProofs only[push_cast,zz,seval,e0]
 intro k hk K hK
 have hk:k<=32:=hk
 have hb:=qst_bd k
 have hl:=qst_len k
 by_cases hk':k<32
 ·have e1:qst (k+1)=((qst k).1.set k (qst k).2,(qst k).2-(qst k).2 / 8):=rfl
  obtain⟨⟨x,q⟩,hx⟩:∃ x,qst k=x:=⟨_,rfl⟩
  rw[hx]at e1 hb hl
  simp only at e1 hb hl
  have hki:(k:Int)<32:=by omega
  simp -implicitDefEqProofs only[push_cast,zz,seval,b112_1,hx,hl,Int.toNat_natCast,hki]
  repeat refine om_ ?_
  refine hK (k+1) (show k+1<=32 by omega) (show 32-(k+1)<32-k by omega) _ _ (Sub.pt ?_)
  simp -implicitDefEqProofs only[push_cast,zz,seval,e1]
 ·have hk2:k=32:=by omega
  have hq:(qst k).1=qs:=by rw[hk2,qst_end]
  have hki:¬ (k:Int)<32:=by omega
  clear hK
  simp -implicitDefEqProofs only[push_cast,zz,seval,b112_1,hq,hki,qsV_ints,qsV_as,qs_len,r112_2]
  rfl
def chP (kind s:Int):Int:=
 if kind=1 then min (max ((2*(s % 256)+1)*4096 / (2*(s / 256)+2*(s % 256)+2)) 1) 4095
 else if 32<=s then 4096-rd qs (s-32)else rd qs s
def nxP (kind s bit:Int):Int:=
 if kind=1 then
  (if bit=0 then (if s / 256=255 then 256*(s / 256 / 2+1)+s % 256 / 2 else 256*(s / 256+1)+s % 256)
   else (if s % 256=255 then 256*(s / 256 / 2)+(s % 256 / 2+1)else 256*(s / 256)+(s % 256+1)))
 else if bit=s / 32 then 32*(s / 32)+min (s % 32+1) 31
 else if s % 32=0 then 32*bit+s % 32
 else 32*(s / 32)+(s % 32-(1+s % 32 / 4))
def sttOk (kind s:Int):Prop:=0<=s/\(kind=1->s<65536)/\(kind≠1->s<64)
theorem chP_bd {kind s:Int} (h:sttOk kind s):1<=chP kind s/\chP kind s<=4095:=by
 obtain⟨h0,h1,h2⟩:=h
 unfold chP
 split
 ·omega
 rename_i hk
 have h2:=h2 hk
 split
 ·obtain⟨k,hk⟩:∃ k:Nat,s-32=k:=⟨(s-32).toNat,by omega⟩
  rw[hk]
  have:=qs_bd k (by omega)
  omega
 ·obtain⟨k,rfl⟩:∃ k:Nat,s=k:=⟨s.toNat,by omega⟩
  have:=qs_bd k (by omega)
  omega
theorem nxP_ok {kind s bit:Int} (h:sttOk kind s) (hb:bit=0∨bit=1):sttOk kind (nxP kind s bit):=by
 obtain⟨h0,h1,h2⟩:=h
 unfold nxP sttOk
 by_cases hk:kind=1
 ·have h1:=h1 hk
  simp only[hk,if_true]
  refine⟨?_,fun _=>?_,fun h=>absurd rfl h⟩<;>(repeat' split)<;>omega
 ·have h2:=h2 hk
  simp only[hk,if_false]
  refine⟨?_,fun h=>h.elim,fun h=>?_⟩<;>(repeat' split)<;>omega
def chanceF:EntryP
 | [.agg cs,.int .i64 kind,.int .i64 s]=>some (cs=qsV/\sttOk kind s,.int .i64 (chP kind s))
 | _=>none
def nextF:EntryP
 | [.int .i64 kind,.int .i64 s,.int .i64 bit]=>some (sttOk kind s/\(bit=0∨bit=1),.int .i64 (nxP kind s bit))
 | _=>none
attribute [push_cast] chanceF nextF
theorem p118:EntryPOk Try.prog 118 chanceF:=by
 refine⟨⟨_,Try.func118,by kernel_rfl,by kernel_rfl⟩,fun us p v h hp=>?_⟩
 unfold chanceF at h
 split at h<;>cases h
 rename_i cs kind s
 obtain⟨rfl,h0,h1,h2⟩:=hp
 refine tri_evS (hyp (l:=[]) (lp:=[]) trivial trivial) Try.func118 comp118 (rs:=[.tmp 6]) (by rfl) Try.ntmps118 11 ?_
 by_cases hk:kind=1
 ·subst hk
  have h1:=h1 rfl
  have e:chP 1 s=min (max ((2*(s % 256)+1)*4096 / (2*(s / 256)+2*(s % 256)+2)) 1) 4095:=by unfold chP;rw[if_pos rfl]
  have hd1:0<=(2*(s % 256)+1)*4096 / (2*(s / 256)+2*(s % 256)+2):=Int.ediv_nonneg (by omega) (by omega)
  have hd2:(2*(s % 256)+1)*4096 / (2*(s / 256)+2*(s % 256)+2)<=(2*(s % 256)+1)*4096:=Int.ediv_le_self _ (by omega)
  simp -implicitDefEqProofs only[push_cast,zz,seval,ir118,e]
  repeat refine om_ ?_
  omega
 have h2:=h2 hk
 by_cases h32:32<=s
 ·have e:chP kind s=4096-rd qs (s-32):=by unfold chP;rw[if_neg hk,if_pos h32]
  have hg:getL qsV (s-32).toNat=some (.int .i64 (rd qs (s-32))):=by
   obtain⟨k,hk⟩:∃ k:Nat,s-32=k:=⟨(s-32).toNat,by omega⟩
   rw[hk,Int.toNat_natCast]
   exact qsV_get k (by omega)
  have hb:0<=rd qs (s-32)/\rd qs (s-32)<=2048:=by
   obtain⟨k,hk⟩:∃ k:Nat,s-32=k:=⟨(s-32).toNat,by omega⟩
   rw[hk]
   have:=qs_bd k (by omega)
   omega
  simp -implicitDefEqProofs only[push_cast,zz,seval,ir118,e,hk,h32,hg,Nat.mul_one]
  omega
 ·have e:chP kind s=rd qs s:=by unfold chP;rw[if_neg hk,if_neg h32]
  have hg:getL qsV s.toNat=some (.int .i64 (rd qs s)):=by
   obtain⟨k,rfl⟩:∃ k:Nat,s=k:=⟨s.toNat,by omega⟩
   rw[Int.toNat_natCast]
   exact qsV_get k (by omega)
  simp -implicitDefEqProofs only[push_cast,zz,seval,ir118,e,hk,h32,hg,Nat.mul_one]
  omega
def ir117:IR:=
 .seq (r_ [z_ 6 0] [6]) (.seq (.seq (r_ [m_ 10 0,c_ 11 .eql 10 1] [0,10]) (.cond (.t 11) (.seq (r_ [m_ 12 1,c_ 13 .quo 12 256,m_ 14 1,c_ 15 .rem 14 256,o_ 16 (.build [y_,y_] [(0,1,.t 13),(1,1,.t 15)]),o_ 7 (.allocI 10 .i64 2),S_ 2 .i64 7 16] [1,11,12,13,14,15,16]) (.seq (.seq (r_ [m_ 17 2,o_ 18 (.idxP (.t 7) (.t 17) 2 1),L_ 19 18,c_ 20 .eql 19 255] [17,18,19]) (.cond (.t 20) (r_ [o_ 21 (.idxP (.t 7) (Z_ 0) 2 1),L_ 22 21,c_ 23 .quo 22 2,o_ 24 (.idxP (.t 7) (Z_ 1) 2 1),L_ 25 24,c_ 26 .quo 25 2,o_ 27 (.idxP (.t 7) (Z_ 0) 2 1),S_ 1 .i64 27 23,o_ 28 (.idxP (.t 7) (Z_ 1) 2 1),S_ 1 .i64 28 26] [20,21,22,23,24,25,26,27,28]) (.skip))) (.seq (r_ [m_ 29 2,o_ 30 (.idxP (.t 7) (.t 29) 2 1),L_ 31 30,a_ 32 31 1,o_ 33 (.idxP (.t 7) (.t 29) 2 1),S_ 1 .i64 33 32] [2,20,29,30,31,32,33]) (.seq (r_ [o_ 34 (.idxP (.t 7) (Z_ 0) 2 1),L_ 35 34,o_ 36 (.bin 0 .mul (Z_ 256) (.t 35)),o_ 37 (.idxP (.t 7) (Z_ 1) 2 1),L_ 38 37,b_ 39 .add 36 38,m_ 6 39] [7,34,35,36,37,38,39]) (.ret))))) (.skip))) (.seq (r_ [m_ 40 1,c_ 41 .quo 40 32,m_ 42 1,c_ 43 .rem 42 32,m_ 8 41,m_ 9 43] [1,6,11,40,41,42,43]) (.seq (.block 0 (.seq (r_ [m_ 50 2,m_ 51 8,b_ 52 .eql 50 51,m_ 49 52] [50,51,52]) (.cond (.t 49) (r_ [m_ 53 9,a_ 54 53 1,o_ 55 (.mn (.t 54) (Z_ 31)),m_ 9 55] [2,49,53,54,55]) (.seq (r_ [m_ 57 9,c_ 58 .eql 57 0,m_ 56 58] [49,57,58]) (.cond (.t 56) (r_ [m_ 59 2,m_ 8 59] [2,56,59]) (r_ [m_ 44 9,m_ 45 9,c_ 46 .quo 45 4,o_ 47 (.bin 0 .add (Z_ 1) (.t 46)),b_ 48 .sub 44 47,m_ 9 48] [2,44,45,46,47,48,56])))))) (.seq (r_ [m_ 60 8,o_ 61 (.bin 0 .mul (Z_ 32) (.t 60)),m_ 62 9,b_ 63 .add 61 62,m_ 6 63] [8,9,60,61,62,63]) (.ret)))))
set_option maxRecDepth 4000 in
theorem comp117:(Try.f117.body.bind fun c=>compC tab isP chkAll ir117 c)=some ir117:=by kernel_rfl
def ir111:IR:=
 .seq (r_ [z_ 2 0] []) (.seq (.seq (r_ [m_ 3 0,o_ 4 (.bin 0 .geq (.t 3) (.k (.int .u64 4294967296)))] [3]) (.cond (.t 4) (.seq (r_ [m_ 5 0,o_ 6 (.bin 0 .shr (.t 5) (.k (.int .u64 32))),m_ 0 6] [2,4,5,6]) (r_ [z_ 2 32] [])) (.skip))) (.seq (.seq (r_ [m_ 7 0,o_ 8 (.bin 0 .geq (.t 7) (.k (.int .u64 65536)))] [4,7]) (.cond (.t 8) (.seq (r_ [m_ 9 0,o_ 10 (.bin 0 .shr (.t 9) (.k (.int .u64 16))),m_ 0 10] [8,9,10]) (r_ [m_ 11 2,a_ 12 11 16,m_ 2 12] [11,12])) (.skip))) (.seq (.seq (r_ [m_ 13 0,o_ 14 (.bin 0 .geq (.t 13) (.k (.int .u64 256)))] [8,13]) (.cond (.t 14) (.seq (r_ [m_ 15 0,o_ 16 (.bin 0 .shr (.t 15) (.k (.int .u64 8))),m_ 0 16] [14,15,16]) (r_ [m_ 17 2,a_ 18 17 8,m_ 2 18] [17,18])) (.skip))) (.seq (r_ [m_ 19 2,m_ 20 0,o_ 21 (.cvt 0 .u8 (.t 20)),o_ 22 (.tabI len8L (.t 21)),o_ 23 (.cvt 0 .i64 (.t 22)),b_ 24 .add 19 23,m_ 2 24] [0,14,19,20,21,22,23,24]) (.ret)))))
set_option maxRecDepth 4000 in
theorem comp111:(Try.f111.body.bind fun c=>compC tab isP chkAll ir111 c)=some ir111:=by kernel_rfl
def ir71:IR:=
 .seq (r_ [z_ 2 0] [2]) (.seq (.cond (.k (.bool false)) (.seq (r_ [m_ 3 0,o_ 4 (.cvt 0 .u32 (.t 3)),o_ 5 (.call (some 4) 10 110 [.t 4]),m_ 2 5] [0,3,4,5]) (.ret)) (.skip)) (.seq (r_ [m_ 6 0,o_ 7 (.callp 111 [.t 6]),m_ 2 7] [0,6,7]) (.ret)))
set_option maxRecDepth 4000 in
theorem comp71:(Try.f71.body.bind fun c=>compC tab isP chkAll ir71 c)=some ir71:=by kernel_rfl
def ir70:IR:=
 .seq (r_ [z_ 2 0] [2]) (.seq (r_ [m_ 3 0,m_ 4 0,o_ 5 (.neg 0 (.t 4)),o_ 6 (.mx (.t 3) (.t 5)),m_ 2 6] [0,3,4,5,6]) (.ret))
set_option maxRecDepth 4000 in
theorem comp70:(Try.f70.body.bind fun c=>compC tab isP chkAll ir70 c)=some ir70:=by kernel_rfl
def ir29:IR:=
 .seq (r_ [o_ 4 (.mov (.k (.bool false)))] [4]) (.seq (r_ [m_ 5 0,c_ 6 .geq 5 0,m_ 7 6,p_ 7 (m_ 8 0),p_ 7 (c_ 9 .leq 8 6),K_ 10 7 9,m_ 11 10,p_ 11 (m_ 12 1),p_ 11 (c_ 13 .eql 12 0),p_ 11 (m_ 14 13),q_ 14 (m_ 15 1),q_ 14 (c_ 16 .eql 15 1),p_ 11 (k_ 17 14 16),K_ 18 11 17,m_ 4 18] [0,1,5,6,7,8,9,10,11,12,13,14,15,16,17,18]) (.ret))
set_option maxRecDepth 4000 in
theorem comp29:(Try.f29.body.bind fun c=>compC tab isP chkAll ir29 c)=some ir29:=by kernel_rfl
theorem rd2_0 (a b:Int):rd [a,b] 0=a:=rfl
theorem rd2_1 (a b:Int):rd [a,b] 1=b:=rfl
theorem set2_0 (a b c:Int):[a,b].set 0 c=[c,b]:=rfl
theorem set2_1 (a b c:Int):[a,b].set 1 c=[a,c]:=rfl
theorem i0:Int.toNat 0=0:=rfl
theorem i1:Int.toNat 1=1:=rfl
set_option maxRecDepth 4000 in
theorem p117:EntryPOk Try.prog 117 nextF:=by
 refine⟨⟨_,Try.func117,by kernel_rfl,by kernel_rfl⟩,fun us p v h hp=>?_⟩
 unfold nextF at h
 split at h<;>cases h
 rename_i kind s bit
 obtain⟨⟨h0,h1,h2⟩,hb⟩:=hp
 refine tri_evS (hyp (l:=[]) (lp:=[]) trivial trivial) Try.func117 comp117 (rs:=[.tmp 6]) (by rfl) Try.ntmps117 11 ?_
 by_cases hk:kind=1
 ·subst hk
  have h1:=h1 rfl
  rcases hb with rfl | rfl
  ·have e:nxP 1 s 0=if s / 256=255 then 256*(s / 256 / 2+1)+s % 256 / 2 else 256*(s / 256+1)+s % 256:=by unfold nxP;rw[if_pos rfl,if_pos rfl]
   by_cases hn:s / 256=255
   ·rw[if_pos hn]at e
    simp -implicitDefEqProofs only[push_cast,zz,seval,ir117,e,rd2_0,rd2_1,set2_0,set2_1,i0,i1,hn]
    omega
   ·rw[if_neg hn]at e
    simp -implicitDefEqProofs only[push_cast,zz,seval,ir117,e,rd2_0,rd2_1,set2_0,set2_1,i0,i1,hn]
    omega
  ·have e:nxP 1 s 1=if s % 256=255 then 256*(s / 256 / 2)+(s % 256 / 2+1)else 256*(s / 256)+(s % 256+1):=by unfold nxP;rw[if_pos rfl,if_neg (by decide)]
   by_cases hn:s % 256=255
   ·rw[if_pos hn]at e
    simp -implicitDefEqProofs only[push_cast,zz,seval,ir117,e,rd2_0,rd2_1,set2_0,set2_1,i0,i1,hn]
    omega
   ·rw[if_neg hn]at e
    simp -implicitDefEqProofs only[push_cast,zz,seval,ir117,e,rd2_0,rd2_1,set2_0,set2_1,i0,i1,hn]
    omega
 have h2:=h2 hk
 have e:nxP kind s bit=if bit=s / 32 then 32*(s / 32)+min (s % 32+1) 31 else if s % 32=0 then 32*bit+s % 32 else 32*(s / 32)+(s % 32-(1+s % 32 / 4)):=by unfold nxP;rw[if_neg hk]
 by_cases hm:bit=s / 32
 ·rw[if_pos hm]at e
  subst hm
  simp -implicitDefEqProofs only[push_cast,zz,seval,ir117,e,hk]
  omega
 rw[if_neg hm]at e
 by_cases hz:s % 32=0
 ·rw[if_pos hz]at e
  simp -implicitDefEqProofs only[push_cast,zz,seval,ir117,e,hk,hm,hz]
  omega
 ·rw[if_neg hz]at e
  simp -implicitDefEqProofs only[push_cast,zz,seval,ir117,e,hk,hm,hz]
  omega
def lenN (n:Nat):Nat:=if n=0 then 0 else Nat.log2 n+1
theorem lenN_half {n:Nat} (h:1<=n):lenN n=lenN (n / 2)+1:=by
 unfold lenN
 rw[if_neg (by omega)]
 by_cases h2:2<=n
 ·rw[if_neg (by omega),Nat.log2_def n,if_pos h2]
 ·have:n=1:=by omega
  subst this
  rfl
theorem lenN_256 {n:Nat} (h:256<=n):lenN n=lenN (n / 256)+8:=by
 rw[lenN_half (by omega),lenN_half (n:=n / 2) (by omega),lenN_half (n:=n / 2 / 2) (by omega),lenN_half (n:=n / 2 / 2 / 2) (by omega),lenN_half (n:=n / 2 / 2 / 2 / 2) (by omega),lenN_half (n:=n / 2 / 2 / 2 / 2 / 2) (by omega),
  lenN_half (n:=n / 2 / 2 / 2 / 2 / 2 / 2) (by omega),lenN_half (n:=n / 2 / 2 / 2 / 2 / 2 / 2 / 2) (by omega)]
 simp only[Nat.div_div_eq_div_mul]
theorem lenN_bd:∀ n:Nat,n<2^lenN n/\(1<=n->2^(lenN n-1)<=n):=by
 intro n
 induction n using Nat.strongRecOn with
 | ind n ih=>
  by_cases h:1<=n
  ·rw[lenN_half h]
   obtain⟨a,b⟩:=ih (n / 2) (by omega)
   rw[Nat.add_sub_cancel,Nat.pow_succ]
   refine⟨by omega,fun _=>?_⟩
   by_cases h2:1<=n / 2
   ·have b:=b h2
    have hp:lenN (n / 2)=lenN (n / 2)-1+1:=by rw[lenN_half h2];omega
    rw[hp,Nat.pow_succ];omega
   ·have:n / 2=0:=by omega
    rw[this];exact h
  ·have:n=0:=by omega
   subst this
   exact⟨by decide,fun h=>absurd h (by decide)⟩
set_option maxRecDepth 4000 in
theorem len8_eq:∀ k,k<256->rd len8L (k:Nat)=lenN k:=by decide +kernel
set_option maxRecDepth 4000 in
theorem len8_len:((len8L.length:Nat):Int)=256:=by decide +kernel
def lenP (x:Int):Int:=lenN x.toNat
theorem lenP_8 {x:Int} (h0:0<=x) (h:x<256):rd len8L x=lenP x:=by
 obtain⟨k,rfl⟩:∃ k:Nat,x=k:=⟨x.toNat,by omega⟩
 unfold lenP
 rw[Int.toNat_natCast]
 exact len8_eq k (by omega)
theorem lenP_256 {x:Int} (h:256<=x):lenP x=lenP (x / 256)+8:=by
 obtain⟨k,rfl⟩:∃ k:Nat,x=k:=⟨x.toNat,by omega⟩
 unfold lenP
 rw[show((k:Int) / 256).toNat=k / 256 by omega,Int.toNat_natCast,lenN_256 (by omega)]
 rfl
theorem lenP_bd {x:Int} (h0:0<=x) (h:x<256):0<=lenP x/\lenP x<=8:=by
 have:∀ k,k<256->lenN k<=8:=by decide +kernel
 have:=this x.toNat (by omega)
 unfold lenP
 omega
def lenF:EntryP
 | [.int .u64 x]=>some (0<=x/\x<4294967296,.int .i64 (lenP x))
 | _=>none
attribute [push_cast] lenF
theorem pw8:(2:Int)^8=256:=rfl
theorem pw16:(2:Int)^16=65536:=rfl
theorem pw24:(2:Int)^24=16777216:=rfl
theorem bits64:((IntKind.u64.bits:Nat):Int)=64:=rfl
theorem p111:EntryPOk Try.prog 111 lenF:=by
 refine⟨⟨_,Try.func111,by kernel_rfl,by kernel_rfl⟩,fun us p v h hp=>?_⟩
 unfold lenF at h
 split at h<;>cases h
 rename_i x
 obtain⟨h0,h1⟩:=hp
 refine tri_evS (hyp (l:=[]) (lp:=[]) trivial trivial) Try.func111 comp111 (rs:=[.tmp 2]) (by rfl) Try.ntmps111 10 ?_
 have hlt:¬ 4294967296<=x:=by omega
 have hl:=len8_len
 have hb64:=bits64
 by_cases h16:65536<=x
 ·have e1:lenP x=lenP (x / 65536)+16:=by
   rw[lenP_256 (by omega),lenP_256 (x:=x / 256) (by omega),show x / 256 / 256=x / 65536 by omega]
   omega
  by_cases h8:256<=x / 65536
  ·have e2:=lenP_256 h8
   have e3:=lenP_8 (x:=x / 65536 / 256) (by omega) (by omega)
   have b:=lenP_bd (x:=x / 65536 / 256) (by omega) (by omega)
   rw[e2]at e1
   simp -implicitDefEqProofs only[push_cast,zz,seval,ir111,hlt,h16,h8,pw16,pw8,hl,e3]
   simp only[SV.int.injEq,true_and]
   omega
  ·have e3:=lenP_8 (x:=x / 65536) (by omega) (by omega)
   have b:=lenP_bd (x:=x / 65536) (by omega) (by omega)
   simp -implicitDefEqProofs only[push_cast,zz,seval,ir111,hlt,h16,h8,pw16,pw8,hl,e3]
   simp only[SV.int.injEq,true_and]
   omega
 ·by_cases h8:256<=x
  ·have e2:=lenP_256 h8
   have e3:=lenP_8 (x:=x / 256) (by omega) (by omega)
   have b:=lenP_bd (x:=x / 256) (by omega) (by omega)
   simp -implicitDefEqProofs only[push_cast,zz,seval,ir111,hlt,h16,h8,pw16,pw8,hl,e3]
   simp only[SV.int.injEq,true_and]
   omega
  ·have e3:=lenP_8 (x:=x) (by omega) (by omega)
   have b:=lenP_bd (x:=x) (by omega) (by omega)
   simp -implicitDefEqProofs only[push_cast,zz,seval,ir111,hlt,h16,h8,pw16,pw8,hl,e3]
   omega
theorem p71:EntryPOk Try.prog 71 lenF:=by
 refine⟨⟨_,Try.func71,by kernel_rfl,by kernel_rfl⟩,fun us p v h hp=>?_⟩
 unfold lenF at h
 split at h<;>cases h
 rename_i x
 obtain⟨h0,h1⟩:=hp
 refine tri_evS (hyp (l:=[]) (lp:=[(111,lenF)]) trivial ⟨p111,trivial⟩) Try.func71 comp71 (rs:=[.tmp 2]) (by rfl) Try.ntmps71 14 ?_
 simp -implicitDefEqProofs only[push_cast,zz,seval,ir71]
 omega
def absF:EntryP
 | [.int .i64 n]=>some (-1000000000000<=n/\n<=1000000000000,.int .i64 (max n (-n)))
 | _=>none
def argsOk (levels kind:Int):Prop:=0<=levels/\levels<=6/\(kind=0∨kind=1)
instance argsOk_dec (levels kind:Int):Decidable (argsOk levels kind):=by unfold argsOk;infer_instance
def rightF:EntryP
 | [.int .i64 l,.int .i64 k]=>some (True,.bool (decide (argsOk l k)))
 | _=>none
attribute [push_cast] absF rightF
theorem p70:EntryPOk Try.prog 70 absF:=by
 refine⟨⟨_,Try.func70,by kernel_rfl,by kernel_rfl⟩,fun us p v h hp=>?_⟩
 unfold absF at h
 split at h<;>cases h
 rename_i x
 refine tri_evS (hyp (l:=[]) (lp:=[]) trivial trivial) Try.func70 comp70 (rs:=[.tmp 2]) (by rfl) Try.ntmps70 10 ?_
 simp -implicitDefEqProofs only[push_cast,zz,seval,ir70]
 omega
theorem p29:EntryPOk Try.prog 29 rightF:=by
 refine⟨⟨_,Try.func29,by kernel_rfl,by kernel_rfl⟩,fun us p v h hp=>?_⟩
 unfold rightF at h
 split at h<;>cases h
 rename_i l k
 refine tri_evS (hyp (l:=[]) (lp:=[]) trivial trivial) Try.func29 comp29 (rs:=[.tmp 4]) (by rfl) Try.ntmps29 10 ?_
 simp -implicitDefEqProofs only[push_cast,zz,seval,ir29]
 exact⟨fun h=>⟨h.1,h.2,fun hk=>⟨h.1,h.2,hk⟩⟩,Iff.rfl⟩
def ir83:IR:=
 .seq (r_ [o_ 4 (.mov (.k (.int .u64 0)))] [4]) (.seq (R_ [m_ 7 0,n_ 8 7,f_ 9 8 35,l_ 10 9,m_ 11 0,n_ 12 11,f_ 13 12 34,l_ 14 13,b_ 15 .sub 10 14,m_ 16 0,n_ 17 16,f_ 18 17 2,o_ 19 (.ld false (some 32) 0 0 (.t 18)),m_ 20 0,n_ 21 20,f_ 22 21 0,f_ 23 22 0,l_ 24 23,m_ 25 0,n_ 26 25,f_ 27 26 0,f_ 28 27 1,l_ 29 28,m_ 30 1,i_ 31 29 30 1,L_ 32 31,o_ 33 (.callp 118 [.t 19,.t 24,.t 32]),o_ 34 (.cvt 0 .u64 (.t 33)),m_ 5 15,m_ 6 34] [1,7,8,9,10,11,12,13,14,15,16,17,18,19,20,21,22,23,24,25,26,27,28,29,30,31,32,33,34]) (.seq (r_ [m_ 35 0,n_ 36 35,f_ 37 36 34,l_ 38 37,m_ 39 5,o_ 40 (.bin 0 .quo (.t 39) (.k (.int .u64 4096))),m_ 41 6,b_ 42 .mul 40 41,b_ 43 .add 38 42,m_ 44 5,o_ 45 (.bin 0 .rem (.t 44) (.k (.int .u64 4096))),m_ 46 6,b_ 47 .mul 45 46,o_ 48 (.bin 0 .quo (.t 47) (.k (.int .u64 4096))),b_ 49 .add 43 48,m_ 4 49] [0,5,6,35,36,37,38,39,40,41,42,43,44,45,46,47,48,49]) (.ret)))
set_option maxRecDepth 4000 in
theorem comp83:(Try.f83.body.bind fun c=>compC tab isP chkAll ir83 c)=some ir83:=by kernel_rfl
def ir84:IR:=
 .seq (r_ [o_ 2 (.mov (.k (.bool false)))] [2]) (.seq (R_ [m_ 3 0,n_ 4 3,f_ 5 4 34,l_ 6 5,o_ 7 (.bin 0 .shr (.t 6) (.k (.int .u64 24))),m_ 8 0,n_ 9 8,f_ 10 9 35,l_ 11 10,o_ 12 (.bin 0 .shr (.t 11) (.k (.int .u64 24))),b_ 13 .eql 7 12,m_ 2 13] [0,3,4,5,6,7,8,9,10,11,12,13]) (.ret))
set_option maxRecDepth 4000 in
theorem comp84:(Try.f84.body.bind fun c=>compC tab isP chkAll ir84 c)=some ir84:=by kernel_rfl
def ir85:IR:=
 .seq (r_ [o_ 2 (.mov (.k (.int .u8 0)))] [2]) (.seq (r_ [m_ 4 0,n_ 5 4,f_ 6 5 34,l_ 7 6,o_ 8 (.bin 0 .shr (.t 7) (.k (.int .u64 24))),o_ 9 (.cvt 0 .u8 (.t 8)),m_ 3 9] [4,5,6,7,8,9]) (.seq (r_ [m_ 10 0,m_ 11 0,n_ 12 11,f_ 13 12 34,l_ 14 13,o_ 15 (.bin 0 .shl (.t 14) (.k (.int .u64 8))),o_ 16 (.bin 0 .and (.t 15) (.k (.int .u64 4294967295))),n_ 17 10,f_ 18 17 34,s_ 1 .i64 18 16] [10,11,12,13,14,15,16,17,18]) (.seq (r_ [m_ 19 0,m_ 20 0,n_ 21 20,f_ 22 21 35,l_ 23 22,o_ 24 (.bin 0 .shl (.t 23) (.k (.int .u64 8))),o_ 25 (.bin 0 .and (.t 24) (.k (.int .u64 4294967295))),o_ 26 (.bin 0 .or (.t 25) (.k (.int .u64 255))),n_ 27 19,f_ 28 27 35,s_ 1 .i64 28 26] [0,19,20,21,22,23,24,25,26,27,28]) (.seq (r_ [m_ 29 3,m_ 2 29] [3,29]) (.ret)))))
set_option maxRecDepth 4000 in
theorem comp85:(Try.f85.body.bind fun c=>compC tab isP chkAll ir85 c)=some ir85:=by kernel_rfl
def ir82:IR:=
 .seq (.seq (r_ [m_ 8 2,c_ 9 .eql 8 1] [8]) (.cond (.t 9) (r_ [m_ 10 0,m_ 11 3,n_ 12 10,f_ 13 12 35,s_ 1 .i64 13 11] [3,9,10,11,12,13]) (r_ [m_ 14 0,m_ 15 3,o_ 16 (.bin 0 .add (.t 15) (.k (.int .u64 1))),n_ 17 14,f_ 18 17 34,s_ 1 .i64 18 16] [3,9,14,15,16,17,18]))) (R_ [m_ 19 0,n_ 20 19,f_ 21 20 0,f_ 22 21 1,l_ 23 22,m_ 24 1,m_ 25 0,n_ 26 25,f_ 27 26 0,f_ 28 27 0,l_ 29 28,m_ 30 0,n_ 31 30,f_ 32 31 0,f_ 33 32 1,l_ 34 33,m_ 35 1,i_ 36 34 35 1,L_ 37 36,m_ 38 2,o_ 39 (.callp 117 [.t 29,.t 37,.t 38]),i_ 40 23 24 1,S_ 1 .i64 40 39] [0,1,2,19,20,21,22,23,24,25,26,27,28,29,30,31,32,33,34,35,36,37,38,39,40])
set_option maxRecDepth 4000 in
theorem comp82:(Try.f82.body.bind fun c=>compC tab isP chkAll ir82 c)=some ir82:=by kernel_rfl
section 
variable (r:List SV) (v:SV)
@[push_cast] theorem gq32:getL (qsV++r) 32=getL r 0:=rfl
@[push_cast] theorem gq33:getL (qsV++r) 33=getL r 1:=rfl
@[push_cast] theorem gq34:getL (qsV++r) 34=getL r 2:=rfl
@[push_cast] theorem gq35:getL (qsV++r) 35=getL r 3:=rfl
@[push_cast] theorem gq36:getL (qsV++r) 36=getL r 4:=rfl
@[push_cast] theorem gq37:getL (qsV++r) 37=getL r 5:=rfl
@[push_cast] theorem gq38:getL (qsV++r) 38=getL r 6:=rfl
@[push_cast] theorem gq39:getL (qsV++r) 39=getL r 7:=rfl
@[push_cast] theorem sq32:setL (qsV++r) 32 v=qsV++setL r 0 v:=rfl
@[push_cast] theorem sq33:setL (qsV++r) 33 v=qsV++setL r 1 v:=rfl
@[push_cast] theorem sq34:setL (qsV++r) 34 v=qsV++setL r 2 v:=rfl
@[push_cast] theorem sq35:setL (qsV++r) 35 v=qsV++setL r 3 v:=rfl
@[push_cast] theorem sq36:setL (qsV++r) 36 v=qsV++setL r 4 v:=rfl
@[push_cast] theorem sq37:setL (qsV++r) 37 v=qsV++setL r 5 v:=rfl
@[push_cast] theorem sq38:setL (qsV++r) 38 v=qsV++setL r 6 v:=rfl
@[push_cast] theorem sq39:setL (qsV++r) 39 v=qsV++setL r 7 v:=rfl
@[push_cast] theorem tq32:takeL (qsV++r) 32=some qsV:=by simp[qsV,takeL]
@[push_cast] theorem dq32:dropL (qsV++r) 32=r:=by simp[qsV,dropL]
@[push_cast] theorem rq (f:Nat->Nat):relabs f (qsV++r)=qsV++relabs f r:=rfl
@[push_cast] theorem eqvs_q (s:List SV):eqvs (qsV++r) (qsV++s)=eqvs r s:=by simp[qsV,eqvs,eqv]
end
mutual
theorem eqv_rfl:∀ v,eqv v v
 | .int k n=>by simp only[eqv]
 | .bool b=>by simp only[eqv]
 | .ptr c L i s f=>by simp only[eqv,and_self]
 | .sl c L s lo n=>by simp only[eqv,and_self]
 | .agg cs=>by simp only[eqv];exact eqvs_rfl cs
 | .tup cs=>by simp only[eqv];exact eqvs_rfl cs
 | .fn f cs=>by simp only[eqv,true_and];exact eqvs_rfl cs
 | .val v=>by simp only[eqv]
theorem eqvs_rfl:∀ cs,eqvs cs cs
 | []=>by simp only[eqvs]
 | c::cs=>by simp only[eqvs];exact⟨eqv_rfl c,eqvs_rfl cs⟩
end
@[push_cast] theorem eqv_rfl' (v:SV):eqv v v=True:=eq_true (eqv_rfl v)
@[push_cast] theorem eqvs_rfl' (cs:List SV):eqvs cs cs=True:=eq_true (eqvs_rfl cs)
def ivV (kind:Int) (LS:Xf.Loc) (n low high:Int) (rest:List SV):List SV:=.int .i64 kind::.sl 1 LS 1 0 n::(qsV++.int .u64 low::.int .u64 high::rest)
def stsOk (kind:Int) (st:List Int):Prop:=(kind=0∨kind=1)/\∀ s∈st,sttOk kind s
theorem stsOk.at {kind:Int} {st:List Int} (h:stsOk kind st) {i:Int} (h0:0<=i) (h1:i<st.length):sttOk kind (rd st i):=by
 obtain⟨k,rfl⟩:∃ k:Nat,i=k:=⟨i.toNat,by omega⟩
 rw[rd_lt st k (by omega)]
 exact h.2 _ (List.getElem_mem _)
theorem stsOk.set {kind:Int} {st:List Int} (h:stsOk kind st) {i:Nat} {s:Int} (hs:sttOk kind s):stsOk kind (st.set i s):=by
 refine⟨h.1,fun x hx=>?_⟩
 rcases List.mem_or_eq_of_mem_set hx with h1 | h1
 ·exact h.2 x h1
 ·rw[h1];exact hs
def midP (low high p:Int):Int:=low+(high-low) / 4096*p+(high-low) % 4096*p / 4096
theorem midP_bd {low high p:Int} (h0:0<=low) (h1:low<=high) (h2:high<4294967296) (hp0:1<=p) (hp1:p<=4095) :
  0<=(high-low) / 4096*p/\(high-low) / 4096*p<=4294967296/\0<=(high-low) % 4096*p/\(high-low) % 4096*p<=16777216/\low<=midP low high p/\midP low high p<=high/\(low<high->midP low high p<high):=by
 unfold midP
 obtain⟨r,hr⟩:∃ r,high-low=r:=⟨_,rfl⟩
 rw[hr]
 have hr0:0<=r:=by omega
 obtain⟨a,ha⟩:∃ a,r / 4096=a:=⟨_,rfl⟩
 obtain⟨b,hb⟩:∃ b,r % 4096=b:=⟨_,rfl⟩
 rw[ha,hb]
 have hab:r=4096*a+b:=by omega
 have ha0:0<=a:=by omega
 have ha1:a<=1048576:=by omega
 have hb0:0<=b:=by omega
 have hb1:b<4096:=by omega
 have m1:=mul_bd ha0 ha1 (show 0<=p by omega) hp1
 have m2:=mul_bd hb0 (show b<=4095 by omega) (show 0<=p by omega) hp1
 have m3:a*p<=a*4095:=Int.mul_le_mul_of_nonneg_left hp1 ha0
 have m4:b*p<=b*4095:=Int.mul_le_mul_of_nonneg_left hp1 hb0
 refine⟨m1.1,by omega,m2.1,by omega,by omega,by omega,by omega⟩
structure IvA where
 L:Xf.Loc
 LS:Xf.Loc
 kind:Int
 st:List Int
 low:Int
 high:Int
 rest:List SV
 ctx:Int
 bit:Int
def IvA.ok (a:IvA):Prop:=stsOk a.kind a.st/\a.st.length<=1000000/\0<=a.low/\a.low<a.high/\a.high<4294967296
def restR:List SV->Option (List SV×Nat)
 | .sl d L s lo n::r=>some (.sl 2 L s lo n::r,d)
 | _=>none
def invIv:List SV->Look->Option (IvA×List Nat)
 | .ptr c _ 0 0 0::us,look=>match rowC (look c)with
  | some (L,.int .i64 kind::.sl d LS 1 0 _::r)=>match dropL r 32,rowI (look d)with
   | .int .u64 low::.int .u64 high::r,some (_,.i64,st)=>match restR r with
    | some (rest,e)=>match us with
     | []=>some (⟨L,LS,kind,st,low,high,rest,0,0⟩,[c,d,e])
     | [.int .i64 ctx]=>some (⟨L,LS,kind,st,low,high,rest,ctx,0⟩,[c,d,e])
     | [.int .i64 ctx,.int .i64 bit,_]=>some (⟨L,LS,kind,st,low,high,rest,ctx,bit⟩,[c,d,e])
     | _=>none
    | none=>none
   | _,_=>none
  | _=>none
 | _,_=>none
attribute [push_cast] restR invIv
def fs83:FS where
 A:=IvA
 args:=fun a=>[.ptr 0 a.L 0 0 0,.int .i64 a.ctx]
 mem:=fun a=>[some (.ro,a.L,.cells (ivV a.kind a.LS a.st.length a.low a.high a.rest)),some (.ro,a.LS,.ints .i64 a.st),none]
 pre:=fun a=>a.ok/\0<=a.ctx/\a.ctx<a.st.length
 res:=fun a _=>.int .u64 (midP a.low a.high (chP a.kind (rd a.st a.ctx)))
 out:=fun _ _=>[]
 new:=fun _ _=>[]
theorem ok83:FSOk Try.prog 83 fs83:=by
 refine⟨⟨_,Try.func83,by kernel_rfl,by kernel_rfl⟩,fun a=>⟨by simp[fs83,push_cast,noMine,argOwn,Chunk.frArg],by simp[fs83,push_cast,outOk,Chunk.ext],fun x=>.inl (by simp[fs83,push_cast,frNew,frOut,Chunk.fr])⟩,fun a hp=>?_⟩
 obtain⟨L,LS,kind,st,low,high,rest,ctx,bit⟩:=a
 obtain⟨⟨h1,h2,h3,h4,h5⟩,h6,h7⟩:(stsOk kind st/\st.length<=1000000/\0<=low/\low<high/\high<4294967296)/\0<=ctx/\ctx<st.length:=hp
 have hs:=h1.at h6 h7
 have hc:=chP_bd hs
 change Tri Try.prog 83 [.ptr 0 L 0 0 0,.int .i64 ctx] [some (.ro,L,.cells (ivV kind LS st.length low high rest)),some (.ro,LS,.ints .i64 st),none] (postF fs83 ⟨L,LS,kind,st,low,high,rest,ctx,bit⟩)
 refine tri_evS (hyp (l:=[]) (lp:=[(118,chanceF)]) trivial ⟨p118,trivial⟩) Try.func83 comp83 (rs:=[.tmp 4]) (by rfl) Try.ntmps83 10 ?_
 obtain⟨s,hss⟩:∃ s,rd st ctx=s:=⟨_,rfl⟩
 rw[hss]at hs hc
 obtain⟨p,hpp⟩:∃ p,chP kind s=p:=⟨_,rfl⟩
 rw[hpp]at hc
 have hb:=midP_bd h3 (Int.le_of_lt h4) h5 hc.1 hc.2
 unfold midP at hb
 simp -implicitDefEqProofs only[push_cast,zz,seval,ir83,ivV,hss,hpp,hs]
 repeat refine om_ ?_
 refine postF.mk' (fun _=>default) [some 0,some 1,none] ?_
 simp -implicitDefEqProofs only[push_cast,zz,seval,fs83,ivV,hss,hpp,midP]
def ent83:Entry:=spOf fs83 invIv
theorem e83:EntryOk Try.prog 83 ent83:=entry_of ok83 invIv
@[push_cast] theorem ent83_app (us:List SV) (look:Look) (x:Nat->Xf.Loc) (k:Nat):ent83 us look x k=spOf fs83 invIv us look x k:=rfl
def fs84:FS where
 A:=IvA
 args:=fun a=>[.ptr 0 a.L 0 0 0]
 mem:=fun a=>[some (.ro,a.L,.cells (ivV a.kind a.LS a.st.length a.low a.high a.rest)),none,none]
 pre:=fun a=>True
 res:=fun a _=>.bool (decide (a.low / 16777216=a.high / 16777216))
 out:=fun _ _=>[]
 new:=fun _ _=>[]
theorem ok84:FSOk Try.prog 84 fs84:=by
 refine⟨⟨_,Try.func84,by kernel_rfl,by kernel_rfl⟩,fun a=>⟨by simp[fs84,push_cast,noMine,argOwn,Chunk.frArg],by simp[fs84,push_cast,outOk,Chunk.ext],fun x=>.inl (by simp[fs84,push_cast,frNew,frOut,Chunk.fr])⟩,fun a hp=>?_⟩
 obtain⟨L,LS,kind,st,low,high,rest,ctx,bit⟩:=a
 change Tri Try.prog 84 [.ptr 0 L 0 0 0] [some (.ro,L,.cells (ivV kind LS st.length low high rest)),none,none] (postF fs84 ⟨L,LS,kind,st,low,high,rest,ctx,bit⟩)
 refine tri_evS (hyp (l:=[]) (lp:=[]) trivial trivial) Try.func84 comp84 (rs:=[.tmp 2]) (by rfl) Try.ntmps84 10 ?_
 have hb64:=bits64
 simp -implicitDefEqProofs only[push_cast,zz,seval,ir84,ivV,pw24]
 repeat refine om_ ?_
 refine postF.mk' (fun _=>default) [some 0,none,none] ?_
 simp -implicitDefEqProofs only[push_cast,zz,seval,fs84,ivV]
def ent84:Entry:=spOf fs84 invIv
theorem e84:EntryOk Try.prog 84 ent84:=entry_of ok84 invIv
@[push_cast] theorem ent84_app (us:List SV) (look:Look) (x:Nat->Xf.Loc) (k:Nat):ent84 us look x k=spOf fs84 invIv us look x k:=rfl
theorem wrap64 (x:Nat) (h:x<18446744073709551616):IntKind.u64.wrap x=x:=inR_wrap (k:=.u64) (by simp only[inR,push_cast];omega)
theorem and_top {x:Int} (h0:0<=x) (h1:x<18446744073709551616):bitop .and .u64 x 4294967295=x % 4294967296:=by
 obtain⟨k,rfl⟩:∃ k:Nat,x=k:=⟨x.toNat,by omega⟩
 have e:((BitVec.ofInt 64 (k:Int)) &&& (BitVec.ofInt 64 4294967295)).toNat=k % 4294967296:=by
  rw[BitVec.toNat_and,BitVec.toNat_ofInt,BitVec.toNat_ofInt]
  rw[show(((4294967295:Int) % ((2^64:Nat):Int)).toNat)=2^32-1 by decide,Nat.and_two_pow_sub_one_eq_mod]
  omega
 show IntKind.u64.wrap _=_
 have e':(BitVec.toNat ((BitVec.ofInt IntKind.u64.bits (k:Int)) &&& (BitVec.ofInt IntKind.u64.bits 4294967295)))=k % 4294967296:=e
 simp only[e']
 rw[wrap64 _ (by omega)]
 omega
theorem or_255 {x:Int} (h0:0<=x) (h1:x<18446744073709551616) (h2:x % 256=0):bitop .or .u64 x 255=x+255:=by
 obtain⟨k,rfl⟩:∃ k:Nat,x=k:=⟨x.toNat,by omega⟩
 have e:((BitVec.ofInt 64 (k:Int)) ||| (BitVec.ofInt 64 255)).toNat=k+255:=by
  rw[BitVec.toNat_or,BitVec.toNat_ofInt,BitVec.toNat_ofInt]
  rw[show(((255:Int) % ((2^64:Nat):Int)).toNat)=255 by decide]
  rw[show(((k:Int) % ((2^64:Nat):Int)).toNat)=2^8*(k / 256) by omega]
  rw[<-Nat.two_pow_add_eq_or_of_lt (by decide)]
  omega
 show IntKind.u64.wrap _=_
 have e':(BitVec.toNat ((BitVec.ofInt IntKind.u64.bits (k:Int)) ||| (BitVec.ofInt IntKind.u64.bits 255)))=k+255:=e
 simp only[e']
 rw[wrap64 _ (by omega)]
 omega
def fs85:FS where
 A:=IvA
 args:=fun a=>[.ptr 0 a.L 0 0 0]
 mem:=fun a=>[some (.lent,a.L,.cells (ivV a.kind a.LS a.st.length a.low a.high a.rest)),none,none]
 pre:=fun a=>0<=a.low/\a.low<4294967296/\0<=a.high/\a.high<4294967296
 res:=fun a _=>.int .u8 (a.low / 16777216)
 out:=fun a _=>[some (some (.cells (ivV a.kind a.LS a.st.length (a.low % 16777216*256) (a.high % 16777216*256+255) a.rest)))]
 new:=fun _ _=>[]
theorem ok85:FSOk Try.prog 85 fs85:=by
 refine⟨⟨_,Try.func85,by kernel_rfl,by kernel_rfl⟩,fun a=>⟨by simp[fs85,ivV,push_cast,noMine,argOwn,Chunk.frArg],by simp[fs85,ivV,push_cast,outOk,Chunk.ext],fun x=>.inl (by simp[fs85,ivV,push_cast,frNew,frOut,Chunk.fr])⟩,fun a hp=>?_⟩
 obtain⟨L,LS,kind,st,low,high,rest,ctx,bit⟩:=a
 obtain⟨h0,h1,h2,h3⟩:0<=low/\low<4294967296/\0<=high/\high<4294967296:=hp
 change Tri Try.prog 85 [.ptr 0 L 0 0 0] [some (.lent,L,.cells (ivV kind LS st.length low high rest)),none,none] (postF fs85 ⟨L,LS,kind,st,low,high,rest,ctx,bit⟩)
 refine tri_evS (hyp (l:=[]) (lp:=[]) trivial trivial) Try.func85 comp85 (rs:=[.tmp 2]) (by rfl) Try.ntmps85 10 ?_
 have hb64:=bits64
 have e1:=and_top (x:=low*256) (by omega) (by omega)
 have e2:=and_top (x:=high*256) (by omega) (by omega)
 have e3:=or_255 (x:=high*256 % 4294967296) (by omega) (by omega) (by omega)
 have e4:low*256 % 4294967296=low % 16777216*256:=by omega
 have e5:high*256 % 4294967296=high % 16777216*256:=by omega
 rw[e4]at e1
 rw[e5]at e2 e3
 simp -implicitDefEqProofs only[push_cast,zz,seval,ir85,ivV,pw24,pw8,e1,e2,e3]
 repeat refine om_ ?_
 refine postF.mk' (fun _=>default) [some 0,none,none] ?_
 simp -implicitDefEqProofs only[push_cast,zz,seval,fs85,ivV]
def ent85:Entry:=spOf fs85 invIv
theorem e85:EntryOk Try.prog 85 ent85:=entry_of ok85 invIv
@[push_cast] theorem ent85_app (us:List SV) (look:Look) (x:Nat->Xf.Loc) (k:Nat):ent85 us look x k=spOf fs85 invIv us look x k:=rfl
def fs82:FS where
 A:=IvA
 args:=fun a=>[.ptr 0 a.L 0 0 0,.int .i64 a.ctx,.int .i64 a.bit,.int .u64 (midP a.low a.high (chP a.kind (rd a.st a.ctx)))]
 mem:=fun a=>[some (.lent,a.L,.cells (ivV a.kind a.LS a.st.length a.low a.high a.rest)),some (.lent,a.LS,.ints .i64 a.st),none]
 pre:=fun a=>a.ok/\0<=a.ctx/\a.ctx<a.st.length/\(a.bit=0∨a.bit=1)
 res:=fun a _=>.tup []
 out:=fun a _=>[some (some (.cells (ivV a.kind a.LS a.st.length (if a.bit=1 then a.low else midP a.low a.high (chP a.kind (rd a.st a.ctx))+1) (if a.bit=1 then midP a.low a.high (chP a.kind (rd a.st a.ctx))else a.high) a.rest))),
  some (some (.ints .i64 (a.st.set a.ctx.toNat (nxP a.kind (rd a.st a.ctx) a.bit))))]
 new:=fun _ _=>[]
theorem ok82:FSOk Try.prog 82 fs82:=by
 refine⟨⟨_,Try.func82,by kernel_rfl,by kernel_rfl⟩,fun a=>⟨by simp[fs82,ivV,push_cast,noMine,argOwn,Chunk.frArg],by simp[fs82,ivV,push_cast,outOk,Chunk.ext],fun x=>.inl (by simp[fs82,ivV,push_cast,frNew,frOut,Chunk.fr])⟩,fun a hp=>?_⟩
 obtain⟨L,LS,kind,st,low,high,rest,ctx,bit⟩:=a
 obtain⟨⟨h1,h2,h3,h4,h5⟩,h6,h7,h8⟩:(stsOk kind st/\st.length<=1000000/\0<=low/\low<high/\high<4294967296)/\0<=ctx/\ctx<st.length/\(bit=0∨bit=1):=hp
 have hs:=h1.at h6 h7
 have hc:=chP_bd hs
 have hb:=midP_bd h3 (Int.le_of_lt h4) h5 hc.1 hc.2
 change Tri Try.prog 82 [.ptr 0 L 0 0 0,.int .i64 ctx,.int .i64 bit,.int .u64 (midP low high (chP kind (rd st ctx)))] [some (.lent,L,.cells (ivV kind LS st.length low high rest)),some (.lent,LS,.ints .i64 st),none] (postF fs82 ⟨L,LS,kind,st,low,high,rest,ctx,bit⟩)
 refine tri_evS (hyp (l:=[]) (lp:=[(117,nextF)]) trivial ⟨p117,trivial⟩) Try.func82 comp82 (rs:=[]) (by rfl) Try.ntmps82 10 ?_
 obtain⟨m,hm⟩:∃ m,midP low high (chP kind (rd st ctx))=m:=⟨_,rfl⟩
 obtain⟨s,hss⟩:∃ s,rd st ctx=s:=⟨_,rfl⟩
 rw[hss]at hs
 rw[hm]at hb ⊢
 rw[hss]at hm
 have h01:¬ (0:Int)=1:=by decide
 by_cases hbit:bit=1
 ·subst hbit
  simp -implicitDefEqProofs only[push_cast,zz,seval,ir82,ivV,hss,hs]
  repeat refine om_ ?_
  refine postF.mk' (fun _=>default) [some 0,some 1,none] ?_
  simp -implicitDefEqProofs only[push_cast,zz,seval,fs82,ivV,hm,hss,List.length_set]
 ·obtain rfl:bit=0:=by omega
  simp -implicitDefEqProofs only[push_cast,zz,seval,ir82,ivV,hss,hs,h01]
  repeat refine om_ ?_
  refine postF.mk' (fun _=>default) [some 0,some 1,none] ?_
  simp -implicitDefEqProofs only[push_cast,zz,seval,fs82,ivV,hm,hss,List.length_set,h01]
def ent82:Entry:=spOf fs82 invIv
theorem e82:EntryOk Try.prog 82 ent82:=entry_of ok82 invIv
@[push_cast] theorem ent82_app (us:List SV) (look:Look) (x:Nat->Xf.Loc) (k:Nat):ent82 us look x k=spOf fs82 invIv us look x k:=rfl
def ir81:IR:=
 .seq (r_ [o_ 2 (.mov (.k (.bool false)))] [2]) (.seq (r_ [m_ 3 0,o_ 4 (.binN .eql (.t 3) (.k nilP)),m_ 5 4,q_ 5 (m_ 6 0),q_ 5 (n_ 7 6),q_ 5 (f_ 8 7 37),q_ 5 (l_ 9 8),q_ 5 (o_ 10 (.not (.t 9))),k_ 11 5 10,m_ 2 11] [0,3,4,5,6,7,8,9,10,11]) (.ret))
set_option maxRecDepth 4000 in
theorem comp81:(Try.f81.body.bind fun c=>compC tab isP chkAll ir81 c)=some ir81:=by kernel_rfl
def b35_1:IR:=
 .seq (.seq (r_ [m_ 43 0,n_ 44 43,f_ 45 44 0,o_ 46 (.call (some 4) 22 84 [.t 45])] [43,44,45]) (.cond (.t 46) (.skip) (.exit 1))) (.block 2 (.regT (.split 4 8 (.leaf [0,1,2,3,4,5,6,7,8,9,10,11,12,13]) (.leaf [0,1,2,3,5,6,7,8,4,9,10,11,12,13])) [m_ 47 0,m_ 48 0,n_ 49 48,f_ 50 49 36,⟨some 51,none,⟨[26,27,28,29,30],[]⟩,.ld false none 0 0 (.t 50)⟩,m_ 52 0,n_ 53 52,f_ 54 53 0,o_ 55 (.call none 26 85 [.t 54]),o_ 56 (.bslice 30 [.t 55]),o_ 57 (.app 31 1 1 (.t 51) (.t 56)),n_ 58 47,f_ 59 58 36,s_ 1 .u8 59 57] [46,47,48,49,50,51,52,53,54,55,56,57,58,59] []))
def r35_2:IR:=
 .seq (r_ [z_ 6 0] [0]) (.ret)
def ir35:IR:=
 .seq (r_ [z_ 6 0] [6]) (.seq (.block 0 (.seq (r_ [m_ 8 0,o_ 9 (.call (some 4) 10 81 [.t 8]),m_ 7 9] [8,9]) (.cond (.t 7) (.seq (r_ [z_ 6 7] [0,1,2,7]) (.ret)) (.seq (r_ [m_ 11 1,c_ 12 .lss 11 0,m_ 13 12,q_ 13 (m_ 14 1),q_ 13 (m_ 15 0),q_ 13 (n_ 16 15),q_ 13 (f_ 17 16 0),q_ 13 (f_ 18 17 0),q_ 13 (f_ 19 18 1),q_ 13 (l_ 20 19),q_ 13 (h_ 21 20),q_ 13 (b_ 22 .geq 14 21),k_ 23 13 22,m_ 24 23,q_ 24 (m_ 25 2),q_ 24 (c_ 26 .neq 25 0),q_ 24 (m_ 27 26),p_ 27 (m_ 28 2),p_ 27 (c_ 29 .neq 28 1),q_ 24 (K_ 30 27 29),k_ 31 24 30,m_ 10 31] [7,11,12,13,14,15,16,17,18,19,20,21,22,23,24,25,26,27,28,29,30,31]) (.cond (.t 10) (.seq (r_ [z_ 6 2] [0,1,2,10]) (.ret)) (.skip)))))) (.seq (R_ [m_ 32 0,n_ 33 32,f_ 34 33 0,m_ 35 1,m_ 36 2,m_ 37 0,n_ 38 37,f_ 39 38 0,m_ 40 1,o_ 41 (.call (some 4) 14 83 [.t 39,.t 40]),o_ 42 (.call none 18 82 [.t 34,.t 35,.t 36,.t 41])] [1,2,6,10,32,33,34,35,36,37,38,39,40,41,42]) (.seq (.block 1 (.loop b35_1)) (r35_2))))
def kp35_1:List Nat:=[0]
def kl35_1:List Nat:=[22,23,24,25,26,27,28,29,30,31]
attribute [push_cast] kp35_1 kl35_1
set_option maxRecDepth 4000 in
theorem comp35:(Try.f35.body.bind fun c=>compC tab isP chkAll ir35 c)=some ir35:=by kernel_rfl
def normP:Nat->Int->Int->List Int×Int×Int
 | 0,l,h=>([],l,h)
 | n+1,l,h=>if l / 16777216=h / 16777216 then (l / 16777216::(normP n (l % 16777216*256) (h % 16777216*256+255)).1,(normP n (l % 16777216*256) (h % 16777216*256+255)).2)else ([],l,h)
def pw256:Nat->Int
 | 0=>4294967296
 | 1=>16777216
 | 2=>65536
 | 3=>256
 | _=>1
def nrm (n:Nat) (l h:Int):Prop:=n<=4/\0<=l/\l<=h/\h<4294967296/\l % pw256 n=0/\h % pw256 n=pw256 n-1
theorem nrm_0 {l h:Int} (H:nrm 0 l h):¬ l / 16777216=h / 16777216:=by
 obtain⟨_,h1,h2,h3,h4,h5⟩:=H
 simp only[pw256]at h4 h5
 omega
theorem nrm_step {n:Nat} {l h:Int} (H:nrm (n+1) l h) (e:l / 16777216=h / 16777216):nrm n (l % 16777216*256) (h % 16777216*256+255):=by
 obtain⟨h0,h1,h2,h3,h4,h5⟩:=H
 have hn:n=0∨n=1∨n=2∨n=3:=by omega
 rcases hn with rfl | rfl | rfl | rfl<;>simp only[pw256,nrm]at h4 h5 ⊢<;>omega
theorem nrm_4 {l h:Int} (h0:0<=l) (h1:l<=h) (h2:h<4294967296):nrm 4 l h:=⟨by omega,h0,h1,h2,by simp only[pw256];omega,by simp only[pw256];omega⟩
theorem norm_no (n:Nat) {l h:Int} (e:¬ l / 16777216=h / 16777216):normP n l h=([],l,h):=by
 cases n with
 | zero=>rfl
 | succ n=>rw[normP,if_neg e]
theorem norm_yes {n:Nat} {l h:Int} (e:l / 16777216=h / 16777216):normP (n+1) l h=(l / 16777216::(normP n (l % 16777216*256) (h % 16777216*256+255)).1,(normP n (l % 16777216*256) (h % 16777216*256+255)).2):=by
 rw[normP,if_pos e]
theorem norm_bd:∀ (n:Nat) {l h:Int},nrm n l h->(normP n l h).1.length<=n/\0<=(normP n l h).2.1/\(normP n l h).2.1<(normP n l h).2.2/\(normP n l h).2.2<4294967296/\¬ (normP n l h).2.1 / 16777216=(normP n l h).2.2 / 16777216
 | n,l,h,H=>by
  by_cases e:l / 16777216=h / 16777216
  ·cases n with
   | zero=>exact absurd e (nrm_0 H)
   | succ n=>
    have ih:=norm_bd n (nrm_step H e)
    rw[norm_yes e]
    simp only[List.length_cons]
    exact⟨by omega,ih.2⟩
  ·rw[norm_no n e]
   obtain⟨h0,h1,h2,h3,h4,h5⟩:=H
   simp only[List.length_nil]
   refine⟨by omega,h1,by omega,h3,e⟩
structure EnS where
 kind:Int
 st:List Int
 low:Int
 high:Int
 out:List Int
def ivOk2 (kind:Int) (st:List Int) (low high:Int):Prop:=stsOk kind st/\st.length<=1000000/\0<=low/\low<high/\high<4294967296/\¬ low / 16777216=high / 16777216
def EnS.ok (e:EnS):Prop:=ivOk2 e.kind e.st e.low e.high
def lowP (kind:Int) (st:List Int) (low high ctx bit:Int):Int:=if bit=1 then low else midP low high (chP kind (rd st ctx))+1
def highP (kind:Int) (st:List Int) (low high ctx bit:Int):Int:=if bit=1 then midP low high (chP kind (rd st ctx))else high
theorem nrm_part {kind:Int} {st:List Int} {low high ctx bit:Int} (H:ivOk2 kind st low high) (h0:0<=ctx) (h1:ctx<st.length):nrm 4 (lowP kind st low high ctx bit) (highP kind st low high ctx bit):=by
 obtain⟨a1,a2,a3,a4,a5,a6⟩:=H
 have hc:=chP_bd (a1.at h0 h1)
 have hb:=midP_bd a3 (Int.le_of_lt a4) a5 hc.1 hc.2
 unfold lowP highP
 split
 ·exact nrm_4 a3 (by omega) (by omega)
 ·exact nrm_4 (by omega) (by omega) a5
def putP (e:EnS) (ctx bit:Int):EnS:=
 ⟨e.kind,e.st.set ctx.toNat (nxP e.kind (rd e.st ctx) bit),(normP 4 (lowP e.kind e.st e.low e.high ctx bit) (highP e.kind e.st e.low e.high ctx bit)).2.1,(normP 4 (lowP e.kind e.st e.low e.high ctx bit) (highP e.kind e.st e.low e.high ctx bit)).2.2,e.out++(normP 4 (lowP e.kind e.st e.low e.high ctx bit) (highP e.kind e.st e.low e.high ctx bit)).1⟩
theorem putP_ok {e:EnS} {ctx bit:Int} (H:e.ok) (h0:0<=ctx) (h1:ctx<e.st.length) (hb:bit=0∨bit=1):(putP e ctx bit).ok/\(putP e ctx bit).out.length<=e.out.length+4/\(putP e ctx bit).st.length=e.st.length/\(putP e ctx bit).kind=e.kind:=by
 have hn:=norm_bd 4 (nrm_part (bit:=bit) H h0 h1)
 obtain⟨a1,a2,a3,a4,a5,a6⟩:=H
 unfold putP EnS.ok ivOk2
 simp only[List.length_set,List.length_append]
 exact⟨⟨a1.set (nxP_ok (a1.at h0 h1) hb),a2,hn.2.1,hn.2.2.1,hn.2.2.2.1,hn.2.2.2.2⟩,by omega,trivial,trivial⟩
structure EnA where
 L:Xf.Loc
 LS:Xf.Loc
 LO:Xf.Loc
 e:EnS
 ctx:Int
 bit:Int
def enV (LS:Xf.Loc) (e:EnS) (d:Nat) (LO:Xf.Loc):List SV:=ivV e.kind LS e.st.length e.low e.high [.sl d LO 1 0 e.out.length,.bool true]
def enM (a:EnA):Mem:=[some (.ro,a.L,.cells (enV a.LS a.e 2 a.LO)),some (.ro,a.LS,.ints .i64 a.e.st),some (.ro,a.LO,.ints .u8 a.e.out)]
def rowO (look:Look) (e:Nat):Option (Xf.Loc×List Int):=
 bif e==4096 then some (nilLoc,[])else match rowI (look e)with
  | some (L,.u8,xs)=>some (L,xs)
  | _=>none
def invEn:List SV->Look->Option (EnA×List Nat)
 | .ptr c _ 0 0 0::us,look=>match rowC (look c)with
  | some (L,.int .i64 kind::.sl d LS 1 0 _::r)=>match dropL r 32,rowI (look d)with
   | [.int .u64 low,.int .u64 high,.sl e _ 1 0 _,.bool true],some (_,.i64,st)=>match rowO look e with
    | some (LO,out)=>match us with
     | []=>some (⟨L,LS,LO,⟨kind,st,low,high,out⟩,0,0⟩,[c,d,e])
     | [.int .i64 ctx,.int .i64 bit]=>some (⟨L,LS,LO,⟨kind,st,low,high,out⟩,ctx,bit⟩,[c,d,e])
     | _=>none
    | none=>none
   | _,_=>none
  | _=>none
 | _,_=>none
attribute [push_cast] rowO invEn
def fs81:FS where
 A:=EnA
 args:=fun a=>[.ptr 0 a.L 0 0 0]
 mem:=fun a=>enM a
 pre:=fun a=>True
 res:=fun a _=>.bool false
 out:=fun _ _=>[]
 new:=fun _ _=>[]
theorem ok81:FSOk Try.prog 81 fs81:=by
 refine⟨⟨_,Try.func81,by kernel_rfl,by kernel_rfl⟩,fun a=>⟨by simp[fs81,enM,push_cast,noMine,argOwn,Chunk.frArg],by simp[fs81,enM,push_cast,outOk,Chunk.ext],fun x=>.inl (by simp[fs81,enM,push_cast,frNew,frOut,Chunk.fr])⟩,fun a hp=>?_⟩
 obtain⟨L,LS,LO,⟨kind,st,low,high,out⟩,ctx,bit⟩:=a
 change Tri Try.prog 81 [.ptr 0 L 0 0 0] (enM ⟨L,LS,LO,⟨kind,st,low,high,out⟩,ctx,bit⟩) (postF fs81 ⟨L,LS,LO,⟨kind,st,low,high,out⟩,ctx,bit⟩)
 refine tri_evS (hyp (l:=[]) (lp:=[]) trivial trivial) Try.func81 comp81 (rs:=[.tmp 2]) (by rfl) Try.ntmps81 10 ?_
 simp -implicitDefEqProofs only[push_cast,zz,seval,ir81,enM,enV,ivV]
 repeat refine om_ ?_
 refine postF.mk' (fun _=>default) [some 0,some 1,some 2] ?_
 simp -implicitDefEqProofs only[push_cast,zz,seval,fs81,enM,enV,ivV]
def ent81:Entry:=spOf fs81 invEn
theorem e81:EntryOk Try.prog 81 ent81:=entry_of ok81 invEn
@[push_cast] theorem ent81_app (us:List SV) (look:Look) (x:Nat->Xf.Loc) (k:Nat):ent81 us look x k=spOf fs81 invEn us look x k:=rfl
def fs35:FS where
 A:=EnA
 args:=fun a=>[.ptr 0 a.L 0 0 0,.int .i64 a.ctx,.int .i64 a.bit]
 mem:=fun a=>[some (.lent,a.L,.cells (enV a.LS a.e 2 a.LO)),some (.lent,a.LS,.ints .i64 a.e.st),some (.lent,a.LO,.ints .u8 a.e.out)]
 pre:=fun a=>a.e.ok/\0<=a.ctx/\a.ctx<a.e.st.length/\(a.bit=0∨a.bit=1)/\a.e.out.length<=100000000
 res:=fun a _=>.int .i64 0
 out:=fun a x=>[some (some (.cells (enV a.LS (putP a.e a.ctx a.bit) 3 (x 0)))),some (some (.ints .i64 (putP a.e a.ctx a.bit).st)),some none]
 new:=fun a x=>[(x 0,.ints .u8 (putP a.e a.ctx a.bit).out)]
 newGot:=true
set_option maxHeartbeats 1000000 in
theorem ok35:FSOk Try.prog 35 fs35:=by
 refine⟨⟨_,Try.func35,by kernel_rfl,by kernel_rfl⟩,fun a=>⟨by simp[fs35,enV,ivV,push_cast,noMine,argOwn,Chunk.frArg],by simp[fs35,enV,ivV,push_cast,outOk,Chunk.ext],fun x=>.inl (by simp[fs35,enV,ivV,push_cast,frNew,frOut,Chunk.fr])⟩,fun a hp=>?_⟩
 obtain⟨L,LS,LO,⟨kind,st,low,high,out⟩,ctx,bit⟩:=a
 obtain⟨h1,h2,h3,h4,h5⟩:ivOk2 kind st low high/\0<=ctx/\ctx<st.length/\(bit=0∨bit=1)/\out.length<=100000000:=hp
 have hn:=nrm_part (bit:=bit) h1 h2 h3
 obtain⟨E,hE⟩:∃ E,putP ⟨kind,st,low,high,out⟩ ctx bit=E:=⟨_,rfl⟩
 have hE1:E.kind=kind:=by rw[<-hE];rfl
 have hE2:E.st=st.set ctx.toNat (nxP kind (rd st ctx) bit):=by rw[<-hE];rfl
 have hE3:(out++(normP 4 (lowP kind st low high ctx bit) (highP kind st low high ctx bit)).1,(normP 4 (lowP kind st low high ctx bit) (highP kind st low high ctx bit)).2)=(E.out,E.low,E.high):=by rw[<-hE];rfl
 have hl0:(if bit=1 then low else midP low high (chP kind (rd st ctx))+1)=lowP kind st low high ctx bit:=rfl
 have hh0:(if bit=1 then midP low high (chP kind (rd st ctx))else high)=highP kind st low high ctx bit:=rfl
 have hok:(⟨L,LS,kind,st,low,high,[.sl 2 LO 1 0 out.length,.bool true],ctx,bit⟩:IvA).ok:=⟨h1.1,h1.2.1,h1.2.2.1,h1.2.2.2.1,h1.2.2.2.2.1⟩
 simp only[IvA.ok]at hok
 change Tri Try.prog 35 [.ptr 0 L 0 0 0,.int .i64 ctx,.int .i64 bit] [some (.lent,L,.cells (enV LS ⟨kind,st,low,high,out⟩ 2 LO)),some (.lent,LS,.ints .i64 st),some (.lent,LO,.ints .u8 out)] (postF fs35 ⟨L,LS,LO,⟨kind,st,low,high,out⟩,ctx,bit⟩)
 refine tri_evS (hyp (l:=[(81,ent81),(83,ent83),(82,ent82),(84,ent84),(85,ent85)]) (lp:=[]) ⟨e81,e83,e82,e84,e85,trivial⟩ trivial) Try.func35 comp35 (rs:=[.tmp 6]) (by rfl) Try.ntmps35 32 ?_
 have c1:¬ ctx<0:=by omega
 have c2:¬ (st.length:Int)<=ctx:=by omega
 have c3:¬ (¬ bit=0/\¬ bit=1):=by omega
 simp -implicitDefEqProofs only[push_cast,zz,seval,ir35,enV,ivV,fs81,fs83,fs82,enM,c1,c2,c3,h2,h3,h4,IvA.ok,hok,hl0,hh0]
 obtain⟨l0,hll⟩:∃ l,lowP kind st low high ctx bit=l:=⟨_,rfl⟩
 obtain⟨g0,hgg⟩:∃ l,highP kind st low high ctx bit=l:=⟨_,rfl⟩
 obtain⟨S,hSS⟩:∃ l,st.set ctx.toNat (nxP kind (rd st ctx) bit)=l:=⟨_,rfl⟩
 have hSl:S.length=st.length:=by rw[<-hSS,List.length_set]
 rw[hll,hgg]at hn hE3 ⊢
 rw[hSS]at hE2 ⊢
 refine evS_loopU (A:=Nat×Xf.Loc×Int×Int×List Int) kp35_1 kl35_1 (fun y=>[]) (fun y=>[(0,.lent,L,.cells (ivV kind LS st.length y.2.2.1 y.2.2.2.1 [.sl 2 y.2.1 1 0 y.2.2.2.2.length,.bool true])),(2,.got,y.2.1,.ints .u8 y.2.2.2.2)])
  (fun y=>nrm y.1 y.2.2.1 y.2.2.2.1/\(y.2.2.2.2++(normP y.1 y.2.2.1 y.2.2.2.1).1,(normP y.1 y.2.2.1 y.2.2.2.1).2)=(E.out,E.low,E.high)/\y.2.2.2.2.length+y.1<=100000004) (fun y=>y.1) (4,LO,l0,g0,out) ⟨hn,hE3,by simp only;omega⟩ (Sub.pt ?_) ?_
 ·simp -implicitDefEqProofs only[push_cast,zz,seval,ivV]
 intro ⟨n,M,l,g,o⟩ ⟨(hn:nrm n l g),(he:(o++(normP n l g).1,(normP n l g).2)=(E.out,E.low,E.high)),(ho:o.length+n<=100000004)⟩ K hK
 obtain⟨n0,n1,n2,n3,n4,n5⟩:=id hn
 by_cases e:l / 16777216=g / 16777216
 ·cases n with
  | zero=>exact absurd e (nrm_0 hn)
  | succ n=>
   have hs:=nrm_step hn e
   rw[norm_yes e]at he
   have he':((o++[l / 16777216])++(normP n (l % 16777216*256) (g % 16777216*256+255)).1,(normP n (l % 16777216*256) (g % 16777216*256+255)).2)=(E.out,E.low,E.high):=by
    rw[<-he,List.append_assoc];rfl
   have hb:0<=l/\l<4294967296/\0<=g/\g<4294967296:=by omega
   rw[e]at he'
   simp -implicitDefEqProofs only[push_cast,zz,seval,b35_1,ivV,fs84,fs85,e,hb,hSl]
   intro X
   repeat refine om_ ?_
   refine hK (n,X 10 31,l % 16777216*256,g % 16777216*256+255,o++[g / 16777216]) ⟨hs,he',by simp only[List.length_append,List.length_singleton];omega⟩ (Nat.lt_succ_self n) _ _ (Sub.of (mkG 40 [(0,0),(1,1),(2,31)]) ?_)
   simp -implicitDefEqProofs only[push_cast,zz,seval,ivV,List.length_append]
 ·rw[norm_no n e,List.append_nil]at he
  have e1:E.out=o:=(congrArg Prod.fst he).symm
  have e2:E.low=l:=(congrArg (fun x=>x.2.1) he).symm
  have e3:E.high=g:=(congrArg (fun x=>x.2.2) he).symm
  clear hK
  simp -implicitDefEqProofs only[push_cast,zz,seval,b35_1,r35_2,ivV,fs84,e,hSl]
  refine postF.mk' (fun _=>M) [some 0,some 1,none,some 2] ?_
  simp -implicitDefEqProofs only[push_cast,zz,seval,fs35,enV,ivV,hE,hE1,hE2,e1,e2,e3,hSl]
def ent35:Entry:=spOf fs35 invEn
theorem e35:EntryOk Try.prog 35 ent35:=entry_of ok35 invEn
@[push_cast] theorem ent35_app (us:List SV) (look:Look) (x:Nat->Xf.Loc) (k:Nat):ent35 us look x k=spOf fs35 invEn us look x k:=rfl
def ir86:IR:=
 .seq (r_ [o_ 1 (.box 10 (.t 0)),o_ 2 (.alloc 11 [y_,nilSV])] [0]) (.seq (R_ [f_ 3 1 0,⟨some 4,none,⟨[12,13],[]⟩,.ld false none 0 0 (.t 3)⟩,o_ 5 (.bslice 12 []),f_ 6 1 1,⟨some 7,none,⟨[12],[]⟩,.ld false none 0 0 (.t 6)⟩,o_ 8 (.app 13 1 8 (.t 5) (.t 7)),o_ 9 (.build [y_,nilSV] [(0,1,.t 4),(1,1,.t 8)]),s_ 2 .i64 2 9] [1,3,4,5,6,7,8,9]) (.ret))
set_option maxRecDepth 4000 in
theorem comp86:(Try.f86.body.bind fun c=>compC tab isP chkAll ir86 c)=some ir86:=by kernel_rfl
def b72_1:IR:=
 .seq (r_ [b_ 27 .lss 26 25] []) (.seq (.cond (.t 27) (.skip) (.exit 0)) (.seq (.block 1 (.seq (r_ [i_ 28 24 26 1,L_ 29 28,m_ 5 29] [27,28,29]) (.seq (r_ [m_ 30 5,c_ 31 .lss 30 0,m_ 32 31,q_ 32 (m_ 33 5),q_ 32 (m_ 34 3),q_ 32 (b_ 35 .geq 33 34),k_ 36 32 35] [5,30,31,32,33,34,35]) (.cond (.t 36) (.seq (r_ [o_ 2 (.mov (.k (.bool false)))] [3,24,25,26,36]) (.ret)) (.skip))))) (r_ [a_ 37 26 1,m_ 26 37] [2,36,37])))
def r72_2:IR:=
 .seq (r_ [o_ 2 (.mov (.k (.bool true)))] [3,24,25,26]) (.ret)
def ir72:IR:=
 .seq (r_ [o_ 1 (.box 10 (.t 0)),o_ 2 (.mov (.k (.bool false)))] [0,2]) (.seq (.seq (r_ [f_ 6 1 0,l_ 7 6,c_ 8 .neq 7 0,m_ 9 8,p_ 9 (f_ 10 1 0),p_ 9 (l_ 11 10),p_ 9 (c_ 12 .neq 11 1),K_ 13 9 12,m_ 14 13,q_ 14 (f_ 15 1 1),q_ 14 (l_ 16 15),q_ 14 (h_ 17 16),q_ 14 (c_ 18 .gtr 17 8192),k_ 19 14 18] [6,7,8,9,10,11,12,13,14,15,16,17,18]) (.cond (.t 19) (.seq (r_ [o_ 2 (.mov (.k (.bool false)))] [1,19]) (.ret)) (.skip))) (.seq (r_ [z_ 3 64] [2,19]) (.seq (.seq (r_ [f_ 20 1 0,l_ 21 20,c_ 22 .eql 21 1] [20,21]) (.cond (.t 22) (r_ [z_ 3 65536] [22]) (.skip))) (.seq (.seq (r_ [f_ 23 1 1,l_ 24 23,h_ 25 24,z_ 26 0] [1,22,23]) (.block 0 (.loop b72_1))) (r72_2)))))
def kp72_1:List Nat:=[3,24,25,26]
def kl72_1:List Nat:=[]
attribute [push_cast] kp72_1 kl72_1
set_option maxRecDepth 4000 in
theorem comp72:(Try.f72.body.bind fun c=>compC tab isP chkAll ir72 c)=some ir72:=by kernel_rfl
def ir73:IR:=
 .seq (r_ [o_ 1 (.box 10 (.t 0)),o_ 2 (.alloc 11 [y_,nilSV,y_,y_,y_,y_,y_,y_,y_,y_,y_,y_,y_,y_,y_,y_,y_,y_,y_,y_,y_,y_,y_,y_,y_,y_,y_,y_,y_,y_,y_,y_,y_,y_,.int .u64 0,.int .u64 0])] [0]) (.seq (r_ [o_ 3 (.ld false (some 2) 0 0 (.t 1)),o_ 4 (.call (some 4) 12 86 [.t 3]),o_ 5 (.callp 112 []),o_ 6 (.build [y_,nilSV,y_,y_,y_,y_,y_,y_,y_,y_,y_,y_,y_,y_,y_,y_,y_,y_,y_,y_,y_,y_,y_,y_,y_,y_,y_,y_,y_,y_,y_,y_,y_,y_,.int .u64 0,.int .u64 0] [(0,2,.t 4),(2,32,.t 5),(35,1,.k (.int .u64 4294967295))]),s_ 36 .i64 2 6] [1,3,4,5,6]) (.ret))
set_option maxRecDepth 4000 in
theorem comp73:(Try.f73.body.bind fun c=>compC tab isP chkAll ir73 c)=some ir73:=by kernel_rfl
def ir32:IR:=
 .seq (r_ [o_ 1 (.box 10 (.t 0)),o_ 2 (.mov (.k nilP)),z_ 3 0] [0,2,3]) (.seq (.seq (r_ [o_ 4 (.ld false (some 2) 0 0 (.t 1)),o_ 5 (.call (some 4) 11 72 [.t 4]),o_ 6 (.not (.t 5))] [4,5]) (.cond (.t 6) (.seq (r_ [o_ 2 (.mov (.k nilP)),z_ 3 10] [1,6]) (.ret)) (.skip))) (.seq (r_ [o_ 7 (.ld false (some 2) 0 0 (.t 1)),o_ 8 (.call (some 4) 15 73 [.t 7]),o_ 9 (.build [y_,nilSV,y_,y_,y_,y_,y_,y_,y_,y_,y_,y_,y_,y_,y_,y_,y_,y_,y_,y_,y_,y_,y_,y_,y_,y_,y_,y_,y_,y_,y_,y_,y_,y_,.int .u64 0,.int .u64 0,nilSV,.bool false] [(0,36,.t 8),(37,1,.k (.bool true))]),o_ 10 (.box 19 (.t 9)),m_ 2 10,z_ 3 0] [1,6,7,8,9,10]) (.ret)))
set_option maxRecDepth 4000 in
theorem comp32:(Try.f32.body.bind fun c=>compC tab isP chkAll ir32 c)=some ir32:=by kernel_rfl
def ir36:IR:=
 .seq (r_ [o_ 2 (.alloc 10 [y_,nilSV])] []) (.seq (.seq (r_ [m_ 3 0,o_ 4 (.call (some 4) 11 81 [.t 3])] [3]) (.cond (.t 4) (.seq (r_ [o_ 5 (.build [y_,nilSV] []),s_ 2 .i64 2 5] [0,4,5]) (.ret)) (.skip))) (.seq (r_ [m_ 6 0,n_ 7 6,f_ 8 7 0,f_ 9 8 0,o_ 10 (.ld false (some 2) 0 0 (.t 9)),o_ 11 (.call (some 4) 15 86 [.t 10]),s_ 2 .i64 2 11] [0,4,6,7,8,9,10,11]) (.ret)))
set_option maxRecDepth 4000 in
theorem comp36:(Try.f36.body.bind fun c=>compC tab isP chkAll ir36 c)=some ir36:=by kernel_rfl
def b37_2:IR:=
 .seq (r_ [b_ 39 .lss 38 37] []) (.seq (.cond (.t 39) (.skip) (.exit 2)) (.seq (.block 3 (.seq (r_ [m_ 40 38,m_ 6 40] [39,40]) (r_ [m_ 41 3,m_ 42 0,n_ 43 42,f_ 44 43 0,f_ 45 44 35,l_ 46 45,m_ 47 6,o_ 48 (.bin 0 .mul (Z_ 8) (.t 47)),o_ 49 (.bin 0 .sub (Z_ 24) (.t 48)),b_ 50 .shr 46 49,o_ 51 (.cvt 1 .u8 (.t 50)),o_ 52 (.bslice 16 [.t 51]),o_ 53 (.app 17 1 1 (.t 41) (.t 52)),m_ 3 53] [6,41,42,43,44,45,46,47,48,49,50,51,52,53]))) (r_ [a_ 54 38 1,m_ 38 54] [54])))
def r37_3:IR:=
 .seq (r_ [m_ 55 3,m_ 2 55] [0,3,37,38,55]) (.ret)
def r37_4:IR:=
 r_ [a_ 56 15 1,m_ 15 56] [2,4,36,56]
def b37_1:IR:=
 .seq (r_ [c_ 16 .lss 15 5] []) (.seq (.cond (.t 16) (.skip) (.exit 0)) (.seq (.block 1 (.seq (r_ [m_ 17 15,m_ 4 17] [16,17]) (.seq (r_ [m_ 18 4,o_ 19 (.bin 0 .mul (Z_ 8) (.t 18)),o_ 20 (.bin 0 .sub (Z_ 32) (.t 19)),o_ 21 (.cvt 0 .u64 (.t 20)),m_ 5 21] [18,19,20,21]) (.seq (R_ [m_ 22 0,n_ 23 22,f_ 24 23 0,f_ 25 24 35,l_ 26 25,m_ 27 5,b_ 28 .shr 26 27,m_ 29 5,b_ 30 .shl 28 29,m_ 31 0,n_ 32 31,f_ 33 32 0,f_ 34 33 34,l_ 35 34,b_ 36 .geq 30 35] [5,22,23,24,25,26,27,28,29,30,31,32,33,34,35]) (.cond (.t 36) (.seq (.seq (r_ [m_ 37 4,z_ 38 0] [4,15,36]) (.block 2 (.loop b37_2))) (r37_3)) (.skip)))))) (r37_4)))
def r37_5:IR:=
 .seq (r_ [m_ 57 3,m_ 2 57] [0,3,15,57]) (.ret)
def ir37:IR:=
 .seq (r_ [o_ 2 (.mov (.k nilSV))] [2]) (.seq (.seq (r_ [m_ 7 0,o_ 8 (.call (some 4) 10 81 [.t 7])] [7]) (.cond (.t 8) (.seq (r_ [o_ 2 (.mov (.k nilSV))] [0,8]) (.ret)) (.skip))) (.seq (r_ [o_ 9 (.bslice 14 []),m_ 10 0,n_ 11 10,f_ 12 11 36,l_ 13 12,o_ 14 (.app 15 1 1 (.t 9) (.t 13)),m_ 3 14] [2,8,9,10,11,12,13,14]) (.seq (.seq (r_ [z_ 15 0] []) (.block 0 (.loop b37_1))) (r37_5))))
def kp37_2:List Nat:=[0,3,37,38]
def kl37_2:List Nat:=[16,17]
attribute [push_cast] kp37_2 kl37_2
def kp37_1:List Nat:=[0,3,15]
def kl37_1:List Nat:=[16,17]
attribute [push_cast] kp37_1 kl37_1
set_option maxRecDepth 4000 in
theorem comp37:(Try.f37.body.bind fun c=>compC tab isP chkAll ir37 c)=some ir37:=by kernel_rfl
structure MdA where
 L:Xf.Loc
 kind:Int
 st:List Int
def mdM (a:MdA):Mem:=[some (.ro,a.L,.ints .i64 a.st)]
def invMd:List SV->Look->Option (MdA×List Nat)
 | .agg [.int .i64 kind,.sl c _ 1 0 _]::_,look=>match rowI (look c)with
  | some (L,.i64,st)=>some (⟨L,kind,st⟩,[c])
  | _=>none
 | _,_=>none
attribute [push_cast] invMd
def mdOk (kind:Int) (st:List Int):Prop:=stsOk kind st/\st.length<=8192
def fs86:FS where
 A:=MdA
 args:=fun a=>[.agg [.int .i64 a.kind,.sl 0 a.L 1 0 a.st.length]]
 mem:=mdM
 pre:=fun a=>a.st.length<=1000000
 res:=fun a x=>.agg [.int .i64 a.kind,.sl 1 (x 0) 1 0 a.st.length]
 out:=fun _ _=>[]
 new:=fun a x=>[(x 0,.ints .i64 a.st)]
theorem ok86:FSOk Try.prog 86 fs86:=by
 refine⟨⟨_,Try.func86,by kernel_rfl,by kernel_rfl⟩,fun a=>⟨by simp[fs86,mdM,push_cast,noMine,argOwn,Chunk.frArg],by simp[fs86,mdM,push_cast,outOk,Chunk.ext],fun x=>.inl (by simp[fs86,mdM,push_cast,frNew,frOut,Chunk.fr])⟩,fun a hp=>?_⟩
 obtain⟨L,kind,st⟩:=a
 have hp:st.length<=1000000:=hp
 change Tri Try.prog 86 [.agg [.int .i64 kind,.sl 0 L 1 0 st.length]] [some (.ro,L,.ints .i64 st)] (postF fs86 ⟨L,kind,st⟩)
 refine tri_evS (hyp (l:=[]) (lp:=[]) trivial trivial) Try.func86 comp86 (rs:=[.cell 2 (some 2)]) (by rfl) Try.ntmps86 14 ?_
 simp -implicitDefEqProofs only[push_cast,zz,seval,ir86]
 intro X X1
 repeat refine om_ ?_
 refine postF.mk' (fun _=>X1 5 13) [some 0,some 13] ?_
 simp -implicitDefEqProofs only[push_cast,zz,seval,fs86,mdM]
def ent86:Entry:=spOf fs86 invMd
theorem e86:EntryOk Try.prog 86 ent86:=entry_of ok86 invMd
@[push_cast] theorem ent86_app (us:List SV) (look:Look) (x:Nat->Xf.Loc) (k:Nat):ent86 us look x k=spOf fs86 invMd us look x k:=rfl
def fs72:FS where
 A:=MdA
 args:=fun a=>[.agg [.int .i64 a.kind,.sl 0 a.L 1 0 a.st.length]]
 mem:=mdM
 pre:=fun a=>mdOk a.kind a.st
 res:=fun a _=>.bool true
 out:=fun _ _=>[]
 new:=fun _ _=>[]
theorem ok72:FSOk Try.prog 72 fs72:=by
 refine⟨⟨_,Try.func72,by kernel_rfl,by kernel_rfl⟩,fun a=>⟨by simp[fs72,mdM,push_cast,noMine,argOwn,Chunk.frArg],by simp[fs72,mdM,push_cast,outOk,Chunk.ext],fun x=>.inl (by simp[fs72,mdM,push_cast,frNew,frOut,Chunk.fr])⟩,fun a hp=>?_⟩
 obtain⟨L,kind,st⟩:=a
 obtain⟨⟨h1,h2⟩,h3⟩:((kind=0∨kind=1)/\∀ s∈st,sttOk kind s)/\st.length<=8192:=hp
 change Tri Try.prog 72 [.agg [.int .i64 kind,.sl 0 L 1 0 st.length]] [some (.ro,L,.ints .i64 st)] (postF fs72 ⟨L,kind,st⟩)
 refine tri_evS (hyp (l:=[]) (lp:=[]) trivial trivial) Try.func72 comp72 (rs:=[.tmp 2]) (by rfl) Try.ntmps72 11 ?_
 have c1:¬ (¬ kind=0/\¬ kind=1):=by omega
 have c2:¬ (8192:Int)<st.length:=by omega
 obtain⟨e,he⟩:∃ e:Int,e=if kind=1 then 65536 else 64:=⟨_,rfl⟩
 have hall:∀ i:Nat,i<st.length->0<=rd st i/\rd st i<e:=fun i hi=>by
  rw[rd_lt st i hi]
  obtain⟨a,b,c⟩:=h2 _ (List.getElem_mem hi)
  rw[he]
  split
  ·exact⟨a,b (by assumption)⟩
  ·exact⟨a,c (by assumption)⟩
 have loop:∀ (X:Xf.Loc),evS (spList []) (spPList []) (retK [RV.tmp 2] (postF fs72 ⟨L,kind,st⟩)) [Xf.Item.code (IR.loop b72_1),Xf.Item.blk 0,Xf.Item.code r72_2] (upS (List.replicate 38 none) [(3,.int .i64 e),(24,.sl 0 L 1 0 st.length),(25,.int .i64 st.length),(26,.int .i64 0)])
   [some (.ro,L,.ints .i64 st),none,none,none,none,none,none,none,none,none,some (.mine,X,.cells [.int .i64 kind,.sl 0 L 1 0 st.length]),none]:=fun X=>by
  refine evS_loopU (A:=Nat) kp72_1 kl72_1 (fun i=>[(26,.int .i64 i)]) (fun i=>[]) (fun i=>i<=st.length) (fun i=>st.length-i) 0 (Nat.zero_le _) (Sub.pt ?_) ?_
  ·simp -implicitDefEqProofs only[push_cast,zz,seval]
  intro i hi K hK
  have hi:i<=st.length:=hi
  by_cases hi':i<st.length
  ·obtain⟨a1,a2⟩:=hall i hi'
   have hii:(i:Int)<st.length:=by omega
   obtain⟨s,hs⟩:∃ s,rd st i=s:=⟨_,rfl⟩
   rw[hs]at a1 a2
   have a3:¬ s<0:=by omega
   have a4:¬ e<=s:=by omega
   simp -implicitDefEqProofs only[push_cast,zz,seval,b72_1,hs,hii,a3,a4]
   repeat refine om_ ?_
   refine hK (i+1) (show i+1<=st.length by omega) (show st.length-(i+1)<st.length-i by omega) _ _ (Sub.pt ?_)
   simp -implicitDefEqProofs only[push_cast,zz,seval]
  ·obtain rfl:i=st.length:=by omega
   clear hK
   simp -implicitDefEqProofs only[push_cast,zz,seval,b72_1,r72_2,Int.lt_irrefl]
   refine postF.mk' (fun _=>default) [some 0] ?_
   simp -implicitDefEqProofs only[push_cast,zz,seval,fs72,mdM]
 rcases h1 with rfl | rfl
 ·rw[if_neg (by decide)]at he
  subst he
  simp -implicitDefEqProofs only[push_cast,zz,seval,ir72,c1,c2]
  intro X
  first | exact⟨fun h=>absurd h (by decide),fun _=>loop _⟩ | exact loop _
 ·rw[if_pos rfl]at he
  subst he
  simp -implicitDefEqProofs only[push_cast,zz,seval,ir72,c1,c2]
  intro X
  exact loop _
def ent72:Entry:=spOf fs72 invMd
theorem e72:EntryOk Try.prog 72 ent72:=entry_of ok72 invMd
@[push_cast] theorem ent72_app (us:List SV) (look:Look) (x:Nat->Xf.Loc) (k:Nat):ent72 us look x k=spOf fs72 invMd us look x k:=rfl
def fs73:FS where
 A:=MdA
 args:=fun a=>[.agg [.int .i64 a.kind,.sl 0 a.L 1 0 a.st.length]]
 mem:=mdM
 pre:=fun a=>a.st.length<=1000000
 res:=fun a x=>.agg (ivV a.kind (x 0) a.st.length 0 4294967295 [])
 out:=fun _ _=>[]
 new:=fun a x=>[(x 0,.ints .i64 a.st)]
set_option maxRecDepth 8000 in
theorem ok73:FSOk Try.prog 73 fs73:=by
 refine⟨⟨_,Try.func73,by kernel_rfl,by kernel_rfl⟩,fun a=>⟨by simp[fs73,mdM,push_cast,noMine,argOwn,Chunk.frArg],by simp[fs73,mdM,push_cast,outOk,Chunk.ext],fun x=>.inl (by simp[fs73,mdM,push_cast,frNew,frOut,Chunk.fr])⟩,fun a hp=>?_⟩
 obtain⟨L,kind,st⟩:=a
 have hp:st.length<=1000000:=hp
 change Tri Try.prog 73 [.agg [.int .i64 kind,.sl 0 L 1 0 st.length]] [some (.ro,L,.ints .i64 st)] (postF fs73 ⟨L,kind,st⟩)
 refine tri_evS (hyp (l:=[(86,ent86)]) (lp:=[(112,chancesF)]) ⟨e86,trivial⟩ ⟨p112,trivial⟩) Try.func73 comp73 (rs:=[.cell 2 (some 36)]) (by rfl) Try.ntmps73 16 ?_
 simp -implicitDefEqProofs only[push_cast,zz,seval,ir73,fs86,mdM,qsV]
 intro X X1
 repeat refine om_ ?_
 refine postF.mk' (fun _=>X1 1 12) [some 0,some 12] ?_
 simp -implicitDefEqProofs only[push_cast,zz,seval,fs73,mdM,ivV,qsV]
def ent73:Entry:=spOf fs73 invMd
theorem e73:EntryOk Try.prog 73 ent73:=entry_of ok73 invMd
@[push_cast] theorem ent73_app (us:List SV) (look:Look) (x:Nat->Xf.Loc) (k:Nat):ent73 us look x k=spOf fs73 invMd us look x k:=rfl
def newEn (kind:Int) (st:List Int):EnS:=⟨kind,st,0,4294967295,[]⟩
def fs32:FS where
 A:=MdA
 args:=fun a=>[.agg [.int .i64 a.kind,.sl 0 a.L 1 0 a.st.length]]
 mem:=mdM
 pre:=fun a=>mdOk a.kind a.st
 res:=fun a x=>.tup [.ptr 2 (x 1) 0 0 0,.int .i64 0]
 out:=fun _ _=>[]
 new:=fun a x=>[(x 0,.ints .i64 a.st),(x 1,.cells (enV (x 0) (newEn a.kind a.st) 4096 nilLoc))]
set_option maxRecDepth 8000 in
theorem ok32:FSOk Try.prog 32 fs32:=by
 refine⟨⟨_,Try.func32,by kernel_rfl,by kernel_rfl⟩,fun a=>⟨by simp[fs32,mdM,push_cast,noMine,argOwn,Chunk.frArg],by simp[fs32,mdM,push_cast,outOk,Chunk.ext],fun x=>.inl (by simp[fs32,mdM,push_cast,frNew,frOut,Chunk.fr])⟩,fun a hp=>?_⟩
 obtain⟨L,kind,st⟩:=a
 have hp':mdOk kind st:=hp
 have hl:st.length<=1000000:=by have:=hp'.2;omega
 change Tri Try.prog 32 [.agg [.int .i64 kind,.sl 0 L 1 0 st.length]] [some (.ro,L,.ints .i64 st)] (postF fs32 ⟨L,kind,st⟩)
 refine tri_evS (hyp (l:=[(72,ent72),(73,ent73)]) (lp:=[]) ⟨e72,e73,trivial⟩ trivial) Try.func32 comp32 (rs:=[.tmp 2,.tmp 3]) (by rfl) Try.ntmps32 20 ?_
 simp -implicitDefEqProofs only[push_cast,zz,seval,ir32,fs72,fs73,mdM,ivV,qsV,hp',hl]
 intro X
 repeat refine om_ ?_
 intro X1
 repeat refine om_ ?_
 refine postF.mk' (fun j=>if j=0 then X1 1 15 else X1 3 19) [some 0,some 15,some 19] ?_
 simp -implicitDefEqProofs only[push_cast,zz,seval,fs32,mdM,enV,ivV,qsV,newEn]
def ent32:Entry:=spOf fs32 invMd
theorem e32:EntryOk Try.prog 32 ent32:=entry_of ok32 invMd
@[push_cast] theorem ent32_app (us:List SV) (look:Look) (x:Nat->Xf.Loc) (k:Nat):ent32 us look x k=spOf fs32 invMd us look x k:=rfl
def fs36:FS where
 A:=EnA
 args:=fun a=>[.ptr 0 a.L 0 0 0]
 mem:=enM
 pre:=fun a=>a.e.st.length<=1000000
 res:=fun a x=>.agg [.int .i64 a.e.kind,.sl 3 (x 0) 1 0 a.e.st.length]
 out:=fun _ _=>[]
 new:=fun a x=>[(x 0,.ints .i64 a.e.st)]
theorem ok36:FSOk Try.prog 36 fs36:=by
 refine⟨⟨_,Try.func36,by kernel_rfl,by kernel_rfl⟩,fun a=>⟨by simp[fs36,enM,push_cast,noMine,argOwn,Chunk.frArg],by simp[fs36,enM,push_cast,outOk,Chunk.ext],fun x=>.inl (by simp[fs36,enM,push_cast,frNew,frOut,Chunk.fr])⟩,fun a hp=>?_⟩
 obtain⟨L,LS,LO,⟨kind,st,low,high,out⟩,ctx,bit⟩:=a
 have hl:st.length<=1000000:=hp
 change Tri Try.prog 36 [.ptr 0 L 0 0 0] (enM ⟨L,LS,LO,⟨kind,st,low,high,out⟩,ctx,bit⟩) (postF fs36 ⟨L,LS,LO,⟨kind,st,low,high,out⟩,ctx,bit⟩)
 refine tri_evS (hyp (l:=[(81,ent81),(86,ent86)]) (lp:=[]) ⟨e81,e86,trivial⟩ trivial) Try.func36 comp36 (rs:=[.cell 2 (some 2)]) (by rfl) Try.ntmps36 19 ?_
 simp -implicitDefEqProofs only[push_cast,zz,seval,ir36,enM,enV,ivV,fs81,fs86,mdM,hl]
 intro X
 repeat refine om_ ?_
 intro X1
 repeat refine om_ ?_
 refine postF.mk' (fun j=>X1 5 15) [some 0,some 1,some 2,some 15] ?_
 simp -implicitDefEqProofs only[push_cast,zz,seval,fs36,enM,enV,ivV]
def ent36:Entry:=spOf fs36 invEn
theorem e36:EntryOk Try.prog 36 ent36:=entry_of ok36 invEn
@[push_cast] theorem ent36_app (us:List SV) (look:Look) (x:Nat->Xf.Loc) (k:Nat):ent36 us look x k=spOf fs36 invEn us look x k:=rfl
def cutP (g:Int) (n:Nat):Int:=g / 2^(32-8*(n:Int)).toNat*2^(32-8*(n:Int)).toNat
theorem pow_pos' (k:Nat):(0:Int)<2^k:=Int.pow_pos (by decide)
theorem cutP_bd {g:Int} (h:0<=g) (n:Nat):0<=cutP g n/\cutP g n<=g:=by
 have hp:=pow_pos' (32-8*(n:Int)).toNat
 exact⟨Int.mul_nonneg (Int.ediv_nonneg h (Int.le_of_lt hp)) (Int.le_of_lt hp),Int.ediv_mul_le g (Int.ne_of_gt hp)⟩
def bytP (g:Int) (i:Nat):Int:=IntKind.u8.wrap (g / 2^(24-8*(i:Int)).toNat)
def endN (l g:Int):Nat:=if l<=cutP g 0 then 0 else if l<=cutP g 1 then 1 else if l<=cutP g 2 then 2 else if l<=cutP g 3 then 3 else 4
theorem endN_eq {l g:Int} {n:Nat} (hn:n<=4) (h:∀ m,m<n->¬ l<=cutP g m) (hc:n<4->l<=cutP g n):endN l g=n:=by
 have hn5:n=0∨n=1∨n=2∨n=3∨n=4:=by omega
 unfold endN
 rcases hn5 with rfl | rfl | rfl | rfl | rfl
 ·rw[if_pos (hc (by decide))]
 ·rw[if_neg (h 0 (by decide)),if_pos (hc (by decide))]
 ·rw[if_neg (h 0 (by decide)),if_neg (h 1 (by decide)),if_pos (hc (by decide))]
 ·rw[if_neg (h 0 (by decide)),if_neg (h 1 (by decide)),if_neg (h 2 (by decide)),if_pos (hc (by decide))]
 ·rw[if_neg (h 0 (by decide)),if_neg (h 1 (by decide)),if_neg (h 2 (by decide)),if_neg (h 3 (by decide))]
theorem cutP_4 (g:Int):cutP g 4=g:=by
 have e:(32-8*((4:Nat):Int)).toNat=0:=rfl
 unfold cutP
 rw[e]
 omega
def endP (l g:Int):List Int:=(List.range (endN l g)).map (bytP g)
def encEnd (e:EnS):List Int:=e.out++endP e.low e.high
def fs37:FS where
 A:=EnA
 args:=fun a=>[.ptr 0 a.L 0 0 0]
 mem:=enM
 pre:=fun a=>a.e.ok/\a.e.out.length<=200000000
 res:=fun a x=>.sl 3 (x 0) 1 0 (encEnd a.e).length
 out:=fun _ _=>[]
 new:=fun a x=>[(x 0,.ints .u8 (encEnd a.e))]
set_option maxHeartbeats 1000000 in
theorem ok37:FSOk Try.prog 37 fs37:=by
 refine⟨⟨_,Try.func37,by kernel_rfl,by kernel_rfl⟩,fun a=>⟨by simp[fs37,enM,push_cast,noMine,argOwn,Chunk.frArg],by simp[fs37,enM,push_cast,outOk,Chunk.ext],fun x=>.inl (by simp[fs37,enM,push_cast,frNew,frOut,Chunk.fr])⟩,fun a hp=>?_⟩
 obtain⟨L,LS,LO,⟨kind,st,low,high,out⟩,ctx,bit⟩:=a
 obtain⟨⟨h1,h2,h3,h4,h5,h6⟩,h7⟩:ivOk2 kind st low high/\out.length<=200000000:=hp
 change Tri Try.prog 37 [.ptr 0 L 0 0 0] (enM ⟨L,LS,LO,⟨kind,st,low,high,out⟩,ctx,bit⟩) (postF fs37 ⟨L,LS,LO,⟨kind,st,low,high,out⟩,ctx,bit⟩)
 refine tri_evS (hyp (l:=[(81,ent81)]) (lp:=[]) ⟨e81,trivial⟩ trivial) Try.func37 comp37 (rs:=[.tmp 2]) (by rfl) Try.ntmps37 18 ?_
 simp -implicitDefEqProofs only[push_cast,zz,seval,ir37,enM,enV,ivV,fs81]
 intro X
 repeat refine om_ ?_
 have hb64:=bits64
 obtain⟨M,hM⟩:∃ M,X 5 15=M:=⟨_,rfl⟩
 rw[hM]
 refine evS_loopU (A:=Nat) kp37_1 kl37_1 (fun n=>[(15,.int .i64 n)]) (fun n=>[]) (fun n=>n<=4/\∀ m,m<n->¬ low<=cutP high m) (fun n=>5-n) 0 ⟨by omega,fun m hm=>by omega⟩ (Sub.pt ?_) ?_
 ·simp -implicitDefEqProofs only[push_cast,zz,seval]
 intro n ⟨(hn:n<=4),(hm:∀ m,m<n->¬ low<=cutP high m)⟩ K hK
 have hn5:(n:Int)<5:=by omega
 have hc:=cutP_bd (g:=high) (by omega) n
 have hq0:0<=high / 2^(32-8*(n:Int)).toNat:=Int.ediv_nonneg (by omega) (Int.le_of_lt (pow_pos' _))
 have hq1:high / 2^(32-8*(n:Int)).toNat*2^(32-8*(n:Int)).toNat=cutP high n:=rfl
 by_cases hlow:low<=cutP high n
 ·clear hK
  have he:endN low high=n:=endN_eq hn hm fun _=>hlow
  simp -implicitDefEqProofs only[push_cast,zz,seval,b37_1,hn5,hq1,hlow]
  repeat refine om_ ?_
  have hlen:∀ i:Nat,(((out++(List.range i).map (bytP high)).length:Nat):Int)=out.length+i:=fun i=>by rw[List.length_append,List.length_map,List.length_range];omega
  refine evS_loopU (A:=Nat×Xf.Loc) kp37_2 kl37_2 (fun y=>[(3,.sl 15 y.2 1 0 (out.length+y.1)),(38,.int .i64 y.1)]) (fun y=>[(15,.mine,y.2,.ints .u8 (out++(List.range y.1).map (bytP high)))])
   (fun y=>y.1<=n) (fun y=>n-y.1) (0,M) (Nat.zero_le _) (Sub.pt ?_) ?_
  ·simp -implicitDefEqProofs only[push_cast,zz,seval,List.range_zero]
  intro ⟨i,N⟩ hi K hK
  have hi:i<=n:=hi
  by_cases hi':i<n
  ·have hii:(i:Int)<n:=by omega
   have hb:IntKind.u8.wrap (high / 2^(24-8*(i:Int)).toNat)=bytP high i:=rfl
   have ha:(out++(List.range i).map (bytP high))++[bytP high i]=out++(List.range (i+1)).map (bytP high):=by rw[List.range_succ,List.map_append,List.append_assoc];rfl
   have hl:=hlen i
   obtain⟨o,ho⟩:∃ o,out++(List.range i).map (bytP high)=o:=⟨_,rfl⟩
   rw[ho]at ha hl
   have hl2:(out.length:Int)+i=o.length:=hl.symm
   simp -implicitDefEqProofs only[push_cast,zz,seval,b37_2,hii,hb,ho,hl2]
   intro X2
   repeat refine om_ ?_
   refine hK (i+1,X2 12 17) (show i+1<=n by omega) (show n-(i+1)<n-i by omega) _ _ (Sub.of (mkG 24 [(0,0),(1,1),(2,2),(15,17)]) ?_)
   have hl3:(out.length:Int)+((i:Int)+1)=o.length+1:=by omega
   simp -implicitDefEqProofs only[push_cast,zz,seval,ha,hl3]
  ·obtain rfl:i=n:=by omega
   clear hK
   have hf:out++(List.range i).map (bytP high)=encEnd ⟨kind,st,low,high,out⟩:=by unfold encEnd endP;rw[he]
   have hl:=hlen i
   rw[hf]at hl
   simp -implicitDefEqProofs only[push_cast,zz,seval,b37_2,r37_3,Int.lt_irrefl,hf]
   refine postF.mk' (fun _=>N) [some 0,some 1,some 2,some 15] ?_
   simp -implicitDefEqProofs only[push_cast,zz,seval,fs37,enM,enV,ivV,hl]
 ·have hn4:n<4:=by
   rcases Nat.lt_or_ge n 4 with h | h
   ·exact h
   ·have:n=4:=by omega
    subst this
    rw[cutP_4]at hlow
    omega
  simp -implicitDefEqProofs only[push_cast,zz,seval,b37_1,hn5,hq1,hlow,r37_4]
  repeat refine om_ ?_
  refine hK (n+1) ⟨by omega,fun m hm'=>?_⟩ (show 5-(n+1)<5-n by omega) _ _ (Sub.pt ?_)
  ·by_cases e:m=n
   ·rw[e];exact hlow
   ·exact hm m (by omega)
  ·simp -implicitDefEqProofs only[push_cast,zz,seval]
def ent37:Entry:=spOf fs37 invEn
theorem e37:EntryOk Try.prog 37 ent37:=entry_of ok37 invEn
@[push_cast] theorem ent37_app (us:List SV) (look:Look) (x:Nat->Xf.Loc) (k:Nat):ent37 us look x k=spOf fs37 invEn us look x k:=rfl
def ir87:IR:=
 .seq (r_ [o_ 2 (.mov (.k (.int .u8 0)))] []) (.seq (.seq (R_ [m_ 3 0,n_ 4 3,f_ 5 4 37,l_ 6 5,m_ 7 0,n_ 8 7,f_ 9 8 36,l_ 10 9,h_ 11 10,b_ 12 .lss 6 11] [3,4,5,6,7,8,9,10,11]) (.cond (.t 12) (R_ [m_ 13 0,n_ 14 13,f_ 15 14 36,l_ 16 15,m_ 17 0,n_ 18 17,f_ 19 18 37,l_ 20 19,i_ 21 16 20 1,L_ 22 21,m_ 2 22] [12,13,14,15,16,17,18,19,20,21,22]) (r_ [m_ 23 0,n_ 24 23,f_ 25 24 39,l_ 26 25,a_ 27 26 1,n_ 28 23,f_ 29 28 39,s_ 1 .i64 29 27] [12,23,24,25,26,27,28,29]))) (.seq (r_ [m_ 30 0,n_ 31 30,f_ 32 31 37,l_ 33 32,a_ 34 33 1,n_ 35 30,f_ 36 35 37,s_ 1 .i64 36 34] [30,31,32,33,34,35,36]) (r_ [m_ 37 0,m_ 38 0,n_ 39 38,f_ 40 39 38,l_ 41 40,o_ 42 (.bin 0 .shl (.t 41) (.k (.int .u64 8))),o_ 43 (.bin 0 .and (.t 42) (.k (.int .u64 4294967295))),m_ 44 2,o_ 45 (.cvt 0 .u64 (.t 44)),b_ 46 .or 43 45,n_ 47 37,f_ 48 47 38,s_ 1 .i64 48 46] [0,2,37,38,39,40,41,42,43,44,45,46,47,48])))
set_option maxRecDepth 4000 in
theorem comp87:(Try.f87.body.bind fun c=>compC tab isP chkAll ir87 c)=some ir87:=by kernel_rfl
def ir88:IR:=
 .seq (r_ [o_ 2 (.mov (.k (.bool false)))] [2]) (.seq (r_ [m_ 3 0,o_ 4 (.binN .eql (.t 3) (.k nilP)),m_ 5 4,q_ 5 (m_ 6 0),q_ 5 (n_ 7 6),q_ 5 (f_ 8 7 41),q_ 5 (l_ 9 8),q_ 5 (o_ 10 (.not (.t 9))),k_ 11 5 10,m_ 2 11] [0,3,4,5,6,7,8,9,10,11]) (.ret))
set_option maxRecDepth 4000 in
theorem comp88:(Try.f88.body.bind fun c=>compC tab isP chkAll ir88 c)=some ir88:=by kernel_rfl
def ir41:IR:=
 .seq (r_ [o_ 2 (.alloc 10 [y_,nilSV])] []) (.seq (.seq (r_ [m_ 3 0,o_ 4 (.call (some 4) 11 88 [.t 3])] [3]) (.cond (.t 4) (.seq (r_ [o_ 5 (.build [y_,nilSV] []),s_ 2 .i64 2 5] [0,4,5]) (.ret)) (.skip))) (.seq (r_ [m_ 6 0,n_ 7 6,f_ 8 7 0,f_ 9 8 0,o_ 10 (.ld false (some 2) 0 0 (.t 9)),o_ 11 (.call (some 4) 15 86 [.t 10]),s_ 2 .i64 2 11] [0,4,6,7,8,9,10,11]) (.ret)))
set_option maxRecDepth 4000 in
theorem comp41:(Try.f41.body.bind fun c=>compC tab isP chkAll ir41 c)=some ir41:=by kernel_rfl
theorem setL_at (v:SV):∀ (p:List SV) (a:SV) (z:List SV),setL (p++a::z) p.length v=p++v::z
 | [],a,z=>rfl
 | b::p,a,z=>by simp only[List.cons_append,List.length_cons,setL];rw[setL_at v p a z]
theorem setsL_at:∀ (vs p z:List SV),z.length=vs.length->setsL (p++z) p.length vs=p++vs
 | [],p,[],_=>by simp[setsL]
 | [],p,_::_,h=>by simp at h
 | v::vs,p,[],h=>by simp at h
 | v::vs,p,a::z,h=>by
  rw[setsL,setL_at]
  have:=setsL_at vs (p++[v]) z (by simpa using h)
  simpa using this
theorem takeL_app:∀ (q r:List SV) (n:Nat),takeL (q++r) (q.length+n)=match takeL r n with | none=>none | some l=>some (q++l)
 | [],r,n=>by
  simp only[List.nil_append,List.length_nil,Nat.zero_add]
  cases takeL r n<;>rfl
 | a::q,r,n=>by
  rw[List.cons_append,List.length_cons,Nat.add_right_comm,takeL,takeL_app q r n]
  cases takeL r n<;>rfl
@[push_cast] theorem tq40 (r:List SV):takeL (qsV++r) 40=match takeL r 8 with | none=>none | some l=>some (qsV++l):=takeL_app qsV r 8
@[push_cast] theorem allq (r:List SV):(qsV++r).all size1=r.all size1:=by rw[List.all_append];rfl
@[push_cast] theorem lenq (r:List SV):(qsV++r).length=r.length+32:=by rw[List.length_append,qsV_len];omega
theorem or_byte {x b:Int} (h0:0<=x) (h1:x<18446744073709551616) (h2:x % 256=0) (b0:0<=b) (b1:b<256):bitop .or .u64 x b=x+b:=by
 obtain⟨k,rfl⟩:∃ k:Nat,x=k:=⟨x.toNat,by omega⟩
 obtain⟨c,rfl⟩:∃ k:Nat,b=k:=⟨b.toNat,by omega⟩
 have e:((BitVec.ofInt 64 (k:Int)) ||| (BitVec.ofInt 64 (c:Int))).toNat=k+c:=by
  rw[BitVec.toNat_or,BitVec.toNat_ofInt,BitVec.toNat_ofInt]
  rw[show(((c:Int) % ((2^64:Nat):Int)).toNat)=c by omega]
  rw[show(((k:Int) % ((2^64:Nat):Int)).toNat)=2^8*(k / 256) by omega]
  rw[<-Nat.two_pow_add_eq_or_of_lt (by omega)]
  omega
 show IntKind.u64.wrap _=_
 have e':(BitVec.toNat ((BitVec.ofInt IntKind.u64.bits (k:Int)) ||| (BitVec.ofInt IntKind.u64.bits (c:Int))))=k+c:=e
 simp only[e']
 rw[wrap64 _ (by omega)]
 omega
structure DeS where
 kind:Int
 st:List Int
 low:Int
 high:Int
 code:List Int
 at_:Int
 value:Int
 beyond:Int
 ended:Bool
def bytA (code:List Int) (i:Int):Int:=if i<code.length then rd code i else 0
def byAll (code:List Int):Prop:=∀ b∈code,0<=b/\b<256
theorem bytA_bd {code:List Int} (h:byAll code) {i:Int} (h0:0<=i):0<=bytA code i/\bytA code i<256:=by
 unfold bytA
 split
 ·obtain⟨k,rfl⟩:∃ k:Nat,i=k:=⟨i.toNat,by omega⟩
  rw[rd_lt code k (by omega)]
  exact h _ (List.getElem_mem _)
 ·omega
def beyP (code:List Int) (i:Int):Int:=max 0 (i-code.length)
def deT (d:DeS):List SV:=[.int .i64 d.at_,.int .u64 d.value,.int .i64 d.beyond,.bool d.ended,.bool true]
def deV (LS:Xf.Loc) (d:DeS) (LC:Xf.Loc):List SV:=ivV d.kind LS d.st.length d.low d.high (.sl 2 LC 1 0 d.code.length::deT d)
def inOk (code:List Int) (i v b:Int):Prop:=code.length<=140737488355328/\byAll code/\0<=i/\i<=300000000000000/\0<=v/\v<4294967296/\b=beyP code i
def shiftV (code:List Int) (i v:Int):Int:=v % 16777216*256+bytA code i
structure DeA where
 L:Xf.Loc
 LS:Xf.Loc
 LC:Xf.Loc
 d:DeS
 ctx:Int
def invDe:List SV->Look->Option (DeA×List Nat)
 | .ptr c _ 0 0 0::us,look=>match rowC (look c)with
  | some (L,.int .i64 kind::.sl d LS 1 0 _::r)=>match dropL r 32,rowI (look d)with
   | [.int .u64 low,.int .u64 high,.sl e _ 1 0 _,.int .i64 i,.int .u64 v,.int .i64 b,.bool en,.bool true],some (_,.i64,st)=>match rowO look e with
    | some (LC,code)=>match us with
     | []=>some (⟨L,LS,LC,⟨kind,st,low,high,code,i,v,b,en⟩,0⟩,[c,d,e])
     | [.int .i64 ctx]=>some (⟨L,LS,LC,⟨kind,st,low,high,code,i,v,b,en⟩,ctx⟩,[c,d,e])
     | _=>none
    | none=>none
   | _,_=>none
  | _=>none
 | _,_=>none
attribute [push_cast] invDe
def fs87:FS where
 A:=DeA
 args:=fun a=>[.ptr 0 a.L 0 0 0]
 mem:=fun a=>[some (.lent,a.L,.cells (deV a.LS a.d a.LC)),none,some (.ro,a.LC,.ints .u8 a.d.code)]
 pre:=fun a=>inOk a.d.code a.d.at_ a.d.value a.d.beyond
 res:=fun a _=>.tup []
 out:=fun a _=>[some (some (.cells (deV a.LS ⟨a.d.kind,a.d.st,a.d.low,a.d.high,a.d.code,a.d.at_+1,shiftV a.d.code a.d.at_ a.d.value,beyP a.d.code (a.d.at_+1),a.d.ended⟩ a.LC)))]
 new:=fun _ _=>[]
set_option maxHeartbeats 1000000 in
theorem ok87:FSOk Try.prog 87 fs87:=by
 refine⟨⟨_,Try.func87,by kernel_rfl,by kernel_rfl⟩,fun a=>⟨by simp[fs87,deV,deT,ivV,push_cast,noMine,argOwn,Chunk.frArg],by simp[fs87,deV,deT,ivV,push_cast,outOk,Chunk.ext],fun x=>.inl (by simp[fs87,deV,deT,ivV,push_cast,frNew,frOut,Chunk.fr])⟩,fun a hp=>?_⟩
 obtain⟨L,LS,LC,⟨kind,st,low,high,code,i,v,b,en⟩,ctx⟩:=a
 obtain⟨h1,h2,h3,h4,h5,h6,h7⟩:inOk code i v b:=hp
 change Tri Try.prog 87 [.ptr 0 L 0 0 0] [some (.lent,L,.cells (deV LS ⟨kind,st,low,high,code,i,v,b,en⟩ LC)),none,some (.ro,LC,.ints .u8 code)] (postF fs87 ⟨L,LS,LC,⟨kind,st,low,high,code,i,v,b,en⟩,ctx⟩)
 refine tri_evS (hyp (l:=[]) (lp:=[]) trivial trivial) Try.func87 comp87 (rs:=[]) (by rfl) Try.ntmps87 10 ?_
 have hb64:=bits64
 have e1:=and_top (x:=v*256) (by omega) (by omega)
 have e4:v*256 % 4294967296=v % 16777216*256:=by omega
 rw[e4]at e1
 have hby:=bytA_bd h2 h3
 have e2:=or_byte (x:=v % 16777216*256) (b:=bytA code i) (by omega) (by omega) (by omega) hby.1 hby.2
 by_cases hi:i<code.length
 ·have eb:rd code i=bytA code i:=by unfold bytA;rw[if_pos hi]
  have ec:b=beyP code (i+1):=by rw[h7];unfold beyP;omega
  obtain⟨y,hy⟩:∃ y,bytA code i=y:=⟨_,rfl⟩
  rw[hy]at hby e2 eb
  simp -implicitDefEqProofs only[push_cast,zz,seval,ir87,deV,deT,ivV,hi,eb,pw8,e1,e2]
  repeat refine om_ ?_
  refine postF.mk' (fun _=>default) [some 0,none,some 2] ?_
  simp -implicitDefEqProofs only[push_cast,zz,seval,fs87,deV,deT,ivV,shiftV,hy,<-ec]
 ·have eb:(0:Int)=bytA code i:=by unfold bytA;rw[if_neg hi]
  have ec:b+1=beyP code (i+1):=by rw[h7];unfold beyP;omega
  rw[<-eb]at hby e2
  have hbb:0<=b/\b<=300000000000000:=by rw[h7];unfold beyP;omega
  simp -implicitDefEqProofs only[push_cast,zz,seval,ir87,deV,deT,ivV,hi,pw8,e1,e2]
  repeat refine om_ ?_
  refine postF.mk' (fun _=>default) [some 0,none,some 2] ?_
  simp -implicitDefEqProofs only[push_cast,zz,seval,fs87,deV,deT,ivV,shiftV,<-eb,<-ec]
def ent87:Entry:=spOf fs87 invDe
theorem e87:EntryOk Try.prog 87 ent87:=entry_of ok87 invDe
@[push_cast] theorem ent87_app (us:List SV) (look:Look) (x:Nat->Xf.Loc) (k:Nat):ent87 us look x k=spOf fs87 invDe us look x k:=rfl
def deM (a:DeA):Mem:=[some (.ro,a.L,.cells (deV a.LS a.d a.LC)),some (.ro,a.LS,.ints .i64 a.d.st),some (.ro,a.LC,.ints .u8 a.d.code)]
def fs88:FS where
 A:=DeA
 args:=fun a=>[.ptr 0 a.L 0 0 0]
 mem:=deM
 pre:=fun a=>True
 res:=fun a _=>.bool false
 out:=fun _ _=>[]
 new:=fun _ _=>[]
theorem ok88:FSOk Try.prog 88 fs88:=by
 refine⟨⟨_,Try.func88,by kernel_rfl,by kernel_rfl⟩,fun a=>⟨by simp[fs88,deM,push_cast,noMine,argOwn,Chunk.frArg],by simp[fs88,deM,push_cast,outOk,Chunk.ext],fun x=>.inl (by simp[fs88,deM,push_cast,frNew,frOut,Chunk.fr])⟩,fun a hp=>?_⟩
 obtain⟨L,LS,LC,⟨kind,st,low,high,code,i,v,b,en⟩,ctx⟩:=a
 change Tri Try.prog 88 [.ptr 0 L 0 0 0] (deM ⟨L,LS,LC,⟨kind,st,low,high,code,i,v,b,en⟩,ctx⟩) (postF fs88 ⟨L,LS,LC,⟨kind,st,low,high,code,i,v,b,en⟩,ctx⟩)
 refine tri_evS (hyp (l:=[]) (lp:=[]) trivial trivial) Try.func88 comp88 (rs:=[.tmp 2]) (by rfl) Try.ntmps88 10 ?_
 simp -implicitDefEqProofs only[push_cast,zz,seval,ir88,deM,deV,deT,ivV]
 repeat refine om_ ?_
 refine postF.mk' (fun _=>default) [some 0,some 1,some 2] ?_
 simp -implicitDefEqProofs only[push_cast,zz,seval,fs88,deM,deV,deT,ivV]
def ent88:Entry:=spOf fs88 invDe
theorem e88:EntryOk Try.prog 88 ent88:=entry_of ok88 invDe
@[push_cast] theorem ent88_app (us:List SV) (look:Look) (x:Nat->Xf.Loc) (k:Nat):ent88 us look x k=spOf fs88 invDe us look x k:=rfl
def fs41:FS where
 A:=DeA
 args:=fun a=>[.ptr 0 a.L 0 0 0]
 mem:=deM
 pre:=fun a=>a.d.st.length<=1000000
 res:=fun a x=>.agg [.int .i64 a.d.kind,.sl 3 (x 0) 1 0 a.d.st.length]
 out:=fun _ _=>[]
 new:=fun a x=>[(x 0,.ints .i64 a.d.st)]
theorem ok41:FSOk Try.prog 41 fs41:=by
 refine⟨⟨_,Try.func41,by kernel_rfl,by kernel_rfl⟩,fun a=>⟨by simp[fs41,deM,push_cast,noMine,argOwn,Chunk.frArg],by simp[fs41,deM,push_cast,outOk,Chunk.ext],fun x=>.inl (by simp[fs41,deM,push_cast,frNew,frOut,Chunk.fr])⟩,fun a hp=>?_⟩
 obtain⟨L,LS,LC,⟨kind,st,low,high,code,i,v,b,en⟩,ctx⟩:=a
 have hl:st.length<=1000000:=hp
 change Tri Try.prog 41 [.ptr 0 L 0 0 0] (deM ⟨L,LS,LC,⟨kind,st,low,high,code,i,v,b,en⟩,ctx⟩) (postF fs41 ⟨L,LS,LC,⟨kind,st,low,high,code,i,v,b,en⟩,ctx⟩)
 refine tri_evS (hyp (l:=[(88,ent88),(86,ent86)]) (lp:=[]) ⟨e88,e86,trivial⟩ trivial) Try.func41 comp41 (rs:=[.cell 2 (some 2)]) (by rfl) Try.ntmps41 19 ?_
 simp -implicitDefEqProofs only[push_cast,zz,seval,ir41,deM,deV,deT,ivV,fs88,fs86,mdM,hl]
 intro X
 repeat refine om_ ?_
 intro X1
 repeat refine om_ ?_
 refine postF.mk' (fun j=>X1 5 15) [some 0,some 1,some 2,some 15] ?_
 simp -implicitDefEqProofs only[push_cast,zz,seval,fs41,deM,deV,deT,ivV]
def ent41:Entry:=spOf fs41 invDe
theorem e41:EntryOk Try.prog 41 ent41:=entry_of ok41 invDe
@[push_cast] theorem ent41_app (us:List SV) (look:Look) (x:Nat->Xf.Loc) (k:Nat):ent41 us look x k=spOf fs41 invDe us look x k:=rfl
def b38_1:IR:=
 .seq (r_ [c_ 18 .lss 17 4] []) (.seq (.cond (.t 18) (.skip) (.exit 0)) (.seq (.block 1 (r_ [m_ 19 6,o_ 20 (.call none 22 87 [.t 19])] [18,19,20])) (r_ [a_ 21 17 1,m_ 17 21] [21])))
def r38_2:IR:=
 .seq (r_ [m_ 22 6,m_ 4 22,z_ 5 0] [6,17,22]) (.ret)
def ir38:IR:=
 .seq (r_ [o_ 2 (.box 10 (.t 0)),o_ 4 (.mov (.k nilP)),z_ 5 0] [0,4,5]) (.seq (.seq (r_ [o_ 7 (.ld false (some 2) 0 0 (.t 2)),o_ 8 (.call (some 4) 11 72 [.t 7]),o_ 9 (.not (.t 8))] [7,8]) (.cond (.t 9) (.seq (r_ [o_ 4 (.mov (.k nilP)),z_ 5 10] [1,2,9]) (.ret)) (.skip))) (.seq (r_ [o_ 10 (.ld false (some 2) 0 0 (.t 2)),o_ 11 (.call (some 4) 15 73 [.t 10]),o_ 12 (.bslice 19 []),m_ 13 1,o_ 14 (.app 20 1 1 (.t 12) (.t 13)),o_ 15 (.build [y_,nilSV,y_,y_,y_,y_,y_,y_,y_,y_,y_,y_,y_,y_,y_,y_,y_,y_,y_,y_,y_,y_,y_,y_,y_,y_,y_,y_,y_,y_,y_,y_,y_,y_,.int .u64 0,.int .u64 0,nilSV,y_,.int .u64 0,y_,.bool false,.bool false] [(0,36,.t 11),(36,1,.t 14),(41,1,.k (.bool true))]),o_ 16 (.box 21 (.t 15)),m_ 6 16] [1,2,4,5,9,10,11,12,13,14,15,16]) (.seq (.seq (r_ [z_ 17 0] []) (.block 0 (.loop b38_1))) (r38_2))))
def kp38_1:List Nat:=[6,17]
def kl38_1:List Nat:=[22,23,24,25]
attribute [push_cast] kp38_1 kl38_1
set_option maxRecDepth 4000 in
theorem comp38:(Try.f38.body.bind fun c=>compC tab isP chkAll ir38 c)=some ir38:=by kernel_rfl
def b40_1:IR:=
 .seq (.seq (r_ [m_ 62 0,n_ 63 62,f_ 64 63 0,o_ 65 (.call (some 4) 23 84 [.t 64])] [62,63,64]) (.cond (.t 65) (.skip) (.exit 1))) (.block 2 (.seq (r_ [m_ 66 0,n_ 67 66,f_ 68 67 0,o_ 69 (.call none 27 85 [.t 68])] [65,66,67,68,69]) (r_ [m_ 70 0,o_ 71 (.call none 31 87 [.t 70])] [70,71])))
def r40_2:IR:=
 .seq (.seq (r_ [m_ 72 0,n_ 73 72,f_ 74 73 39,l_ 75 74,c_ 76 .gtr 75 4] [72,73,74,75]) (.cond (.t 76) (.seq (r_ [m_ 77 0,o_ 78 (.ld false (some 42) 0 0 (.t 8)),n_ 79 77,s_ 42 .i64 79 78] [6,8,76,77,78,79]) (.seq (r_ [m_ 80 0,n_ 81 80,f_ 82 81 0,f_ 83 82 0,f_ 84 83 1,l_ 85 84,m_ 86 1,m_ 87 9,i_ 88 85 86 1,S_ 1 .i64 88 87] [1,9,80,81,82,83,84,85,86,87,88]) (.seq (r_ [m_ 89 0,n_ 90 89,f_ 91 90 40,O_ (.sto false 1 .i64 (.t 91) (.k (.bool true)))] [0,89,90,91]) (.seq (r_ [z_ 4 0,z_ 5 6] []) (.ret))))) (.skip))) (.seq (r_ [m_ 92 6,m_ 4 92,z_ 5 0] [0,1,6,8,9,76,92]) (.ret))
def ir40:IR:=
 .seq (r_ [z_ 4 0,z_ 5 0] [4,5]) (.seq (.block 0 (.seq (r_ [m_ 11 0,o_ 12 (.call (some 4) 10 88 [.t 11]),m_ 10 12] [11,12]) (.cond (.t 10) (.seq (r_ [z_ 4 0,z_ 5 7] [0,1,10]) (.ret)) (.seq (r_ [m_ 14 1,c_ 15 .lss 14 0,m_ 16 15,q_ 16 (m_ 17 1),q_ 16 (m_ 18 0),q_ 16 (n_ 19 18),q_ 16 (f_ 20 19 0),q_ 16 (f_ 21 20 0),q_ 16 (f_ 22 21 1),q_ 16 (l_ 23 22),q_ 16 (h_ 24 23),q_ 16 (b_ 25 .geq 17 24),k_ 26 16 25,m_ 13 26] [10,14,15,16,17,18,19,20,21,22,23,24,25,26]) (.cond (.t 13) (.seq (r_ [z_ 4 0,z_ 5 2] [0,1,13]) (.ret)) (.seq (r_ [m_ 28 0,n_ 29 28,f_ 30 29 40,l_ 31 30,m_ 27 31] [13,28,29,30,31]) (.cond (.t 27) (.seq (r_ [z_ 4 0,z_ 5 6] [0,1,27]) (.ret)) (.skip)))))))) (.seq (r_ [m_ 32 0,n_ 33 32,f_ 34 33 0,m_ 35 1,o_ 36 (.call (some 4) 14 83 [.t 34,.t 35]),z_ 6 0,m_ 7 36] [4,5,27,32,33,34,35,36]) (.seq (.seq (r_ [m_ 37 0,n_ 38 37,f_ 39 38 38,l_ 40 39,m_ 41 7,b_ 42 .leq 40 41] [37,38,39,40,41]) (.cond (.t 42) (r_ [z_ 6 1] [42]) (.skip))) (.seq (R_ [m_ 43 0,n_ 44 43,⟨some 45,none,⟨[18],[]⟩,.ld false (some 42) 0 0 (.t 44)⟩,m_ 46 0,n_ 47 46,f_ 48 47 0,f_ 49 48 0,f_ 50 49 1,⟨some 51,none,⟨[18],[]⟩,.ld false none 0 0 (.t 50)⟩,m_ 52 1,i_ 53 51 52 1,⟨some 54,none,⟨[18],[]⟩,.ld true none 0 0 (.t 53)⟩,o_ 8 (.alloc 18 [y_,nilSV,y_,y_,y_,y_,y_,y_,y_,y_,y_,y_,y_,y_,y_,y_,y_,y_,y_,y_,y_,y_,y_,y_,y_,y_,y_,y_,y_,y_,y_,y_,y_,y_,.int .u64 0,.int .u64 0,nilSV,y_,.int .u64 0,y_,.bool false,.bool false]),⟨none,none,⟨[],[18]⟩,.sto false 42 .i64 (.t 8) (.t 45)⟩,m_ 9 54] [42,43,44,45,46,47,48,49,50,51,52,53,54]) (.seq (r_ [m_ 55 0,n_ 56 55,f_ 57 56 0,m_ 58 1,m_ 59 6,m_ 60 7,o_ 61 (.call none 19 82 [.t 57,.t 58,.t 59,.t 60])] [7,55,56,57,58,59,60,61]) (.seq (.block 1 (.loop b40_1)) (r40_2)))))))
def kp40_1:List Nat:=[0,1,6,8,9]
def kl40_1:List Nat:=[23,24,25,26,27,28,29,30,31,32,33,34]
attribute [push_cast] kp40_1 kl40_1
set_option maxRecDepth 4000 in
theorem comp40:(Try.f40.body.bind fun c=>compC tab isP chkAll ir40 c)=some ir40:=by kernel_rfl
theorem setsL_q2 (a b:SV) (z r:List SV) (h:z.length=r.length+32):setsL (a::b::z) 2 (qsV++r)=a::b::(qsV++r):=by
 have:=setsL_at (qsV++r) [a,b] z (by rw[h,lenq])
 simpa using this
attribute [push_cast] setsL_q2
theorem set_self {xs:List Int} {i:Int} (h0:0<=i) (h1:i<xs.length):xs.set i.toNat (rd xs i)=xs:=by
 obtain⟨k,rfl⟩:∃ k:Nat,i=k:=⟨i.toNat,by omega⟩
 rw[Int.toNat_natCast,rd_lt xs k (by omega),List.set_getElem_self]
def vN (code:List Int):Nat->Int
 | 0=>0
 | k+1=>shiftV code k (vN code k)
theorem shiftV_bd {code:List Int} (h:byAll code) {i v:Int} (h0:0<=i):0<=shiftV code i v/\shiftV code i v<4294967296:=by
 have:=bytA_bd h h0
 unfold shiftV
 omega
theorem vN_bd {code:List Int} (h:byAll code):∀ k,0<=vN code k/\vN code k<4294967296
 | 0=>by simp[vN]
 | k+1=>shiftV_bd h (by omega)
def deK (kind:Int) (st code:List Int) (k:Nat):DeS:=⟨kind,st,0,4294967295,code,k,vN code k,beyP code k,false⟩
def newDe (kind:Int) (st code:List Int):DeS:=⟨kind,st,0,4294967295,code,4,vN code 4,beyP code 4,false⟩
structure NdA where
 L:Xf.Loc
 kind:Int
 st:List Int
 LB:Xf.Loc
 code:List Int
def invNd:List SV->Look->Option (NdA×List Nat)
 | [.agg [.int .i64 kind,.sl c _ 1 0 _],.sl d _ 1 0 _],look=>match rowI (look c),rowO look d with
  | some (L,.i64,st),some (LB,code)=>some (⟨L,kind,st,LB,code⟩,[c,d])
  | _,_=>none
 | _,_=>none
attribute [push_cast] invNd
def fs38:FS where
 A:=NdA
 args:=fun a=>[.agg [.int .i64 a.kind,.sl 0 a.L 1 0 a.st.length],.sl 1 a.LB 1 0 a.code.length]
 mem:=fun a=>[some (.ro,a.L,.ints .i64 a.st),some (.ro,a.LB,.ints .u8 a.code)]
 pre:=fun a=>mdOk a.kind a.st/\a.code.length<=140737488355328/\byAll a.code
 res:=fun a x=>.tup [.ptr 4 (x 2) 0 0 0,.int .i64 0]
 out:=fun _ _=>[]
 new:=fun a x=>[(x 0,.ints .i64 a.st),(x 1,.ints .u8 a.code),(x 2,.cells (relabs (fun i=>i+1) (deV (x 0) (newDe a.kind a.st a.code) (x 1))))]
set_option maxRecDepth 8000 in
set_option maxHeartbeats 1000000 in
theorem ok38:FSOk Try.prog 38 fs38:=by
 refine⟨⟨_,Try.func38,by kernel_rfl,by kernel_rfl⟩,fun a=>⟨by simp[fs38,push_cast,noMine,argOwn,Chunk.frArg],by simp[fs38,push_cast,outOk,Chunk.ext],fun x=>.inl (by simp[fs38,push_cast,frNew,frOut,Chunk.fr])⟩,fun a hp=>?_⟩
 obtain⟨L,kind,st,LB,code⟩:=a
 obtain⟨hp',hc,hby⟩:mdOk kind st/\code.length<=140737488355328/\byAll code:=hp
 have hl:st.length<=1000000:=by have:=hp'.2;omega
 change Tri Try.prog 38 [.agg [.int .i64 kind,.sl 0 L 1 0 st.length],.sl 1 LB 1 0 code.length] [some (.ro,L,.ints .i64 st),some (.ro,LB,.ints .u8 code)] (postF fs38 ⟨L,kind,st,LB,code⟩)
 refine tri_evS (hyp (l:=[(72,ent72),(73,ent73),(87,ent87)]) (lp:=[]) ⟨e72,e73,e87,trivial⟩ trivial) Try.func38 comp38 (rs:=[.tmp 4,.tmp 5]) (by rfl) Try.ntmps38 26 ?_
 simp -implicitDefEqProofs only[push_cast,zz,seval,ir38,fs72,fs73,mdM,ivV,qsV,hp',hl]
 intro X
 repeat refine om_ ?_
 intro X1
 repeat refine om_ ?_
 refine evS_loopU (A:=Nat) kp38_1 kl38_1 (fun k=>[(17,.int .i64 k)]) (fun k=>[(21,.mine,X1 6 21,.cells (relabs (fun i=>bif i==1 then 15 else 20) (deV (X1 1 15) (deK kind st code k) (X1 4 20))))])
  (fun k=>k<=4) (fun k=>4-k) 0 (Nat.zero_le _) (Sub.pt ?_) ?_
 ·have e0:beyP code 0=0:=by unfold beyP;omega
  simp -implicitDefEqProofs only[push_cast,zz,seval,deV,deT,deK,ivV,qsV,vN,e0]
 intro k hk K hK
 have hk:k<=4:=hk
 by_cases hk':k<4
 ·have hki:(k:Int)<4:=by omega
  have hin:inOk code k (vN code k) (beyP code k):=⟨hc,hby,by omega,by omega,(vN_bd hby k).1,(vN_bd hby k).2,rfl⟩
  have e1:shiftV code k (vN code k)=vN code (k+1):=rfl
  simp -implicitDefEqProofs only[push_cast,zz,seval,b38_1,deV,deT,deK,ivV,fs87,hki,hin,e1]
  repeat refine om_ ?_
  refine hK (k+1) (show k+1<=4 by omega) (show 4-(k+1)<4-k by omega) _ _ (Sub.pt ?_)
  simp -implicitDefEqProofs only[push_cast,zz,seval,deV,deT,deK,ivV]
 ·have hk2:k=4:=by omega
  have hki:¬ (k:Int)<4:=by omega
  clear hK
  simp -implicitDefEqProofs only[push_cast,zz,seval,b38_1,deV,deT,deK,ivV,hki,r38_2]
  refine postF.mk' (fun j=>if j=0 then X1 1 15 else if j=1 then X1 4 20 else X1 6 21) [some 0,some 1,some 15,some 20,some 21] ?_
  have e1:(k:Int)=4:=by omega
  have e2:vN code k=vN code 4:=by rw[hk2]
  simp -implicitDefEqProofs only[push_cast,zz,seval,fs38,deV,deT,deK,ivV,newDe,e1,e2]
def ent38:Entry:=spOf fs38 invNd
theorem e38:EntryOk Try.prog 38 ent38:=entry_of ok38 invNd
@[push_cast] theorem ent38_app (us:List SV) (look:Look) (x:Nat->Xf.Loc) (k:Nat):ent38 us look x k=spOf fs38 invNd us look x k:=rfl
def normD (code:List Int):Nat->Int->Int->Int->Int->Int×Int×Int×Int
 | 0,l,g,i,v=>(l,g,i,v)
 | n+1,l,g,i,v=>if l / 16777216=g / 16777216 then normD code n (l % 16777216*256) (g % 16777216*256+255) (i+1) (shiftV code i v)else (l,g,i,v)
theorem normD_no (code:List Int) (n:Nat) {l g i v:Int} (e:¬ l / 16777216=g / 16777216):normD code n l g i v=(l,g,i,v):=by
 cases n with
 | zero=>rfl
 | succ n=>rw[normD,if_neg e]
theorem normD_norm (code:List Int):∀ (n:Nat) (l g i v:Int),(normD code n l g i v).1=(normP n l g).2.1/\(normD code n l g i v).2.1=(normP n l g).2.2/\(normD code n l g i v).2.2.1=i+(normP n l g).1.length
 | 0,l,g,i,v=>by simp[normD,normP]
 | n+1,l,g,i,v=>by
  rw[normD,normP]
  split
  ·have:=normD_norm code n (l % 16777216*256) (g % 16777216*256+255) (i+1) (shiftV code i v)
   refine⟨this.1,this.2.1,?_⟩
   rw[this.2.2]
   simp only[List.length_cons]
   omega
  ·simp
theorem normD_val {code:List Int} (h:byAll code):∀ (n:Nat) (l g i v:Int),0<=i->0<=v->v<4294967296->0<=(normD code n l g i v).2.2.2/\(normD code n l g i v).2.2.2<4294967296
 | 0,l,g,i,v,_,h0,h1=>⟨h0,h1⟩
 | n+1,l,g,i,v,hi,h0,h1=>by
  rw[normD]
  split
  ·exact normD_val h n _ _ _ _ (by omega) (shiftV_bd h hi).1 (shiftV_bd h hi).2
  ·exact⟨h0,h1⟩
def DeS.ok (d:DeS):Prop:=ivOk2 d.kind d.st d.low d.high/\inOk d.code d.at_ d.value d.beyond/\d.at_<=d.code.length+4
def bitD (d:DeS) (ctx:Int):Int:=if d.value<=midP d.low d.high (chP d.kind (rd d.st ctx))then 1 else 0
def runD (d:DeS) (ctx:Int):Int×Int×Int×Int:=normD d.code 4 (lowP d.kind d.st d.low d.high ctx (bitD d ctx)) (highP d.kind d.st d.low d.high ctx (bitD d ctx)) d.at_ d.value
def gotE (d:DeS) (ctx:Int):Int:=if d.ended then 6 else if 4<beyP d.code (runD d ctx).2.2.1 then 6 else 0
def gotB (d:DeS) (ctx:Int):Int:=if gotE d ctx=0 then bitD d ctx else 0
def gotS (d:DeS) (ctx:Int):DeS:=
 if gotE d ctx=0 then ⟨d.kind,d.st.set ctx.toNat (nxP d.kind (rd d.st ctx) (bitD d ctx)),(runD d ctx).1,(runD d ctx).2.1,d.code,(runD d ctx).2.2.1,(runD d ctx).2.2.2,beyP d.code (runD d ctx).2.2.1,false⟩
 else ⟨d.kind,d.st,d.low,d.high,d.code,d.at_,d.value,d.beyond,true⟩
theorem bitD_01 (d:DeS) (ctx:Int):bitD d ctx=0∨bitD d ctx=1:=by unfold bitD;split<;>simp
theorem gotS_ok {d:DeS} {ctx:Int} (H:d.ok) (h0:0<=ctx) (h1:ctx<d.st.length):(gotS d ctx).ok/\(gotS d ctx).st.length=d.st.length/\(gotS d ctx).kind=d.kind/\(gotS d ctx).code=d.code:=by
 obtain⟨a,b,c⟩:=H
 unfold gotS
 split
 ·rename_i he
  have hnr:=nrm_part (bit:=bitD d ctx) a h0 h1
  have hn:=norm_bd 4 hnr
  obtain⟨n1,n2,n3⟩:=normD_norm d.code 4 (lowP d.kind d.st d.low d.high ctx (bitD d ctx)) (highP d.kind d.st d.low d.high ctx (bitD d ctx)) d.at_ d.value
  obtain⟨a1,a2,a3,a4,a5,a6⟩:=a
  obtain⟨b1,b2,b3,b4,b5,b6,b7⟩:=b
  have hv:=normD_val b2 4 (lowP d.kind d.st d.low d.high ctx (bitD d ctx)) (highP d.kind d.st d.low d.high ctx (bitD d ctx)) d.at_ d.value b3 b5 b6
  have hbey:beyP d.code (runD d ctx).2.2.1<=4:=by
   unfold gotE at he
   split at he
   ·cases he
   ·split at he
    ·cases he
    ·omega
  unfold DeS.ok ivOk2 inOk
  simp only[List.length_set]
  unfold runD at hbey ⊢
  rw[n1,n2]
  have:(normD d.code 4 (lowP d.kind d.st d.low d.high ctx (bitD d ctx)) (highP d.kind d.st d.low d.high ctx (bitD d ctx)) d.at_ d.value).2.2.1-d.code.length<=4:=by unfold beyP at hbey;omega
  refine⟨⟨⟨a1.set (nxP_ok (a1.at h0 h1) (bitD_01 d ctx)),a2,hn.2⟩,⟨b1,b2,by omega,by omega,hv.1,hv.2,trivial⟩,by omega⟩,trivial,trivial,trivial⟩
 ·exact⟨⟨a,b,c⟩,rfl,rfl,rfl⟩
def fs40:FS where
 A:=DeA
 args:=fun a=>[.ptr 0 a.L 0 0 0,.int .i64 a.ctx]
 mem:=fun a=>[some (.lent,a.L,.cells (deV a.LS a.d a.LC)),some (.lent,a.LS,.ints .i64 a.d.st),some (.ro,a.LC,.ints .u8 a.d.code)]
 pre:=fun a=>a.d.ok/\0<=a.ctx/\a.ctx<a.d.st.length
 res:=fun a _=>.tup [.int .i64 (gotB a.d a.ctx),.int .i64 (gotE a.d a.ctx)]
 out:=fun a x=>[some (some (.cells (deV a.LS (gotS a.d a.ctx) a.LC))),some (some (.ints .i64 (gotS a.d a.ctx).st))]
 new:=fun a x=>[]
theorem gotS_len (d:DeS) (ctx:Int):(gotS d ctx).st.length=d.st.length/\(gotS d ctx).code=d.code/\(gotS d ctx).kind=d.kind:=by
 unfold gotS;split<;>simp
set_option maxHeartbeats 2000000 in
theorem ok40:FSOk Try.prog 40 fs40:=by
 refine⟨⟨_,Try.func40,by kernel_rfl,by kernel_rfl⟩,fun a=>⟨by simp[fs40,deV,deT,ivV,gotS_len,push_cast,noMine,argOwn,Chunk.frArg],by simp[fs40,deV,deT,ivV,gotS_len,push_cast,outOk,Chunk.ext],fun x=>.inl (by simp[fs40,deV,deT,ivV,gotS_len,push_cast,frNew,frOut,Chunk.fr])⟩,fun a hp=>?_⟩
 obtain⟨L,LS,LC,⟨kind,st,low,high,code,i,v,b,en⟩,ctx⟩:=a
 obtain⟨⟨hiv,hin,hat⟩,h2,h3⟩:(ivOk2 kind st low high/\inOk code i v b/\i<=code.length+4)/\0<=ctx/\ctx<st.length:=hp
 obtain⟨b1,b2,b3,b4,b5,b6,b7⟩:=id hin
 change Tri Try.prog 40 [.ptr 0 L 0 0 0,.int .i64 ctx] [some (.lent,L,.cells (deV LS ⟨kind,st,low,high,code,i,v,b,en⟩ LC)),some (.lent,LS,.ints .i64 st),some (.ro,LC,.ints .u8 code)] (postF fs40 ⟨L,LS,LC,⟨kind,st,low,high,code,i,v,b,en⟩,ctx⟩)
 refine tri_evS (hyp (l:=[(88,ent88),(83,ent83),(82,ent82),(84,ent84),(85,ent85),(87,ent87)]) (lp:=[]) ⟨e88,e83,e82,e84,e85,e87,trivial⟩ trivial) Try.func40 comp40 (rs:=[.tmp 4,.tmp 5]) (by rfl) Try.ntmps40 35 ?_
 have c1:¬ ctx<0:=by omega
 have c2:¬ (st.length:Int)<=ctx:=by omega
 have hok:(stsOk kind st/\st.length<=1000000/\0<=low/\low<high/\high<4294967296):=⟨hiv.1,hiv.2.1,hiv.2.2.1,hiv.2.2.2.1,hiv.2.2.2.2.1⟩
 cases en with
 | true=>
  have e1:gotE ⟨kind,st,low,high,code,i,v,b,true⟩ ctx=6:=rfl
  have e2:gotB ⟨kind,st,low,high,code,i,v,b,true⟩ ctx=0:=rfl
  have e3:gotS ⟨kind,st,low,high,code,i,v,b,true⟩ ctx=⟨kind,st,low,high,code,i,v,b,true⟩:=rfl
  simp -implicitDefEqProofs only[push_cast,zz,seval,ir40,deV,deT,ivV,fs88,deM,c1,c2]
  refine postF.mk' (fun _=>default) [some 0,some 1,some 2] ?_
  simp -implicitDefEqProofs only[push_cast,zz,seval,fs40,deV,deT,ivV,e1,e2,e3]
 | false=>
  obtain⟨m,hm⟩:∃ m,midP low high (chP kind (rd st ctx))=m:=⟨_,rfl⟩
  obtain⟨bit,hbit⟩:∃ x,bitD ⟨kind,st,low,high,code,i,v,b,false⟩ ctx=x:=⟨_,rfl⟩
  have hb01:bit=0∨bit=1:=by rw[<-hbit];exact bitD_01 _ _
  have hbv:bit=if v<=m then 1 else 0:=by rw[<-hbit,<-hm];rfl
  have hn:=nrm_part (bit:=bit) hiv h2 h3
  obtain⟨r,hr⟩:∃ r,runD ⟨kind,st,low,high,code,i,v,b,false⟩ ctx=r:=⟨_,rfl⟩
  have hr':normD code 4 (lowP kind st low high ctx bit) (highP kind st low high ctx bit) i v=r:=by rw[<-hr,<-hbit];rfl
  have hlo:(if bit=1 then low else m+1)=lowP kind st low high ctx bit:=by rw[<-hm];rfl
  have hhi:(if bit=1 then m else high)=highP kind st low high ctx bit:=by rw[<-hm];rfl
  have hd0:(⟨kind,st,low,high,code,i,v,b,false⟩:DeS).ended=false:=rfl
  have hgE:gotE ⟨kind,st,low,high,code,i,v,b,false⟩ ctx=if 4<beyP code r.2.2.1 then 6 else 0:=by
   unfold gotE
   rw[hd0,if_neg (by decide),hr]
  have main:∀ (l0 g0:Int) (M:Xf.Loc),nrm 4 l0 g0->normD code 4 l0 g0 i v=r->evS (spList [(88,ent88),(83,ent83),(82,ent82),(84,ent84),(85,ent85),(87,ent87)]) (spPList [])
    (retK [RV.tmp 4,RV.tmp 5] (postF fs40 ⟨L,LS,LC,⟨kind,st,low,high,code,i,v,b,false⟩,ctx⟩)) [Xf.Item.code (IR.loop b40_1),Xf.Item.blk 1,Xf.Item.code r40_2]
    (upS (List.replicate 93 none) [(0,.ptr 0 L 0 0 0),(1,.int .i64 ctx),(6,.int .i64 bit),(8,.ptr 18 M 0 0 0),(9,.int .i64 (rd st ctx))])
    ([some (.lent,L,.cells (ivV kind LS st.length l0 g0 (.sl 2 LC 1 0 code.length::[.int .i64 i,.int .u64 v,.int .i64 b,.bool false,.bool true]))),some (.lent,LS,.ints .i64 (st.set ctx.toNat (nxP kind (rd st ctx) bit))),some (.ro,LC,.ints .u8 code),
     none,none,none,none,none,none,none,none,none,none,none,none,none,none,none,some (.mine,M,.cells (ivV kind LS st.length low high (.sl 2 LC 1 0 code.length::[.int .i64 i,.int .u64 v,.int .i64 b,.bool false,.bool true])))]++List.replicate 19 none):=by
   intro l0 g0 M hn hr'
   obtain⟨s0,hs0⟩:∃ s,rd st ctx=s:=⟨_,rfl⟩
   have hsl:(st.set ctx.toNat (nxP kind s0 bit)).length=st.length:=List.length_set
   have hback:(st.set ctx.toNat (nxP kind s0 bit)).set ctx.toNat s0=st:=by
    rw[List.set_set,<-hs0]
    exact set_self h2 h3
   have hS:gotS ⟨kind,st,low,high,code,i,v,b,false⟩ ctx=if gotE ⟨kind,st,low,high,code,i,v,b,false⟩ ctx=0 then ⟨kind,st.set ctx.toNat (nxP kind s0 bit),r.1,r.2.1,code,r.2.2.1,r.2.2.2,beyP code r.2.2.1,false⟩else ⟨kind,st,low,high,code,i,v,b,true⟩:=by
    unfold gotS
    rw[hr,hbit,<-hs0]
   have hB:gotB ⟨kind,st,low,high,code,i,v,b,false⟩ ctx=if gotE ⟨kind,st,low,high,code,i,v,b,false⟩ ctx=0 then bit else 0:=by
    unfold gotB
    rw[hbit]
   rw[hs0]
   obtain⟨S,hSS⟩:∃ S,st.set ctx.toNat (nxP kind s0 bit)=S:=⟨_,rfl⟩
   rw[hSS]at hsl hback hS ⊢
   refine evS_loopU (A:=Nat×Int×Int×Int×Int) kp40_1 kl40_1 (fun y=>[]) (fun y=>[(0,.lent,L,.cells (ivV kind LS st.length y.2.1 y.2.2.1 (.sl 2 LC 1 0 code.length::[.int .i64 y.2.2.2.1,.int .u64 y.2.2.2.2,.int .i64 (beyP code y.2.2.2.1),.bool false,.bool true])))])
    (fun y=>nrm y.1 y.2.1 y.2.2.1/\normD code y.1 y.2.1 y.2.2.1 y.2.2.2.1 y.2.2.2.2=r/\0<=y.2.2.2.1/\y.2.2.2.1+y.1<=code.length+8/\0<=y.2.2.2.2/\y.2.2.2.2<4294967296) (fun y=>y.1) (4,l0,g0,i,v) ⟨hn,hr',b3,by simp only;omega,b5,b6⟩ (Sub.pt ?_) ?_
   ·simp -implicitDefEqProofs only[push_cast,zz,seval,ivV,b7]
   intro ⟨n,l,g,i',v'⟩ ⟨(hn:nrm n l g),(he:normD code n l g i' v'=r),(hi0:0<=i'),(hi1:i'+n<=code.length+8),(hv0:0<=v'),(hv1:v'<4294967296)⟩ K hK
   obtain⟨n0,n1,n2,n3,n4,n5⟩:=id hn
   by_cases e:l / 16777216=g / 16777216
   ·cases n with
    | zero=>exact absurd e (nrm_0 hn)
    | succ n=>
     have hs:=nrm_step hn e
     rw[normD,if_pos e]at he
     have hb:0<=l/\l<4294967296/\0<=g/\g<4294967296:=by omega
     have hin':inOk code i' v' (beyP code i'):=⟨b1,b2,hi0,by omega,hv0,hv1,rfl⟩
     have hsv:=shiftV_bd (v:=v') b2 hi0
     simp -implicitDefEqProofs only[push_cast,zz,seval,b40_1,ivV,deV,deT,fs84,fs85,fs87,e,hb,hsl,hin']
     repeat refine om_ ?_
     refine hK (n,l % 16777216*256,g % 16777216*256+255,i'+1,shiftV code i' v') ⟨hs,he,by simp only;omega,by simp only;omega,hsv⟩ (Nat.lt_succ_self n) _ _ (Sub.pt ?_)
     simp -implicitDefEqProofs only[push_cast,zz,seval,ivV]
   ·rw[normD_no code n e]at he
    subst he
    simp only at hgE hS hB
    clear hK
    by_cases hbe:4<beyP code i'
    ·rw[if_pos hbe]at hgE
     rw[hgE,if_neg (by decide)]at hS hB
     simp -implicitDefEqProofs only[push_cast,zz,seval,b40_1,r40_2,ivV,fs84,e,hsl,hbe,hback]
     repeat refine om_ ?_
     refine postF.mk' (fun _=>default) [some 0,some 1,some 2] ?_
     simp -implicitDefEqProofs only[push_cast,zz,seval,fs40,deV,deT,ivV,hgE,hS,hB]
    ·rw[if_neg hbe]at hgE
     rw[hgE,if_pos rfl]at hS hB
     simp -implicitDefEqProofs only[push_cast,zz,seval,b40_1,r40_2,ivV,fs84,e,hsl,hbe]
     repeat refine om_ ?_
     refine postF.mk' (fun _=>default) [some 0,some 1,some 2] ?_
     simp -implicitDefEqProofs only[push_cast,zz,seval,fs40,deV,deT,ivV,hgE,hS,hB,hsl]
  by_cases hv:v<=m
  ·rw[if_pos hv]at hbv
   subst hbv
   rw[if_pos rfl]at hlo hhi
   simp -implicitDefEqProofs only[push_cast,zz,seval,ir40,deV,deT,ivV,fs88,fs83,fs82,deM,IvA.ok,hok,c1,c2,h2,h3,hm,hv]
   intro X
   rw[<-hlo,<-hhi]at hr' hn
   exact main _ _ _ hn hr'
  ·rw[if_neg hv]at hbv
   subst hbv
   rw[if_neg (by decide)]at hlo hhi
   simp -implicitDefEqProofs only[push_cast,zz,seval,ir40,deV,deT,ivV,fs88,fs83,fs82,deM,IvA.ok,hok,c1,c2,h2,h3,hm,hv]
   intro X
   rw[<-hlo,<-hhi]at hr' hn
   exact main _ _ _ hn hr'
def ent40:Entry:=spOf fs40 invDe
theorem e40:EntryOk Try.prog 40 ent40:=entry_of ok40 invDe
@[push_cast] theorem ent40_app (us:List SV) (look:Look) (x:Nat->Xf.Loc) (k:Nat):ent40 us look x k=spOf fs40 invDe us look x k:=rfl
def ir68:IR:=
 .seq (r_ [o_ 4 (.alloc 10 [y_,nilSV]),z_ 5 0] [5]) (.seq (.seq (r_ [m_ 6 0,c_ 7 .neq 6 0,m_ 8 7,p_ 8 (m_ 9 0),p_ 8 (c_ 10 .neq 9 1),K_ 11 8 10,m_ 12 11,q_ 12 (m_ 13 1),q_ 12 (c_ 14 .lss 13 0),k_ 15 12 14,m_ 16 15,q_ 16 (m_ 17 1),q_ 16 (c_ 18 .gtr 17 8192),k_ 19 16 18] [6,7,8,9,10,11,12,13,14,15,16,17,18]) (.cond (.t 19) (.seq (r_ [o_ 20 (.build [y_,nilSV] []),s_ 2 .i64 4 20,z_ 5 2] [0,1,19,20]) (.ret)) (.skip))) (.seq (r_ [m_ 21 0,m_ 22 1,o_ 23 (.mks 11 (.int .i64 0) 8 (.t 22) (.t 22)),o_ 24 (.build [y_,nilSV] [(0,1,.t 21),(1,1,.t 23)]),s_ 2 .i64 4 24,z_ 5 0] [0,1,19,21,22,23,24]) (.ret)))
set_option maxRecDepth 4000 in
theorem comp68:(Try.f68.body.bind fun c=>compC tab isP chkAll ir68 c)=some ir68:=by kernel_rfl
def b107_1:IR:=
 .seq (r_ [b_ 9 .lss 8 7] []) (.seq (.cond (.t 9) (.skip) (.exit 0)) (.seq (.block 1 (.seq (r_ [m_ 10 8,m_ 5 10] [9,10]) (.seq (R_ [f_ 11 3 1,l_ 12 11,c_ 13 .neq 12 0,m_ 14 13,p_ 14 (m_ 15 0),p_ 14 (m_ 16 5),p_ 14 (i_ 17 15 16 9),p_ 14 (f_ 18 17 0),p_ 14 (f_ 19 18 1),p_ 14 (L_ 20 19),p_ 14 (f_ 21 3 1),p_ 14 (l_ 22 21),p_ 14 (b_ 23 .eql 20 22),K_ 24 14 23,m_ 25 24,p_ 25 (m_ 26 0),p_ 25 (m_ 27 5),p_ 25 (i_ 28 26 27 9),p_ 25 (f_ 29 28 0),p_ 25 (f_ 30 29 0),p_ 25 (L_ 31 30),p_ 25 (f_ 32 3 0),p_ 25 (l_ 33 32),p_ 25 (a_ 34 33 1),p_ 25 (b_ 35 .eql 31 34),K_ 36 25 35] [11,12,13,14,15,16,17,18,19,20,21,22,23,24,25,26,27,28,29,30,31,32,33,34,35]) (.cond (.t 36) (.seq (r_ [m_ 37 0,m_ 38 5,i_ 39 37 38 9,m_ 4 39] [0,3,5,7,8,36,37,38,39]) (.ret)) (.skip))))) (r_ [a_ 40 8 1,m_ 8 40] [4,5,36,40])))
def r107_2:IR:=
 .seq (r_ [o_ 4 (.mov (.k nilP))] [0,3,7,8]) (.ret)
def ir107:IR:=
 .seq (r_ [o_ 3 (.box 10 (.t 1)),o_ 4 (.mov (.k nilP))] [1,4]) (.seq (.seq (r_ [m_ 6 0,h_ 7 6,z_ 8 0] [6]) (.block 0 (.loop b107_1))) (r107_2))
def kp107_1:List Nat:=[0,3,7,8]
def kl107_1:List Nat:=[]
attribute [push_cast] kp107_1 kl107_1
set_option maxRecDepth 4000 in
theorem comp107:(Try.f107.body.bind fun c=>compC tab isP chkAll ir107 c)=some ir107:=by kernel_rfl
def fs68:FS where
 A:=BnA
 args:=fun a=>[.int .i64 a.w,.int .i64 a.h]
 mem:=fun _=>[]
 pre:=fun a=>(a.w=0∨a.w=1)/\0<=a.h/\a.h<=8192
 res:=fun a x=>.tup [.agg [.int .i64 a.w,.sl 0 (x 0) 1 0 a.h],.int .i64 0]
 out:=fun _ _=>[]
 new:=fun a x=>[(x 0,.ints .i64 (List.replicate a.h.toNat 0))]
def inv68:List SV->Look->Option (BnA×List Nat)
 | [.int .i64 w,.int .i64 h],look=>some (⟨w,h,0⟩,[])
 | _,_=>none
attribute [push_cast] inv68
theorem ok68:FSOk Try.prog 68 fs68:=by
 refine⟨⟨_,Try.func68,by kernel_rfl,by kernel_rfl⟩,fun a=>⟨by simp[fs68,push_cast,noMine,argOwn,Chunk.frArg],by simp[fs68,push_cast,outOk,Chunk.ext],fun x=>.inl (by simp[fs68,push_cast,frNew,frOut,Chunk.fr])⟩,fun a hp=>?_⟩
 obtain⟨w,h,n⟩:=a
 obtain⟨h1,h2,h3⟩:(w=0∨w=1)/\0<=h/\h<=8192:=hp
 have c1:¬ (¬ w=0/\¬ w=1):=by omega
 have c2:¬ h<0:=by omega
 have c3:¬ 8192<h:=by omega
 change Tri Try.prog 68 [.int .i64 w,.int .i64 h] [] (postF fs68 ⟨w,h,n⟩)
 refine tri_evS (hyp (l:=[]) (lp:=[]) trivial trivial) Try.func68 comp68 (rs:=[.cell 4 (some 2),.tmp 5]) (by rfl) Try.ntmps68 12 ?_
 simp -implicitDefEqProofs only[push_cast,zz,seval,ir68,c1,c2,c3]
 intro X X1
 repeat refine om_ ?_
 refine postF.mk' (fun _=>X1 2 11) [some 11] ?_
 simp -implicitDefEqProofs only[push_cast,zz,seval,fs68]
def ent68:Entry:=spOf fs68 inv68
theorem e68:EntryOk Try.prog 68 ent68:=entry_of ok68 inv68
@[push_cast] theorem ent68_app (us:List SV) (look:Look) (x:Nat->Xf.Loc) (k:Nat):ent68 us look x k=spOf fs68 inv68 us look x k:=rfl
structure Pb where
 places:List Int
 w:Int
 parent:Int
 deriving Inhabited
structure Gr where
 band:Bd
 frm:Nat
 deriving Inhabited
def colsB (b:Bd):Int:=(b.w+4-1) / 4
def rowsB (b:Bd):Int:=(b.h+4-1) / 4
def Gr.rc (g:Gr):List RC:=[.int .i64 g.band.lv,.int .i64 g.band.kd,.int .i64 g.band.x,.int .i64 g.band.y,.int .i64 g.band.w,.int .i64 g.band.h,.int .i64 g.frm,.int .i64 (colsB g.band),.int .i64 (rowsB g.band)]
def rdGr (l:List Gr) (i:Nat):Gr:=l.getD i default
theorem recAt_Gr {l:List Gr} {i:Nat} (h:i<l.length) (z:List RC):recAt (i:Int) z (l.map Gr.rc)=(rdGr l i).rc:=by
 simp[recAt,rdGr,h]
theorem rdGr_nat {l:List Gr} {i:Nat} (h:i<l.length):rdGr l i=l[i]:=by simp[rdGr,h]
def getGr:List (List RC)->Option (List Gr)
 | []=>some []
 | [.int .i64 lv,.int .i64 kd,.int .i64 x,.int .i64 y,.int .i64 w,.int .i64 h,.int .i64 f,_,_]::l=>match getGr l with | some r=>some (⟨⟨lv,kd,x,y,w,h⟩,f.toNat⟩::r) | none=>none
 | _=>none
theorem getGr_map:∀ l:List Gr,getGr (l.map Gr.rc)=some l
 | []=>rfl
 | g::l=>by
  simp only[List.map_cons,Gr.rc,getGr]
  have:=getGr_map l
  rw[this]
  simp
def hitG (g:Gr) (b:Bd):Prop:=b.kd≠0/\g.band.kd=b.kd/\g.band.lv=b.lv+1
instance hitG_dec (g:Gr) (b:Bd):Decidable (hitG g b):=by unfold hitG;infer_instance
def findG (gs:List Gr) (b:Bd):Option Nat:=gs.findIdx? fun g=>decide (hitG g b)
theorem findG_some {gs:List Gr} {b:Bd} {i:Nat} (hi:i<gs.length) (h:hitG (rdGr gs i) b) (hj:∀ j,j<i->¬ hitG (rdGr gs j) b):findG gs b=some i:=by
 unfold findG
 rw[List.findIdx?_eq_some_iff_getElem]
 refine⟨hi,by rw[<-rdGr_nat hi];simpa using h,fun j hji=>?_⟩
 have:=hj j hji
 rw[rdGr_nat (by omega)]at this
 simpa using this
theorem findG_none {gs:List Gr} {b:Bd} (hj:∀ j,j<gs.length->¬ hitG (rdGr gs j) b):findG gs b=none:=by
 unfold findG
 rw[List.findIdx?_eq_none_iff]
 intro g hg
 obtain⟨j,hjl,rfl⟩:=List.mem_iff_getElem.1 hg
 have:=hj j hjl
 rw[rdGr_nat hjl]at this
 simpa using this
theorem findG_lt {gs:List Gr} {b:Bd} {i:Nat} (h:findG gs b=some i):i<gs.length:=by
 unfold findG at h
 rw[List.findIdx?_eq_some_iff_getElem]at h
 exact h.1
structure PaA where
 L:Xf.Loc
 s:Nat
 gs:List Gr
 b:Bd
def ptrG (c:Nat) (L:Xf.Loc):Option Nat->SV
 | none=>.val (.pointer none)
 | some i=>.ptr c L (i:Nat) 9 0
def fs107:FS where
 A:=PaA
 args:=fun a=>[.sl 0 a.L a.s 0 a.gs.length,a.b.sv]
 mem:=fun a=>[some (.ro,a.L,.recs 9 false [] (a.gs.map Gr.rc))]
 pre:=fun a=>a.gs.length<=1000/\(0<a.gs.length->a.s=9)/\-1000<=a.b.lv/\a.b.lv<=1000
 res:=fun a _=>ptrG 0 a.L (findG a.gs a.b)
 out:=fun _ _=>[]
 new:=fun _ _=>[]
def rowG (look:Look) (d:Nat):Option (Xf.Loc×List Gr):=
 bif d==4096 then some (nilLoc,[])else match rowR (look d)with
  | some (L,9,_,r)=>match getGr r with | some l=>some (L,l) | none=>none
  | _=>none
def inv107:List SV->Look->Option (PaA×List Nat)
 | [.sl d _ s 0 _,.agg [.int .i64 lv,.int .i64 kd,.int .i64 x,.int .i64 y,.int .i64 w,.int .i64 h]],look=>match rowG look d with
  | some (L,gs)=>some (⟨L,s,gs,⟨lv,kd,x,y,w,h⟩⟩,[d])
  | none=>none
 | _,_=>none
attribute [push_cast] rowG inv107
theorem ok107:FSOk Try.prog 107 fs107:=by
 refine⟨⟨_,Try.func107,by kernel_rfl,by kernel_rfl⟩,fun a=>⟨by simp[fs107,push_cast,noMine,argOwn,Chunk.frArg],by simp[fs107,push_cast,outOk,Chunk.ext],fun x=>.inl (by simp[fs107,push_cast,frNew,frOut,Chunk.fr])⟩,fun a hp=>?_⟩
 obtain⟨L,s,gs,b⟩:=a
 obtain⟨h1,h2,h3,h4⟩:gs.length<=1000/\(0<gs.length->s=9)/\-1000<=b.lv/\b.lv<=1000:=hp
 change Tri Try.prog 107 [.sl 0 L s 0 gs.length,b.sv] [some (.ro,L,.recs 9 false [] (gs.map Gr.rc))] (postF fs107 ⟨L,s,gs,b⟩)
 have hf:=@findG_some gs b
 have hn:=@findG_none gs b
 have hhit:∀ g:Gr,hitG g b=(¬ b.kd=0/\g.band.kd=b.kd/\g.band.lv=b.lv+1):=fun g=>rfl
 obtain⟨F,hF⟩:∃ F,findG gs b=F:=⟨_,rfl⟩
 simp only[hF,hhit]at hf hn
 obtain⟨lv,kd,x,y,w,h⟩:=b
 simp only at h3 h4 hf hn
 refine tri_evS (hyp (l:=[]) (lp:=[]) trivial trivial) Try.func107 comp107 (rs:=[.tmp 4]) (by rfl) Try.ntmps107 11 ?_
 simp -implicitDefEqProofs only[push_cast,zz,seval,ir107]
 intro X
 refine evS_loopU (A:=Nat) kp107_1 kl107_1 (fun i=>[(8,.int .i64 i)]) (fun i=>[]) (fun i=>i<=gs.length/\∀ j,j<i->¬ (¬ kd=0/\(rdGr gs j).band.kd=kd/\(rdGr gs j).band.lv=lv+1)) (fun i=>gs.length-i) 0 ⟨Nat.zero_le _,fun j hj=>by omega⟩ (Sub.pt ?_) ?_
 ·simp -implicitDefEqProofs only[push_cast,zz,seval]
 intro i ⟨(hi:i<=gs.length),(hjj:∀ j,j<i->¬ (¬ kd=0/\(rdGr gs j).band.kd=kd/\(rdGr gs j).band.lv=lv+1))⟩ K hK
 by_cases hi':i<gs.length
 ·obtain rfl:=h2 (by omega)
  have r1:=recAt_Gr hi' []
  have hii:(i:Int)<gs.length:=by omega
  have hlm:(gs.map Gr.rc).length=gs.length:=List.length_map _
  have hfi:=hf hi'
  have hK2:=fun(hno:¬ (¬ kd=0/\(rdGr gs i).band.kd=kd/\(rdGr gs i).band.lv=lv+1))=>hK (i+1) ⟨show i+1<=gs.length by omega,fun j hj=>by
   by_cases e:j=i
   ·rw[e];exact hno
   ·exact hjj j (by omega)⟩ (show gs.length-(i+1)<gs.length-i by omega)
  clear hK
  obtain⟨⟨⟨lv',kd',x',y',w',h'⟩,fr⟩,hg⟩:∃ g,rdGr gs i=g:=⟨_,rfl⟩
  rw[hg]at r1 hfi hK2
  simp only at hfi hK2
  by_cases hk0:kd=0
  ·simp -implicitDefEqProofs only[push_cast,zz,seval,b107_1,r1,Gr.rc,hii,hlm,hk0]
   repeat refine om_ ?_
   refine hK2 (fun h=>h.1 hk0) _ _ (Sub.pt ?_)
   simp -implicitDefEqProofs only[push_cast,zz,seval,hk0]
  by_cases hk1:kd'=kd
  ·by_cases hk2:lv'=lv+1
   ·have hfi:=hfi ⟨hk0,hk1,hk2⟩ hjj
    simp -implicitDefEqProofs only[push_cast,zz,seval,b107_1,r1,Gr.rc,hii,hlm,hk0,hk1,hk2]
    repeat refine om_ ?_
    refine postF.mk' (fun _=>default) [some 0] ?_
    simp -implicitDefEqProofs only[push_cast,zz,seval,fs107,hF,hfi,ptrG]
   ·simp -implicitDefEqProofs only[push_cast,zz,seval,b107_1,r1,Gr.rc,hii,hlm,hk0,hk1,hk2]
    repeat refine om_ ?_
    refine hK2 (fun h=>hk2 h.2.2) _ _ (Sub.pt ?_)
    simp -implicitDefEqProofs only[push_cast,zz,seval]
  ·simp -implicitDefEqProofs only[push_cast,zz,seval,b107_1,r1,Gr.rc,hii,hlm,hk0,hk1]
   repeat refine om_ ?_
   refine hK2 (fun h=>hk1 h.2.1) _ _ (Sub.pt ?_)
   simp -implicitDefEqProofs only[push_cast,zz,seval]
 ·obtain rfl:i=gs.length:=by omega
  clear hK
  have hn:=hn hjj
  simp -implicitDefEqProofs only[push_cast,zz,seval,b107_1,r107_2,Int.lt_irrefl]
  refine postF.mk' (fun _=>default) [some 0] ?_
  simp -implicitDefEqProofs only[push_cast,zz,seval,fs107,hF,hn,ptrG]
def ent107:Entry:=spOf fs107 inv107
theorem e107:EntryOk Try.prog 107 ent107:=entry_of ok107 inv107
@[push_cast] theorem ent107_app (us:List SV) (look:Look) (x:Nat->Xf.Loc) (k:Nat):ent107 us look x k=spOf fs107 inv107 us look x k:=rfl
def b67_5:IR:=
 .seq (.seq (r_ [m_ 81 19,m_ 82 16,c_ 83 .mul 82 4,f_ 84 17 1,l_ 85 84,b_ 86 .add 83 85,b_ 87 .lss 81 86] [81,82,83,84,85,86]) (.cond (.t 87) (.skip) (.exit 8))) (.seq (.block 9 (r_ [f_ 90 17 0,l_ 91 90,f_ 92 12 3,l_ 93 92,m_ 94 18,b_ 95 .add 93 94,m_ 96 0,b_ 97 .mul 95 96,f_ 98 12 2,l_ 99 98,b_ 100 .add 97 99,m_ 101 19,b_ 102 .add 100 101,o_ 103 (.bslice 21 [.t 102]),o_ 104 (.app 22 1 8 (.t 91) (.t 103)),f_ 105 17 0,s_ 1 .i64 105 104] [87,90,91,92,93,94,95,96,97,98,99,100,101,102,103,104,105])) (r_ [m_ 88 19,a_ 89 88 1,m_ 19 89] [88,89]))
def r67_6:IR:=
 r_ [m_ 77 18,a_ 78 77 1,m_ 18 78] [19,77,78]
def b67_4:IR:=
 .seq (.seq (r_ [m_ 69 18,m_ 70 15,c_ 71 .mul 70 4,a_ 72 71 4,f_ 73 12 5,l_ 74 73,o_ 75 (.mn (.t 72) (.t 74)),b_ 76 .lss 69 75] [69,70,71,72,73,74,75]) (.cond (.t 76) (.skip) (.exit 6))) (.seq (.block 7 (.seq (r_ [m_ 79 16,c_ 80 .mul 79 4,m_ 19 80] [76,79,80]) (.block 8 (.loop b67_5)))) (r67_6))
def r67_7:IR:=
 .seq (.seq (r_ [m_ 106 14,o_ 107 (.binN .neq (.t 106) (.k nilP))] [18,106]) (.cond (.t 107) (R_ [m_ 108 14,n_ 109 108,f_ 110 109 6,L_ 111 110,m_ 112 15,c_ 113 .quo 112 2,m_ 114 14,n_ 115 114,f_ 116 115 8,L_ 117 116,c_ 118 .sub 117 1,o_ 119 (.mn (.t 113) (.t 118)),m_ 120 14,n_ 121 120,f_ 122 121 7,L_ 123 122,b_ 124 .mul 119 123,b_ 125 .add 111 124,m_ 126 16,c_ 127 .quo 126 2,m_ 128 14,n_ 129 128,f_ 130 129 7,L_ 131 130,c_ 132 .sub 131 1,o_ 133 (.mn (.t 127) (.t 132)),b_ 134 .add 125 133,f_ 135 17 2,s_ 1 .i64 135 134] [16,107,108,109,110,111,112,113,114,115,116,117,118,119,120,121,122,123,124,125,126,127,128,129,130,131,132,133,134,135]) (.skip))) (r_ [m_ 136 9,o_ 137 (.ld false (some 4) 0 0 (.t 17)),o_ 138 (.brecs 23 4 .i64 [.t 137]),o_ 139 (.app 24 4 48 (.t 136) (.t 138)),m_ 9 139] [16,17,107,136,137,138,139])
def r67_8:IR:=
 r_ [a_ 140 57 1,m_ 57 140] [140]
def b67_3:IR:=
 .seq (r_ [b_ 58 .lss 57 56] []) (.seq (.cond (.t 58) (.skip) (.exit 4)) (.seq (.block 5 (.seq (r_ [m_ 59 57,m_ 16 59] [58,59]) (.seq (r_ [f_ 60 12 4,l_ 61 60,m_ 62 16,c_ 63 .mul 62 4,b_ 64 .sub 61 63,o_ 65 (.mn (Z_ 4) (.t 64)),o_ 66 (.build [nilSV,y_,y_,.bool false] [(1,1,.t 65),(2,1,Z_ (-1))]),o_ 17 (.alloc 20 [nilSV,y_,y_,.bool false]),s_ 4 .i64 17 66] [60,61,62,63,64,65,66]) (.seq (.seq (r_ [m_ 67 15,c_ 68 .mul 67 4,m_ 18 68] [67,68]) (.block 6 (.loop b67_4))) (r67_7))))) (r67_8)))
def r67_9:IR:=
 r_ [a_ 141 52 1,m_ 52 141] [15,56,57,141]
def b67_2:IR:=
 .seq (r_ [b_ 53 .lss 52 51] []) (.seq (.cond (.t 53) (.skip) (.exit 2)) (.seq (.block 3 (.seq (r_ [m_ 54 52,m_ 15 54] [53,54]) (.seq (r_ [f_ 55 13 7,l_ 56 55,z_ 57 0] [55]) (.block 4 (.loop b67_3))))) (r67_9)))
def r67_10:IR:=
 r_ [m_ 142 10,o_ 143 (.ld false (some 9) 0 0 (.t 13)),o_ 144 (.brecs 25 9 .i64 [.t 143]),o_ 145 (.app 26 9 72 (.t 142) (.t 144)),m_ 10 145] [12,13,14,51,52,142,143,144,145]
def r67_11:IR:=
 r_ [a_ 146 29 1,m_ 29 146] [146]
def b67_1:IR:=
 .seq (r_ [b_ 30 .lss 29 28] []) (.seq (.cond (.t 30) (.skip) (.exit 0)) (.seq (.block 1 (.seq (r_ [i_ 31 27 29 6,o_ 32 (.ld true (some 6) 0 0 (.t 31)),o_ 12 (.alloc 14 [y_,y_,y_,y_,y_,y_]),s_ 6 .i64 12 32] [30,31,32]) (.seq (r_ [o_ 33 (.ld false (some 6) 0 0 (.t 12)),m_ 34 9,h_ 35 34,f_ 36 12 4,l_ 37 36,a_ 38 37 4,c_ 39 .sub 38 1,c_ 40 .quo 39 4,f_ 41 12 5,l_ 42 41,a_ 43 42 4,c_ 44 .sub 43 1,c_ 45 .quo 44 4,o_ 46 (.build [y_,y_,y_,y_,y_,y_,y_,y_,y_] [(0,6,.t 33),(6,1,.t 35),(7,1,.t 40),(8,1,.t 45)]),o_ 13 (.alloc 15 [y_,y_,y_,y_,y_,y_,y_,y_,y_]),s_ 9 .i64 13 46] [33,34,35,36,37,38,39,40,41,42,43,44,45,46]) (.seq (r_ [m_ 47 10,o_ 48 (.ld false (some 6) 0 0 (.t 12)),o_ 49 (.call (some 4) 16 107 [.t 47,.t 48]),m_ 14 49] [47,48,49]) (.seq (.seq (r_ [f_ 50 13 8,l_ 51 50,z_ 52 0] [50]) (.block 2 (.loop b67_2))) (r67_10)))))) (r67_11)))
def r67_12:IR:=
 .seq (r_ [m_ 147 9,m_ 6 147] [0,9,10,27,28,29,147]) (.ret)
def ir67:IR:=
 .seq (r_ [o_ 6 (.mov (.k nilSV))] [6]) (.seq (r_ [m_ 21 0,m_ 22 1,m_ 23 2,o_ 24 (.call (some 4) 10 69 [.t 21,.t 22,.t 23]),m_ 20 24,e_ 25 20 0,e_ 26 20 1,m_ 7 25,m_ 8 26] [1,2,8,20,21,22,23,24,25,26]) (.seq (r_ [o_ 9 (.mov (.k nilSV))] []) (.seq (r_ [o_ 10 (.mov (.k nilSV))] []) (.seq (.seq (r_ [m_ 27 7,h_ 28 27,z_ 29 0] [7]) (.block 0 (.loop b67_1))) (r67_12)))))
def kp67_5:List Nat:=[0,9,10,12,13,14,15,16,17,18,19,27,28,29,51,52,56,57]
def kl67_5:List Nat:=[21,22]
attribute [push_cast] kp67_5 kl67_5
def kp67_4:List Nat:=[0,9,10,12,13,14,15,16,17,18,27,28,29,51,52,56,57]
def kl67_4:List Nat:=[21,22]
attribute [push_cast] kp67_4 kl67_4
def kp67_3:List Nat:=[0,9,10,12,13,14,15,27,28,29,51,52,56,57]
def kl67_3:List Nat:=[20,21,22,23,24]
attribute [push_cast] kp67_3 kl67_3
def kp67_2:List Nat:=[0,9,10,12,13,14,27,28,29,51,52]
def kl67_2:List Nat:=[20,21,22,23,24]
attribute [push_cast] kp67_2 kl67_2
def kp67_1:List Nat:=[0,9,10,27,28,29]
def kl67_1:List Nat:=[14,15,16,17,18,19,20,21,22,23,24,25,26]
attribute [push_cast] kp67_1 kl67_1
set_option maxRecDepth 4000 in
theorem comp67:(Try.f67.body.bind fun c=>compC tab isP chkAll ir67 c)=some ir67:=by kernel_rfl
def plF (W:Int) (b:Bd) (r c:Int) (dy dx:Nat):Int:=(b.y+(r*4+dy))*W+b.x+(c*4+dx)
def kwB (b:Bd) (c:Int):Int:=min 4 (b.w-c*4)
def khB (b:Bd) (r:Int):Int:=min (r*4+4) b.h-r*4
end Go.Proofs.Ytkmiklngnainfaa
