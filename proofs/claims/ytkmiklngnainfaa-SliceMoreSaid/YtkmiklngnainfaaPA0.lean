import Derived.Test.YtkmiklngnainfaaKc
import Derived.Test.YtkmiklngnainfaaProg
import Derived.Test.YtkmiklngnainfaaChecked
set_option linter.unusedVariables false
set_option linter.unusedSimpArgs false
set_option maxRecDepth 1000
namespace Go.Proofs.Ytkmiklngnainfaa
open Xf
def tab:Tab:=fun t=>match t with
 | 2=>some ⟨1,8,[.int .i64 0],.int .i64,none⟩
 | 3=>some ⟨1,8,[.int .i64 0],.int .i64,none⟩
 | 4=>some ⟨1,1,[.bool false],.bool,none⟩
 | 5=>some ⟨1,1,[.int .u8 0],.int .u8,none⟩
 | 6=>some ⟨1,1,[.int .u8 0],.int .u8,none⟩
 | 7=>some ⟨4,24,[.int .i64 0,.int .i64 0,.bool false,.int .u8 0],.struct [(0,2),(1,3),(2,4),(3,6)],(some [true,true,false,true])⟩
 | 8=>some ⟨4,24,[.int .i64 0,.int .i64 0,.bool false,.int .u8 0],.struct [(0,2),(1,3),(2,4),(3,6)],(some [true,true,false,true])⟩
 | 9=>some ⟨1,16,[.val (.string ⟨#[]⟩)],.string,none⟩
 | 12=>some ⟨1,8,[.int .u64 0],.int .u64,none⟩
 | 13=>some ⟨2,24,[.val (.string ⟨#[]⟩),.int .u64 0],.struct [(0,9),(1,12)],none⟩
 | 14=>some ⟨2,24,[.val (.string ⟨#[]⟩),.int .u64 0],.struct [(0,9),(1,12)],none⟩
 | 15=>some ⟨1,8,[.val (.pointer none)],.pointer,none⟩
 | 16=>some ⟨1,8,[.val (.pointer none)],.pointer,none⟩
 | 17=>some ⟨1,8,[.val (.pointer none)],.pointer,none⟩
 | 18=>some ⟨1,8,[.val (.pointer none)],.struct [(0,17)],none⟩
 | 19=>some ⟨1,8,[.val (.pointer none)],.struct [(0,17)],none⟩
 | 21=>some ⟨1,4,[.int .i32 0],.int .i32,none⟩
 | 22=>some ⟨1,24,[nilSV],.slice 3,none⟩
 | 23=>some ⟨3,40,[.int .i64 0,.int .i64 0,nilSV],.struct [(0,3),(1,3),(2,22)],none⟩
 | 24=>some ⟨3,40,[.int .i64 0,.int .i64 0,nilSV],.struct [(0,3),(1,3),(2,22)],none⟩
 | 25=>some ⟨1,8,[.int .i64 0],.int .i64,none⟩
 | 29=>some ⟨1,24,[nilSV],.slice 49,none⟩
 | 37=>some ⟨5,88,[.int .i64 0,.int .i64 0,nilSV,nilSV,nilSV],.struct [(0,3),(1,3),(2,22),(3,22),(4,22)],none⟩
 | 38=>some ⟨5,88,[.int .i64 0,.int .i64 0,nilSV,nilSV,nilSV],.struct [(0,3),(1,3),(2,22),(3,22),(4,22)],none⟩
 | 39=>some ⟨8,112,[.int .i64 0,.int .i64 0,nilSV,nilSV,nilSV,.int .i64 0,.int .i64 0,.int .i64 0],.struct [(0,38),(5,3),(6,3),(7,3)],none⟩
 | 40=>some ⟨8,112,[.int .i64 0,.int .i64 0,nilSV,nilSV,nilSV,.int .i64 0,.int .i64 0,.int .i64 0],.struct [(0,38),(5,3),(6,3),(7,3)],none⟩
 | 44=>some ⟨1,24,[nilSV],.slice 24,none⟩
 | 49=>some ⟨1,24,[nilSV],.slice 5,none⟩
 | 53=>some ⟨1,8,[.val (.pointer none)],.pointer,none⟩
 | 55=>some ⟨3,40,[.int .i64 0,nilSV,.int .i64 0],.struct [(0,3),(1,22),(2,3)],none⟩
 | 56=>some ⟨3,40,[.int .i64 0,nilSV,.int .i64 0],.struct [(0,3),(1,22),(2,3)],none⟩
 | 57=>some ⟨1,24,[nilSV],.slice 59,none⟩
 | 59=>some ⟨2,16,[.int .i64 0,.int .i64 0],.array 2 3,(some [true,true])⟩
 | 64=>some ⟨1,8,[.val (.pointer none)],.pointer,none⟩
 | 67=>some ⟨1,8,[.val (.pointer none)],.pointer,none⟩
 | 70=>some ⟨1,24,[nilSV],.slice 4,none⟩
 | 71=>some ⟨1,24,[nilSV],.slice 148,none⟩
 | 72=>some ⟨2,32,[.int .i64 0,nilSV],.struct [(0,3),(1,22)],none⟩
 | 73=>some ⟨2,32,[.int .i64 0,nilSV],.struct [(0,3),(1,22)],none⟩
 | 74=>some ⟨9,168,[nilSV,nilSV,nilSV,.int .i64 0,nilSV,.int .i64 0,nilSV,nilSV,.int .i64 0],.struct [(0,22),(1,70),(2,22),(3,3),(4,71),(5,73),(7,22),(8,3)],none⟩
 | 75=>some ⟨9,168,[nilSV,nilSV,nilSV,.int .i64 0,nilSV,.int .i64 0,nilSV,nilSV,.int .i64 0],.struct [(0,22),(1,70),(2,22),(3,3),(4,71),(5,73),(7,22),(8,3)],none⟩
 | 81=>some ⟨1,8,[.val (.pointer none)],.pointer,none⟩
 | 91=>some ⟨1,24,[nilSV],.slice 98,none⟩
 | 94=>some ⟨2,16,[.bool false,.int .i64 0],.struct [(0,4),(1,3)],(some [false,true])⟩
 | 95=>some ⟨2,16,[.bool false,.int .i64 0],.struct [(0,4),(1,3)],(some [false,true])⟩
 | 97=>some ⟨2,16,[.int .i64 0,.int .i64 0],.struct [(0,3),(1,3)],(some [true,true])⟩
 | 98=>some ⟨2,16,[.int .i64 0,.int .i64 0],.struct [(0,3),(1,3)],(some [true,true])⟩
 | 100=>some ⟨1,8,[.int .u64 0],.int .u64,none⟩
 | 102=>some ⟨1,8,[.val (.pointer none)],.pointer,none⟩
 | 104=>some ⟨1,8,[.val (.pointer none)],.pointer,none⟩
 | 107=>some ⟨1,8,[.val (.pointer none)],.pointer,none⟩
 | 110=>some ⟨1,8,[.val (.pointer none)],.pointer,none⟩
 | 111=>some ⟨1,8,[.val (.pointer none)],.pointer,none⟩
 | 112=>some ⟨3,24,[.val (.pointer none),.val (.pointer none),.int .i64 0],.struct [(0,111),(1,107),(2,25)],none⟩
 | 113=>some ⟨3,24,[.val (.pointer none),.val (.pointer none),.int .i64 0],.struct [(0,111),(1,107),(2,25)],none⟩
 | 115=>some ⟨1,8,[.int .u64 0],.int .u64,none⟩
 | 116=>some ⟨2,16,[.int .u64 0,.int .u64 0],.struct [(0,115),(1,115)],(some [true,true])⟩
 | 117=>some ⟨2,16,[.int .u64 0,.int .u64 0],.struct [(0,115),(1,115)],(some [true,true])⟩
 | 118=>some ⟨9,104,[.int .i64 0,nilSV,.int .u64 0,.int .u64 0,nilSV,.int .i64 0,.int .u64 0,.int .i64 0,.bool false],.struct [(0,73),(2,117),(4,49),(5,3),(6,115),(7,3),(8,4)],none⟩
 | 119=>some ⟨9,104,[.int .i64 0,nilSV,.int .u64 0,.int .u64 0,nilSV,.int .i64 0,.int .u64 0,.int .i64 0,.bool false],.struct [(0,73),(2,117),(4,49),(5,3),(6,115),(7,3),(8,4)],none⟩
 | 120=>some ⟨1,24,[nilSV],.slice 134,none⟩
 | 121=>some ⟨1,24,[nilSV],.slice 168,none⟩
 | 122=>some ⟨8,160,[.int .i64 0,.int .i64 0,nilSV,nilSV,nilSV,nilSV,nilSV,nilSV],.struct [(0,3),(1,3),(2,120),(3,121),(4,22),(5,70),(6,22),(7,70)],none⟩
 | 123=>some ⟨8,160,[.int .i64 0,.int .i64 0,nilSV,nilSV,nilSV,nilSV,nilSV,nilSV],.struct [(0,3),(1,3),(2,120),(3,121),(4,22),(5,70),(6,22),(7,70)],none⟩
 | 133=>some ⟨6,48,[.int .i64 0,.int .i64 0,.int .i64 0,.int .i64 0,.int .i64 0,.int .i64 0],.struct [(0,3),(1,3),(2,3),(3,3),(4,3),(5,3)],(some [true,true,true,true,true,true])⟩
 | 134=>some ⟨6,48,[.int .i64 0,.int .i64 0,.int .i64 0,.int .i64 0,.int .i64 0,.int .i64 0],.struct [(0,3),(1,3),(2,3),(3,3),(4,3),(5,3)],(some [true,true,true,true,true,true])⟩
 | 137=>some ⟨32,256,[.int .i64 0,.int .i64 0,.int .i64 0,.int .i64 0,.int .i64 0,.int .i64 0,.int .i64 0,.int .i64 0,.int .i64 0,.int .i64 0,.int .i64 0,.int .i64 0,.int .i64 0,.int .i64 0,.int .i64 0,.int .i64 0,.int .i64 0,.int .i64 0,.int .i64 0,.int .i64 0,.int .i64 0,.int .i64 0,.int .i64 0,.int .i64 0,.int .i64 0,.int .i64 0,.int .i64 0,.int .i64 0,.int .i64 0,.int .i64 0,.int .i64 0,.int .i64 0],.array 32 3,(some [true,true,true,true,true,true,true,true,true,true,true,true,true,true,true,true,true,true,true,true,true,true,true,true,true,true,true,true,true,true,true,true])⟩
 | 138=>some ⟨32,256,[.int .i64 0,.int .i64 0,.int .i64 0,.int .i64 0,.int .i64 0,.int .i64 0,.int .i64 0,.int .i64 0,.int .i64 0,.int .i64 0,.int .i64 0,.int .i64 0,.int .i64 0,.int .i64 0,.int .i64 0,.int .i64 0,.int .i64 0,.int .i64 0,.int .i64 0,.int .i64 0,.int .i64 0,.int .i64 0,.int .i64 0,.int .i64 0,.int .i64 0,.int .i64 0,.int .i64 0,.int .i64 0,.int .i64 0,.int .i64 0,.int .i64 0,.int .i64 0],.array 32 3,(some [true,true,true,true,true,true,true,true,true,true,true,true,true,true,true,true,true,true,true,true,true,true,true,true,true,true,true,true,true,true,true,true])⟩
 | 139=>some ⟨36,304,[.int .i64 0,nilSV,.int .i64 0,.int .i64 0,.int .i64 0,.int .i64 0,.int .i64 0,.int .i64 0,.int .i64 0,.int .i64 0,.int .i64 0,.int .i64 0,.int .i64 0,.int .i64 0,.int .i64 0,.int .i64 0,.int .i64 0,.int .i64 0,.int .i64 0,.int .i64 0,.int .i64 0,.int .i64 0,.int .i64 0,.int .i64 0,.int .i64 0,.int .i64 0,.int .i64 0,.int .i64 0,.int .i64 0,.int .i64 0,.int .i64 0,.int .i64 0,.int .i64 0,.int .i64 0,.int .u64 0,.int .u64 0],.struct [(0,73),(2,138),(34,115),(35,115)],none⟩
 | 140=>some ⟨36,304,[.int .i64 0,nilSV,.int .i64 0,.int .i64 0,.int .i64 0,.int .i64 0,.int .i64 0,.int .i64 0,.int .i64 0,.int .i64 0,.int .i64 0,.int .i64 0,.int .i64 0,.int .i64 0,.int .i64 0,.int .i64 0,.int .i64 0,.int .i64 0,.int .i64 0,.int .i64 0,.int .i64 0,.int .i64 0,.int .i64 0,.int .i64 0,.int .i64 0,.int .i64 0,.int .i64 0,.int .i64 0,.int .i64 0,.int .i64 0,.int .i64 0,.int .i64 0,.int .i64 0,.int .i64 0,.int .u64 0,.int .u64 0],.struct [(0,73),(2,138),(34,115),(35,115)],none⟩
 | 142=>some ⟨38,336,[.int .i64 0,nilSV,.int .i64 0,.int .i64 0,.int .i64 0,.int .i64 0,.int .i64 0,.int .i64 0,.int .i64 0,.int .i64 0,.int .i64 0,.int .i64 0,.int .i64 0,.int .i64 0,.int .i64 0,.int .i64 0,.int .i64 0,.int .i64 0,.int .i64 0,.int .i64 0,.int .i64 0,.int .i64 0,.int .i64 0,.int .i64 0,.int .i64 0,.int .i64 0,.int .i64 0,.int .i64 0,.int .i64 0,.int .i64 0,.int .i64 0,.int .i64 0,.int .i64 0,.int .i64 0,.int .u64 0,.int .u64 0,nilSV,.bool false],.struct [(0,140),(36,49),(37,4)],none⟩
 | 143=>some ⟨38,336,[.int .i64 0,nilSV,.int .i64 0,.int .i64 0,.int .i64 0,.int .i64 0,.int .i64 0,.int .i64 0,.int .i64 0,.int .i64 0,.int .i64 0,.int .i64 0,.int .i64 0,.int .i64 0,.int .i64 0,.int .i64 0,.int .i64 0,.int .i64 0,.int .i64 0,.int .i64 0,.int .i64 0,.int .i64 0,.int .i64 0,.int .i64 0,.int .i64 0,.int .i64 0,.int .i64 0,.int .i64 0,.int .i64 0,.int .i64 0,.int .i64 0,.int .i64 0,.int .i64 0,.int .i64 0,.int .u64 0,.int .u64 0,nilSV,.bool false],.struct [(0,140),(36,49),(37,4)],none⟩
 | 146=>some ⟨1,8,[.val (.pointer none)],.pointer,none⟩
 | 147=>some ⟨4,48,[nilSV,.int .i64 0,.int .i64 0,.bool false],.struct [(0,22),(1,3),(2,3),(3,4)],none⟩
 | 148=>some ⟨4,48,[nilSV,.int .i64 0,.int .i64 0,.bool false],.struct [(0,22),(1,3),(2,3),(3,4)],none⟩
 | 158=>some ⟨42,360,[.int .i64 0,nilSV,.int .i64 0,.int .i64 0,.int .i64 0,.int .i64 0,.int .i64 0,.int .i64 0,.int .i64 0,.int .i64 0,.int .i64 0,.int .i64 0,.int .i64 0,.int .i64 0,.int .i64 0,.int .i64 0,.int .i64 0,.int .i64 0,.int .i64 0,.int .i64 0,.int .i64 0,.int .i64 0,.int .i64 0,.int .i64 0,.int .i64 0,.int .i64 0,.int .i64 0,.int .i64 0,.int .i64 0,.int .i64 0,.int .i64 0,.int .i64 0,.int .i64 0,.int .i64 0,.int .u64 0,.int .u64 0,nilSV,.int .i64 0,.int .u64 0,.int .i64 0,.bool false,.bool false],.struct [(0,140),(36,49),(37,3),(38,115),(39,3),(40,4),(41,4)],none⟩
 | 159=>some ⟨42,360,[.int .i64 0,nilSV,.int .i64 0,.int .i64 0,.int .i64 0,.int .i64 0,.int .i64 0,.int .i64 0,.int .i64 0,.int .i64 0,.int .i64 0,.int .i64 0,.int .i64 0,.int .i64 0,.int .i64 0,.int .i64 0,.int .i64 0,.int .i64 0,.int .i64 0,.int .i64 0,.int .i64 0,.int .i64 0,.int .i64 0,.int .i64 0,.int .i64 0,.int .i64 0,.int .i64 0,.int .i64 0,.int .i64 0,.int .i64 0,.int .i64 0,.int .i64 0,.int .i64 0,.int .i64 0,.int .u64 0,.int .u64 0,nilSV,.int .i64 0,.int .u64 0,.int .i64 0,.bool false,.bool false],.struct [(0,140),(36,49),(37,3),(38,115),(39,3),(40,4),(41,4)],none⟩
 | 167=>some ⟨8,64,[.int .i64 0,.int .i64 0,.int .i64 0,.int .i64 0,.int .i64 0,.int .i64 0,.int .i64 0,.int .i64 0],.struct [(0,3),(1,3),(2,3),(3,3),(4,3),(5,3),(6,3),(7,3)],(some [true,true,true,true,true,true,true,true])⟩
 | 168=>some ⟨8,64,[.int .i64 0,.int .i64 0,.int .i64 0,.int .i64 0,.int .i64 0,.int .i64 0,.int .i64 0,.int .i64 0],.struct [(0,3),(1,3),(2,3),(3,3),(4,3),(5,3),(6,3),(7,3)],(some [true,true,true,true,true,true,true,true])⟩
 | 175=>some ⟨1,24,[nilSV],.slice 177,none⟩
 | 176=>some ⟨9,72,[.int .i64 0,.int .i64 0,.int .i64 0,.int .i64 0,.int .i64 0,.int .i64 0,.int .i64 0,.int .i64 0,.int .i64 0],.struct [(0,134),(6,3),(7,3),(8,3)],none⟩
 | 177=>some ⟨9,72,[.int .i64 0,.int .i64 0,.int .i64 0,.int .i64 0,.int .i64 0,.int .i64 0,.int .i64 0,.int .i64 0,.int .i64 0],.struct [(0,134),(6,3),(7,3),(8,3)],none⟩
 | 178=>some ⟨1,8,[.val (.pointer none)],.pointer,none⟩
 | 183=>some ⟨1,4,[.int .u32 0],.int .u32,none⟩
 | 187=>some ⟨1,8,[.val (.pointer none)],.pointer,none⟩
 | 189=>some ⟨1,8,[.int .i64 0],.struct [(0,3)],(some [true])⟩
 | 190=>some ⟨1,8,[.int .i64 0],.struct [(0,3)],(some [true])⟩
 | 195=>some ⟨1,8,[.val (.pointer none)],.pointer,none⟩
 | 198=>some ⟨5,72,[.int .i64 0,nilSV,.int .u64 0,.int .u64 0,nilSV],.struct [(0,73),(2,117),(4,49)],none⟩
 | 199=>some ⟨5,72,[.int .i64 0,nilSV,.int .u64 0,.int .u64 0,nilSV],.struct [(0,73),(2,117),(4,49)],none⟩
 | 202=>some ⟨4,40,[.val (.pointer none),.val (.pointer none),.val (.pointer none),.val (.string ⟨#[]⟩)],.struct [(0,17),(1,17),(2,17),(3,9)],none⟩
 | 203=>some ⟨4,40,[.val (.pointer none),.val (.pointer none),.val (.pointer none),.val (.string ⟨#[]⟩)],.struct [(0,17),(1,17),(2,17),(3,9)],none⟩
 | 204=>some ⟨0,0,[],.array 0 16,none⟩
 | 205=>some ⟨0,0,[],.struct [(0,204)],none⟩
 | 206=>some ⟨0,0,[],.struct [(0,204)],none⟩
 | 207=>some ⟨1,1,[.int .u8 0],.int .u8,none⟩
 | 208=>some ⟨1,1,[.int .u8 0],.int .u8,none⟩
 | 210=>some ⟨1,8,[.val (.pointer none)],.pointer,none⟩
 | 211=>some ⟨1,4,[.int .i32 0],.int .i32,none⟩
 | 212=>some ⟨1,4,[.int .i32 0],.int .i32,none⟩
 | 213=>some ⟨11,48,[.int .u64 0,.int .u64 0,.int .u32 0,.int .u8 0,.int .u8 0,.int .u8 0,.int .u8 0,.val .nilFunc,.val (.pointer none),.int .i32 0,.int .i32 0],.struct [(0,12),(1,12),(2,183),(3,207),(4,5),(5,5),(6,208),(7,209),(8,210),(9,211),(10,212)],none⟩
 | 214=>some ⟨11,48,[.int .u64 0,.int .u64 0,.int .u32 0,.int .u8 0,.int .u8 0,.int .u8 0,.int .u8 0,.val .nilFunc,.val (.pointer none),.int .i32 0,.int .i32 0],.struct [(0,12),(1,12),(2,183),(3,207),(4,5),(5,5),(6,208),(7,209),(8,210),(9,211),(10,212)],none⟩
 | _=>none
theorem tt2:TtOk Try.prog 2 ⟨1,8,[.int .i64 0],.int .i64,none⟩:=TtOk.of (z:=.int .i64 0) (by kernel_rfl) (by kernel_rfl) (by simp[Dens,Den,nilSV,nilLoc0,Value.cells]) (by simp[TT.agg,Value.cells]) Try.underlying2 (by first | exact⟨_,rfl,rfl⟩ | rfl | exact⟨_,rfl⟩) (by first | rfl | kernel_rfl) rfl
theorem tt3:TtOk Try.prog 3 ⟨1,8,[.int .i64 0],.int .i64,none⟩:=TtOk.of (z:=.int .i64 0) (by kernel_rfl) (by kernel_rfl) (by simp[Dens,Den,nilSV,nilLoc0,Value.cells]) (by simp[TT.agg,Value.cells]) Try.underlying3 (by first | exact⟨_,rfl,rfl⟩ | rfl | exact⟨_,rfl⟩) (by first | rfl | kernel_rfl) rfl
theorem tt4:TtOk Try.prog 4 ⟨1,1,[.bool false],.bool,none⟩:=TtOk.of (z:=.bool false) (by kernel_rfl) (by kernel_rfl) (by simp[Dens,Den,nilSV,nilLoc0,Value.cells]) (by simp[TT.agg,Value.cells]) Try.underlying4 (by first | exact⟨_,rfl,rfl⟩ | rfl | exact⟨_,rfl⟩) (by first | rfl | kernel_rfl) rfl
theorem tt5:TtOk Try.prog 5 ⟨1,1,[.int .u8 0],.int .u8,none⟩:=TtOk.of (z:=.int .u8 0) (by kernel_rfl) (by kernel_rfl) (by simp[Dens,Den,nilSV,nilLoc0,Value.cells]) (by simp[TT.agg,Value.cells]) Try.underlying5 (by first | exact⟨_,rfl,rfl⟩ | rfl | exact⟨_,rfl⟩) (by first | rfl | kernel_rfl) rfl
theorem tt6:TtOk Try.prog 6 ⟨1,1,[.int .u8 0],.int .u8,none⟩:=TtOk.of (z:=.int .u8 0) (by kernel_rfl) (by kernel_rfl) (by simp[Dens,Den,nilSV,nilLoc0,Value.cells]) (by simp[TT.agg,Value.cells]) Try.underlying6 (by first | exact⟨_,rfl,rfl⟩ | rfl | exact⟨_,rfl⟩) (by first | rfl | kernel_rfl) rfl
theorem tt7:TtOk Try.prog 7 ⟨4,24,[.int .i64 0,.int .i64 0,.bool false,.int .u8 0],.struct [(0,2),(1,3),(2,4),(3,6)],(some [true,true,false,true])⟩:=TtOk.of (z:=.agg #[.int .i64 0,.int .i64 0,.bool false,.int .u8 0]) (by kernel_rfl) (by kernel_rfl) (by simp[Dens,Den,nilSV,nilLoc0,Value.cells]) (by simp[TT.agg,Value.cells]) Try.underlying7 (by first | exact⟨_,rfl,rfl⟩ | rfl | exact⟨_,rfl⟩) (by first | rfl | kernel_rfl) rfl
theorem tt8:TtOk Try.prog 8 ⟨4,24,[.int .i64 0,.int .i64 0,.bool false,.int .u8 0],.struct [(0,2),(1,3),(2,4),(3,6)],(some [true,true,false,true])⟩:=TtOk.of (z:=.agg #[.int .i64 0,.int .i64 0,.bool false,.int .u8 0]) (by kernel_rfl) (by kernel_rfl) (by simp[Dens,Den,nilSV,nilLoc0,Value.cells]) (by simp[TT.agg,Value.cells]) Try.underlying8 (by first | exact⟨_,rfl,rfl⟩ | rfl | exact⟨_,rfl⟩) (by first | rfl | kernel_rfl) rfl
theorem tt9:TtOk Try.prog 9 ⟨1,16,[.val (.string ⟨#[]⟩)],.string,none⟩:=TtOk.of (z:=.string ⟨#[]⟩) (by kernel_rfl) (by kernel_rfl) (by simp[Dens,Den,nilSV,nilLoc0,Value.cells]) (by simp[TT.agg,Value.cells]) Try.underlying9 (by first | exact⟨_,rfl,rfl⟩ | rfl | exact⟨_,rfl⟩) (by first | rfl | kernel_rfl) rfl
theorem tt12:TtOk Try.prog 12 ⟨1,8,[.int .u64 0],.int .u64,none⟩:=TtOk.of (z:=.int .u64 0) (by kernel_rfl) (by kernel_rfl) (by simp[Dens,Den,nilSV,nilLoc0,Value.cells]) (by simp[TT.agg,Value.cells]) Try.underlying12 (by first | exact⟨_,rfl,rfl⟩ | rfl | exact⟨_,rfl⟩) (by first | rfl | kernel_rfl) rfl
theorem tt13:TtOk Try.prog 13 ⟨2,24,[.val (.string ⟨#[]⟩),.int .u64 0],.struct [(0,9),(1,12)],none⟩:=TtOk.of (z:=.agg #[.string ⟨#[]⟩,.int .u64 0]) (by kernel_rfl) (by kernel_rfl) (by simp[Dens,Den,nilSV,nilLoc0,Value.cells]) (by simp[TT.agg,Value.cells]) Try.underlying13 (by first | exact⟨_,rfl,rfl⟩ | rfl | exact⟨_,rfl⟩) (by first | rfl | kernel_rfl) rfl
theorem tt14:TtOk Try.prog 14 ⟨2,24,[.val (.string ⟨#[]⟩),.int .u64 0],.struct [(0,9),(1,12)],none⟩:=TtOk.of (z:=.agg #[.string ⟨#[]⟩,.int .u64 0]) (by kernel_rfl) (by kernel_rfl) (by simp[Dens,Den,nilSV,nilLoc0,Value.cells]) (by simp[TT.agg,Value.cells]) Try.underlying14 (by first | exact⟨_,rfl,rfl⟩ | rfl | exact⟨_,rfl⟩) (by first | rfl | kernel_rfl) rfl
theorem tt15:TtOk Try.prog 15 ⟨1,8,[.val (.pointer none)],.pointer,none⟩:=TtOk.of (z:=.pointer none) (by kernel_rfl) (by kernel_rfl) (by simp[Dens,Den,nilSV,nilLoc0,Value.cells]) (by simp[TT.agg,Value.cells]) Try.underlying15 (by first | exact⟨_,rfl,rfl⟩ | rfl | exact⟨_,rfl⟩) (by first | rfl | kernel_rfl) rfl
theorem tt16:TtOk Try.prog 16 ⟨1,8,[.val (.pointer none)],.pointer,none⟩:=TtOk.of (z:=.pointer none) (by kernel_rfl) (by kernel_rfl) (by simp[Dens,Den,nilSV,nilLoc0,Value.cells]) (by simp[TT.agg,Value.cells]) Try.underlying16 (by first | exact⟨_,rfl,rfl⟩ | rfl | exact⟨_,rfl⟩) (by first | rfl | kernel_rfl) rfl
theorem tt17:TtOk Try.prog 17 ⟨1,8,[.val (.pointer none)],.pointer,none⟩:=TtOk.of (z:=.pointer none) (by kernel_rfl) (by kernel_rfl) (by simp[Dens,Den,nilSV,nilLoc0,Value.cells]) (by simp[TT.agg,Value.cells]) Try.underlying17 (by first | exact⟨_,rfl,rfl⟩ | rfl | exact⟨_,rfl⟩) (by first | rfl | kernel_rfl) rfl
theorem tt18:TtOk Try.prog 18 ⟨1,8,[.val (.pointer none)],.struct [(0,17)],none⟩:=TtOk.of (z:=.agg #[.pointer none]) (by kernel_rfl) (by kernel_rfl) (by simp[Dens,Den,nilSV,nilLoc0,Value.cells]) (by simp[TT.agg,Value.cells]) Try.underlying18 (by first | exact⟨_,rfl,rfl⟩ | rfl | exact⟨_,rfl⟩) (by first | rfl | kernel_rfl) rfl
theorem tt19:TtOk Try.prog 19 ⟨1,8,[.val (.pointer none)],.struct [(0,17)],none⟩:=TtOk.of (z:=.agg #[.pointer none]) (by kernel_rfl) (by kernel_rfl) (by simp[Dens,Den,nilSV,nilLoc0,Value.cells]) (by simp[TT.agg,Value.cells]) Try.underlying19 (by first | exact⟨_,rfl,rfl⟩ | rfl | exact⟨_,rfl⟩) (by first | rfl | kernel_rfl) rfl
theorem tt21:TtOk Try.prog 21 ⟨1,4,[.int .i32 0],.int .i32,none⟩:=TtOk.of (z:=.int .i32 0) (by kernel_rfl) (by kernel_rfl) (by simp[Dens,Den,nilSV,nilLoc0,Value.cells]) (by simp[TT.agg,Value.cells]) Try.underlying21 (by first | exact⟨_,rfl,rfl⟩ | rfl | exact⟨_,rfl⟩) (by first | rfl | kernel_rfl) rfl
theorem tt22:TtOk Try.prog 22 ⟨1,24,[nilSV],.slice 3,none⟩:=TtOk.of (z:=.slice none 0 0) (by kernel_rfl) (by kernel_rfl) (by simp[Dens,Den,nilSV,nilLoc0,Value.cells]) (by simp[TT.agg,Value.cells]) Try.underlying22 (by first | exact⟨_,rfl,rfl⟩ | rfl | exact⟨_,rfl⟩) (by first | rfl | kernel_rfl) rfl
theorem tt23:TtOk Try.prog 23 ⟨3,40,[.int .i64 0,.int .i64 0,nilSV],.struct [(0,3),(1,3),(2,22)],none⟩:=TtOk.of (z:=.agg #[.int .i64 0,.int .i64 0,.slice none 0 0]) (by kernel_rfl) (by kernel_rfl) (by simp[Dens,Den,nilSV,nilLoc0,Value.cells]) (by simp[TT.agg,Value.cells]) Try.underlying23 (by first | exact⟨_,rfl,rfl⟩ | rfl | exact⟨_,rfl⟩) (by first | rfl | kernel_rfl) rfl
theorem tt24:TtOk Try.prog 24 ⟨3,40,[.int .i64 0,.int .i64 0,nilSV],.struct [(0,3),(1,3),(2,22)],none⟩:=TtOk.of (z:=.agg #[.int .i64 0,.int .i64 0,.slice none 0 0]) (by kernel_rfl) (by kernel_rfl) (by simp[Dens,Den,nilSV,nilLoc0,Value.cells]) (by simp[TT.agg,Value.cells]) Try.underlying24 (by first | exact⟨_,rfl,rfl⟩ | rfl | exact⟨_,rfl⟩) (by first | rfl | kernel_rfl) rfl
theorem tt25:TtOk Try.prog 25 ⟨1,8,[.int .i64 0],.int .i64,none⟩:=TtOk.of (z:=.int .i64 0) (by kernel_rfl) (by kernel_rfl) (by simp[Dens,Den,nilSV,nilLoc0,Value.cells]) (by simp[TT.agg,Value.cells]) Try.underlying25 (by first | exact⟨_,rfl,rfl⟩ | rfl | exact⟨_,rfl⟩) (by first | rfl | kernel_rfl) rfl
theorem tt29:TtOk Try.prog 29 ⟨1,24,[nilSV],.slice 49,none⟩:=TtOk.of (z:=.slice none 0 0) (by kernel_rfl) (by kernel_rfl) (by simp[Dens,Den,nilSV,nilLoc0,Value.cells]) (by simp[TT.agg,Value.cells]) Try.underlying29 (by first | exact⟨_,rfl,rfl⟩ | rfl | exact⟨_,rfl⟩) (by first | rfl | kernel_rfl) rfl
theorem tt37:TtOk Try.prog 37 ⟨5,88,[.int .i64 0,.int .i64 0,nilSV,nilSV,nilSV],.struct [(0,3),(1,3),(2,22),(3,22),(4,22)],none⟩:=TtOk.of (z:=.agg #[.int .i64 0,.int .i64 0,.slice none 0 0,.slice none 0 0,.slice none 0 0]) (by kernel_rfl) (by kernel_rfl) (by simp[Dens,Den,nilSV,nilLoc0,Value.cells]) (by simp[TT.agg,Value.cells]) Try.underlying37 (by first | exact⟨_,rfl,rfl⟩ | rfl | exact⟨_,rfl⟩) (by first | rfl | kernel_rfl) rfl
theorem tt38:TtOk Try.prog 38 ⟨5,88,[.int .i64 0,.int .i64 0,nilSV,nilSV,nilSV],.struct [(0,3),(1,3),(2,22),(3,22),(4,22)],none⟩:=TtOk.of (z:=.agg #[.int .i64 0,.int .i64 0,.slice none 0 0,.slice none 0 0,.slice none 0 0]) (by kernel_rfl) (by kernel_rfl) (by simp[Dens,Den,nilSV,nilLoc0,Value.cells]) (by simp[TT.agg,Value.cells]) Try.underlying38 (by first | exact⟨_,rfl,rfl⟩ | rfl | exact⟨_,rfl⟩) (by first | rfl | kernel_rfl) rfl
theorem tt39:TtOk Try.prog 39 ⟨8,112,[.int .i64 0,.int .i64 0,nilSV,nilSV,nilSV,.int .i64 0,.int .i64 0,.int .i64 0],.struct [(0,38),(5,3),(6,3),(7,3)],none⟩:=TtOk.of (z:=.agg #[.int .i64 0,.int .i64 0,.slice none 0 0,.slice none 0 0,.slice none 0 0,.int .i64 0,.int .i64 0,.int .i64 0]) (by kernel_rfl) (by kernel_rfl) (by simp[Dens,Den,nilSV,nilLoc0,Value.cells]) (by simp[TT.agg,Value.cells]) Try.underlying39 (by first | exact⟨_,rfl,rfl⟩ | rfl | exact⟨_,rfl⟩) (by first | rfl | kernel_rfl) rfl
theorem tt40:TtOk Try.prog 40 ⟨8,112,[.int .i64 0,.int .i64 0,nilSV,nilSV,nilSV,.int .i64 0,.int .i64 0,.int .i64 0],.struct [(0,38),(5,3),(6,3),(7,3)],none⟩:=TtOk.of (z:=.agg #[.int .i64 0,.int .i64 0,.slice none 0 0,.slice none 0 0,.slice none 0 0,.int .i64 0,.int .i64 0,.int .i64 0]) (by kernel_rfl) (by kernel_rfl) (by simp[Dens,Den,nilSV,nilLoc0,Value.cells]) (by simp[TT.agg,Value.cells]) Try.underlying40 (by first | exact⟨_,rfl,rfl⟩ | rfl | exact⟨_,rfl⟩) (by first | rfl | kernel_rfl) rfl
theorem tt44:TtOk Try.prog 44 ⟨1,24,[nilSV],.slice 24,none⟩:=TtOk.of (z:=.slice none 0 0) (by kernel_rfl) (by kernel_rfl) (by simp[Dens,Den,nilSV,nilLoc0,Value.cells]) (by simp[TT.agg,Value.cells]) Try.underlying44 (by first | exact⟨_,rfl,rfl⟩ | rfl | exact⟨_,rfl⟩) (by first | rfl | kernel_rfl) rfl
theorem tt49:TtOk Try.prog 49 ⟨1,24,[nilSV],.slice 5,none⟩:=TtOk.of (z:=.slice none 0 0) (by kernel_rfl) (by kernel_rfl) (by simp[Dens,Den,nilSV,nilLoc0,Value.cells]) (by simp[TT.agg,Value.cells]) Try.underlying49 (by first | exact⟨_,rfl,rfl⟩ | rfl | exact⟨_,rfl⟩) (by first | rfl | kernel_rfl) rfl
theorem tt53:TtOk Try.prog 53 ⟨1,8,[.val (.pointer none)],.pointer,none⟩:=TtOk.of (z:=.pointer none) (by kernel_rfl) (by kernel_rfl) (by simp[Dens,Den,nilSV,nilLoc0,Value.cells]) (by simp[TT.agg,Value.cells]) Try.underlying53 (by first | exact⟨_,rfl,rfl⟩ | rfl | exact⟨_,rfl⟩) (by first | rfl | kernel_rfl) rfl
theorem tt55:TtOk Try.prog 55 ⟨3,40,[.int .i64 0,nilSV,.int .i64 0],.struct [(0,3),(1,22),(2,3)],none⟩:=TtOk.of (z:=.agg #[.int .i64 0,.slice none 0 0,.int .i64 0]) (by kernel_rfl) (by kernel_rfl) (by simp[Dens,Den,nilSV,nilLoc0,Value.cells]) (by simp[TT.agg,Value.cells]) Try.underlying55 (by first | exact⟨_,rfl,rfl⟩ | rfl | exact⟨_,rfl⟩) (by first | rfl | kernel_rfl) rfl
theorem tt56:TtOk Try.prog 56 ⟨3,40,[.int .i64 0,nilSV,.int .i64 0],.struct [(0,3),(1,22),(2,3)],none⟩:=TtOk.of (z:=.agg #[.int .i64 0,.slice none 0 0,.int .i64 0]) (by kernel_rfl) (by kernel_rfl) (by simp[Dens,Den,nilSV,nilLoc0,Value.cells]) (by simp[TT.agg,Value.cells]) Try.underlying56 (by first | exact⟨_,rfl,rfl⟩ | rfl | exact⟨_,rfl⟩) (by first | rfl | kernel_rfl) rfl
theorem tt57:TtOk Try.prog 57 ⟨1,24,[nilSV],.slice 59,none⟩:=TtOk.of (z:=.slice none 0 0) (by kernel_rfl) (by kernel_rfl) (by simp[Dens,Den,nilSV,nilLoc0,Value.cells]) (by simp[TT.agg,Value.cells]) Try.underlying57 (by first | exact⟨_,rfl,rfl⟩ | rfl | exact⟨_,rfl⟩) (by first | rfl | kernel_rfl) rfl
theorem tt59:TtOk Try.prog 59 ⟨2,16,[.int .i64 0,.int .i64 0],.array 2 3,(some [true,true])⟩:=TtOk.of (z:=.agg #[.int .i64 0,.int .i64 0]) (by kernel_rfl) (by kernel_rfl) (by simp[Dens,Den,nilSV,nilLoc0,Value.cells]) (by simp[TT.agg,Value.cells]) Try.underlying59 (by first | exact⟨_,rfl,rfl⟩ | rfl | exact⟨_,rfl⟩) (by first | rfl | kernel_rfl) rfl
theorem tt64:TtOk Try.prog 64 ⟨1,8,[.val (.pointer none)],.pointer,none⟩:=TtOk.of (z:=.pointer none) (by kernel_rfl) (by kernel_rfl) (by simp[Dens,Den,nilSV,nilLoc0,Value.cells]) (by simp[TT.agg,Value.cells]) Try.underlying64 (by first | exact⟨_,rfl,rfl⟩ | rfl | exact⟨_,rfl⟩) (by first | rfl | kernel_rfl) rfl
theorem tt67:TtOk Try.prog 67 ⟨1,8,[.val (.pointer none)],.pointer,none⟩:=TtOk.of (z:=.pointer none) (by kernel_rfl) (by kernel_rfl) (by simp[Dens,Den,nilSV,nilLoc0,Value.cells]) (by simp[TT.agg,Value.cells]) Try.underlying67 (by first | exact⟨_,rfl,rfl⟩ | rfl | exact⟨_,rfl⟩) (by first | rfl | kernel_rfl) rfl
theorem tt70:TtOk Try.prog 70 ⟨1,24,[nilSV],.slice 4,none⟩:=TtOk.of (z:=.slice none 0 0) (by kernel_rfl) (by kernel_rfl) (by simp[Dens,Den,nilSV,nilLoc0,Value.cells]) (by simp[TT.agg,Value.cells]) Try.underlying70 (by first | exact⟨_,rfl,rfl⟩ | rfl | exact⟨_,rfl⟩) (by first | rfl | kernel_rfl) rfl
theorem tt71:TtOk Try.prog 71 ⟨1,24,[nilSV],.slice 148,none⟩:=TtOk.of (z:=.slice none 0 0) (by kernel_rfl) (by kernel_rfl) (by simp[Dens,Den,nilSV,nilLoc0,Value.cells]) (by simp[TT.agg,Value.cells]) Try.underlying71 (by first | exact⟨_,rfl,rfl⟩ | rfl | exact⟨_,rfl⟩) (by first | rfl | kernel_rfl) rfl
theorem tt72:TtOk Try.prog 72 ⟨2,32,[.int .i64 0,nilSV],.struct [(0,3),(1,22)],none⟩:=TtOk.of (z:=.agg #[.int .i64 0,.slice none 0 0]) (by kernel_rfl) (by kernel_rfl) (by simp[Dens,Den,nilSV,nilLoc0,Value.cells]) (by simp[TT.agg,Value.cells]) Try.underlying72 (by first | exact⟨_,rfl,rfl⟩ | rfl | exact⟨_,rfl⟩) (by first | rfl | kernel_rfl) rfl
theorem tt73:TtOk Try.prog 73 ⟨2,32,[.int .i64 0,nilSV],.struct [(0,3),(1,22)],none⟩:=TtOk.of (z:=.agg #[.int .i64 0,.slice none 0 0]) (by kernel_rfl) (by kernel_rfl) (by simp[Dens,Den,nilSV,nilLoc0,Value.cells]) (by simp[TT.agg,Value.cells]) Try.underlying73 (by first | exact⟨_,rfl,rfl⟩ | rfl | exact⟨_,rfl⟩) (by first | rfl | kernel_rfl) rfl
theorem tt74:TtOk Try.prog 74 ⟨9,168,[nilSV,nilSV,nilSV,.int .i64 0,nilSV,.int .i64 0,nilSV,nilSV,.int .i64 0],.struct [(0,22),(1,70),(2,22),(3,3),(4,71),(5,73),(7,22),(8,3)],none⟩:=TtOk.of (z:=.agg #[.slice none 0 0,.slice none 0 0,.slice none 0 0,.int .i64 0,.slice none 0 0,.int .i64 0,.slice none 0 0,.slice none 0 0,.int .i64 0]) (by kernel_rfl) (by kernel_rfl) (by simp[Dens,Den,nilSV,nilLoc0,Value.cells]) (by simp[TT.agg,Value.cells]) Try.underlying74 (by first | exact⟨_,rfl,rfl⟩ | rfl | exact⟨_,rfl⟩) (by first | rfl | kernel_rfl) rfl
theorem tt75:TtOk Try.prog 75 ⟨9,168,[nilSV,nilSV,nilSV,.int .i64 0,nilSV,.int .i64 0,nilSV,nilSV,.int .i64 0],.struct [(0,22),(1,70),(2,22),(3,3),(4,71),(5,73),(7,22),(8,3)],none⟩:=TtOk.of (z:=.agg #[.slice none 0 0,.slice none 0 0,.slice none 0 0,.int .i64 0,.slice none 0 0,.int .i64 0,.slice none 0 0,.slice none 0 0,.int .i64 0]) (by kernel_rfl) (by kernel_rfl) (by simp[Dens,Den,nilSV,nilLoc0,Value.cells]) (by simp[TT.agg,Value.cells]) Try.underlying75 (by first | exact⟨_,rfl,rfl⟩ | rfl | exact⟨_,rfl⟩) (by first | rfl | kernel_rfl) rfl
theorem tt81:TtOk Try.prog 81 ⟨1,8,[.val (.pointer none)],.pointer,none⟩:=TtOk.of (z:=.pointer none) (by kernel_rfl) (by kernel_rfl) (by simp[Dens,Den,nilSV,nilLoc0,Value.cells]) (by simp[TT.agg,Value.cells]) Try.underlying81 (by first | exact⟨_,rfl,rfl⟩ | rfl | exact⟨_,rfl⟩) (by first | rfl | kernel_rfl) rfl
theorem tt91:TtOk Try.prog 91 ⟨1,24,[nilSV],.slice 98,none⟩:=TtOk.of (z:=.slice none 0 0) (by kernel_rfl) (by kernel_rfl) (by simp[Dens,Den,nilSV,nilLoc0,Value.cells]) (by simp[TT.agg,Value.cells]) Try.underlying91 (by first | exact⟨_,rfl,rfl⟩ | rfl | exact⟨_,rfl⟩) (by first | rfl | kernel_rfl) rfl
theorem tt94:TtOk Try.prog 94 ⟨2,16,[.bool false,.int .i64 0],.struct [(0,4),(1,3)],(some [false,true])⟩:=TtOk.of (z:=.agg #[.bool false,.int .i64 0]) (by kernel_rfl) (by kernel_rfl) (by simp[Dens,Den,nilSV,nilLoc0,Value.cells]) (by simp[TT.agg,Value.cells]) Try.underlying94 (by first | exact⟨_,rfl,rfl⟩ | rfl | exact⟨_,rfl⟩) (by first | rfl | kernel_rfl) rfl
theorem tt95:TtOk Try.prog 95 ⟨2,16,[.bool false,.int .i64 0],.struct [(0,4),(1,3)],(some [false,true])⟩:=TtOk.of (z:=.agg #[.bool false,.int .i64 0]) (by kernel_rfl) (by kernel_rfl) (by simp[Dens,Den,nilSV,nilLoc0,Value.cells]) (by simp[TT.agg,Value.cells]) Try.underlying95 (by first | exact⟨_,rfl,rfl⟩ | rfl | exact⟨_,rfl⟩) (by first | rfl | kernel_rfl) rfl
theorem tt97:TtOk Try.prog 97 ⟨2,16,[.int .i64 0,.int .i64 0],.struct [(0,3),(1,3)],(some [true,true])⟩:=TtOk.of (z:=.agg #[.int .i64 0,.int .i64 0]) (by kernel_rfl) (by kernel_rfl) (by simp[Dens,Den,nilSV,nilLoc0,Value.cells]) (by simp[TT.agg,Value.cells]) Try.underlying97 (by first | exact⟨_,rfl,rfl⟩ | rfl | exact⟨_,rfl⟩) (by first | rfl | kernel_rfl) rfl
theorem tt98:TtOk Try.prog 98 ⟨2,16,[.int .i64 0,.int .i64 0],.struct [(0,3),(1,3)],(some [true,true])⟩:=TtOk.of (z:=.agg #[.int .i64 0,.int .i64 0]) (by kernel_rfl) (by kernel_rfl) (by simp[Dens,Den,nilSV,nilLoc0,Value.cells]) (by simp[TT.agg,Value.cells]) Try.underlying98 (by first | exact⟨_,rfl,rfl⟩ | rfl | exact⟨_,rfl⟩) (by first | rfl | kernel_rfl) rfl
theorem tt100:TtOk Try.prog 100 ⟨1,8,[.int .u64 0],.int .u64,none⟩:=TtOk.of (z:=.int .u64 0) (by kernel_rfl) (by kernel_rfl) (by simp[Dens,Den,nilSV,nilLoc0,Value.cells]) (by simp[TT.agg,Value.cells]) Try.underlying100 (by first | exact⟨_,rfl,rfl⟩ | rfl | exact⟨_,rfl⟩) (by first | rfl | kernel_rfl) rfl
theorem tt102:TtOk Try.prog 102 ⟨1,8,[.val (.pointer none)],.pointer,none⟩:=TtOk.of (z:=.pointer none) (by kernel_rfl) (by kernel_rfl) (by simp[Dens,Den,nilSV,nilLoc0,Value.cells]) (by simp[TT.agg,Value.cells]) Try.underlying102 (by first | exact⟨_,rfl,rfl⟩ | rfl | exact⟨_,rfl⟩) (by first | rfl | kernel_rfl) rfl
theorem tt104:TtOk Try.prog 104 ⟨1,8,[.val (.pointer none)],.pointer,none⟩:=TtOk.of (z:=.pointer none) (by kernel_rfl) (by kernel_rfl) (by simp[Dens,Den,nilSV,nilLoc0,Value.cells]) (by simp[TT.agg,Value.cells]) Try.underlying104 (by first | exact⟨_,rfl,rfl⟩ | rfl | exact⟨_,rfl⟩) (by first | rfl | kernel_rfl) rfl
theorem tt107:TtOk Try.prog 107 ⟨1,8,[.val (.pointer none)],.pointer,none⟩:=TtOk.of (z:=.pointer none) (by kernel_rfl) (by kernel_rfl) (by simp[Dens,Den,nilSV,nilLoc0,Value.cells]) (by simp[TT.agg,Value.cells]) Try.underlying107 (by first | exact⟨_,rfl,rfl⟩ | rfl | exact⟨_,rfl⟩) (by first | rfl | kernel_rfl) rfl
theorem tt110:TtOk Try.prog 110 ⟨1,8,[.val (.pointer none)],.pointer,none⟩:=TtOk.of (z:=.pointer none) (by kernel_rfl) (by kernel_rfl) (by simp[Dens,Den,nilSV,nilLoc0,Value.cells]) (by simp[TT.agg,Value.cells]) Try.underlying110 (by first | exact⟨_,rfl,rfl⟩ | rfl | exact⟨_,rfl⟩) (by first | rfl | kernel_rfl) rfl
theorem tt111:TtOk Try.prog 111 ⟨1,8,[.val (.pointer none)],.pointer,none⟩:=TtOk.of (z:=.pointer none) (by kernel_rfl) (by kernel_rfl) (by simp[Dens,Den,nilSV,nilLoc0,Value.cells]) (by simp[TT.agg,Value.cells]) Try.underlying111 (by first | exact⟨_,rfl,rfl⟩ | rfl | exact⟨_,rfl⟩) (by first | rfl | kernel_rfl) rfl
theorem tt112:TtOk Try.prog 112 ⟨3,24,[.val (.pointer none),.val (.pointer none),.int .i64 0],.struct [(0,111),(1,107),(2,25)],none⟩:=TtOk.of (z:=.agg #[.pointer none,.pointer none,.int .i64 0]) (by kernel_rfl) (by kernel_rfl) (by simp[Dens,Den,nilSV,nilLoc0,Value.cells]) (by simp[TT.agg,Value.cells]) Try.underlying112 (by first | exact⟨_,rfl,rfl⟩ | rfl | exact⟨_,rfl⟩) (by first | rfl | kernel_rfl) rfl
theorem tt113:TtOk Try.prog 113 ⟨3,24,[.val (.pointer none),.val (.pointer none),.int .i64 0],.struct [(0,111),(1,107),(2,25)],none⟩:=TtOk.of (z:=.agg #[.pointer none,.pointer none,.int .i64 0]) (by kernel_rfl) (by kernel_rfl) (by simp[Dens,Den,nilSV,nilLoc0,Value.cells]) (by simp[TT.agg,Value.cells]) Try.underlying113 (by first | exact⟨_,rfl,rfl⟩ | rfl | exact⟨_,rfl⟩) (by first | rfl | kernel_rfl) rfl
theorem tt115:TtOk Try.prog 115 ⟨1,8,[.int .u64 0],.int .u64,none⟩:=TtOk.of (z:=.int .u64 0) (by kernel_rfl) (by kernel_rfl) (by simp[Dens,Den,nilSV,nilLoc0,Value.cells]) (by simp[TT.agg,Value.cells]) Try.underlying115 (by first | exact⟨_,rfl,rfl⟩ | rfl | exact⟨_,rfl⟩) (by first | rfl | kernel_rfl) rfl
theorem tt116:TtOk Try.prog 116 ⟨2,16,[.int .u64 0,.int .u64 0],.struct [(0,115),(1,115)],(some [true,true])⟩:=TtOk.of (z:=.agg #[.int .u64 0,.int .u64 0]) (by kernel_rfl) (by kernel_rfl) (by simp[Dens,Den,nilSV,nilLoc0,Value.cells]) (by simp[TT.agg,Value.cells]) Try.underlying116 (by first | exact⟨_,rfl,rfl⟩ | rfl | exact⟨_,rfl⟩) (by first | rfl | kernel_rfl) rfl
theorem tt117:TtOk Try.prog 117 ⟨2,16,[.int .u64 0,.int .u64 0],.struct [(0,115),(1,115)],(some [true,true])⟩:=TtOk.of (z:=.agg #[.int .u64 0,.int .u64 0]) (by kernel_rfl) (by kernel_rfl) (by simp[Dens,Den,nilSV,nilLoc0,Value.cells]) (by simp[TT.agg,Value.cells]) Try.underlying117 (by first | exact⟨_,rfl,rfl⟩ | rfl | exact⟨_,rfl⟩) (by first | rfl | kernel_rfl) rfl
theorem tt118:TtOk Try.prog 118 ⟨9,104,[.int .i64 0,nilSV,.int .u64 0,.int .u64 0,nilSV,.int .i64 0,.int .u64 0,.int .i64 0,.bool false],.struct [(0,73),(2,117),(4,49),(5,3),(6,115),(7,3),(8,4)],none⟩:=TtOk.of (z:=.agg #[.int .i64 0,.slice none 0 0,.int .u64 0,.int .u64 0,.slice none 0 0,.int .i64 0,.int .u64 0,.int .i64 0,.bool false]) (by kernel_rfl) (by kernel_rfl) (by simp[Dens,Den,nilSV,nilLoc0,Value.cells]) (by simp[TT.agg,Value.cells]) Try.underlying118 (by first | exact⟨_,rfl,rfl⟩ | rfl | exact⟨_,rfl⟩) (by first | rfl | kernel_rfl) rfl
theorem tt119:TtOk Try.prog 119 ⟨9,104,[.int .i64 0,nilSV,.int .u64 0,.int .u64 0,nilSV,.int .i64 0,.int .u64 0,.int .i64 0,.bool false],.struct [(0,73),(2,117),(4,49),(5,3),(6,115),(7,3),(8,4)],none⟩:=TtOk.of (z:=.agg #[.int .i64 0,.slice none 0 0,.int .u64 0,.int .u64 0,.slice none 0 0,.int .i64 0,.int .u64 0,.int .i64 0,.bool false]) (by kernel_rfl) (by kernel_rfl) (by simp[Dens,Den,nilSV,nilLoc0,Value.cells]) (by simp[TT.agg,Value.cells]) Try.underlying119 (by first | exact⟨_,rfl,rfl⟩ | rfl | exact⟨_,rfl⟩) (by first | rfl | kernel_rfl) rfl
theorem tt120:TtOk Try.prog 120 ⟨1,24,[nilSV],.slice 134,none⟩:=TtOk.of (z:=.slice none 0 0) (by kernel_rfl) (by kernel_rfl) (by simp[Dens,Den,nilSV,nilLoc0,Value.cells]) (by simp[TT.agg,Value.cells]) Try.underlying120 (by first | exact⟨_,rfl,rfl⟩ | rfl | exact⟨_,rfl⟩) (by first | rfl | kernel_rfl) rfl
theorem tt121:TtOk Try.prog 121 ⟨1,24,[nilSV],.slice 168,none⟩:=TtOk.of (z:=.slice none 0 0) (by kernel_rfl) (by kernel_rfl) (by simp[Dens,Den,nilSV,nilLoc0,Value.cells]) (by simp[TT.agg,Value.cells]) Try.underlying121 (by first | exact⟨_,rfl,rfl⟩ | rfl | exact⟨_,rfl⟩) (by first | rfl | kernel_rfl) rfl
theorem tt122:TtOk Try.prog 122 ⟨8,160,[.int .i64 0,.int .i64 0,nilSV,nilSV,nilSV,nilSV,nilSV,nilSV],.struct [(0,3),(1,3),(2,120),(3,121),(4,22),(5,70),(6,22),(7,70)],none⟩:=TtOk.of (z:=.agg #[.int .i64 0,.int .i64 0,.slice none 0 0,.slice none 0 0,.slice none 0 0,.slice none 0 0,.slice none 0 0,.slice none 0 0]) (by kernel_rfl) (by kernel_rfl) (by simp[Dens,Den,nilSV,nilLoc0,Value.cells]) (by simp[TT.agg,Value.cells]) Try.underlying122 (by first | exact⟨_,rfl,rfl⟩ | rfl | exact⟨_,rfl⟩) (by first | rfl | kernel_rfl) rfl
theorem tt123:TtOk Try.prog 123 ⟨8,160,[.int .i64 0,.int .i64 0,nilSV,nilSV,nilSV,nilSV,nilSV,nilSV],.struct [(0,3),(1,3),(2,120),(3,121),(4,22),(5,70),(6,22),(7,70)],none⟩:=TtOk.of (z:=.agg #[.int .i64 0,.int .i64 0,.slice none 0 0,.slice none 0 0,.slice none 0 0,.slice none 0 0,.slice none 0 0,.slice none 0 0]) (by kernel_rfl) (by kernel_rfl) (by simp[Dens,Den,nilSV,nilLoc0,Value.cells]) (by simp[TT.agg,Value.cells]) Try.underlying123 (by first | exact⟨_,rfl,rfl⟩ | rfl | exact⟨_,rfl⟩) (by first | rfl | kernel_rfl) rfl
theorem tt133:TtOk Try.prog 133 ⟨6,48,[.int .i64 0,.int .i64 0,.int .i64 0,.int .i64 0,.int .i64 0,.int .i64 0],.struct [(0,3),(1,3),(2,3),(3,3),(4,3),(5,3)],(some [true,true,true,true,true,true])⟩:=TtOk.of (z:=.agg #[.int .i64 0,.int .i64 0,.int .i64 0,.int .i64 0,.int .i64 0,.int .i64 0]) (by kernel_rfl) (by kernel_rfl) (by simp[Dens,Den,nilSV,nilLoc0,Value.cells]) (by simp[TT.agg,Value.cells]) Try.underlying133 (by first | exact⟨_,rfl,rfl⟩ | rfl | exact⟨_,rfl⟩) (by first | rfl | kernel_rfl) rfl
theorem tt134:TtOk Try.prog 134 ⟨6,48,[.int .i64 0,.int .i64 0,.int .i64 0,.int .i64 0,.int .i64 0,.int .i64 0],.struct [(0,3),(1,3),(2,3),(3,3),(4,3),(5,3)],(some [true,true,true,true,true,true])⟩:=TtOk.of (z:=.agg #[.int .i64 0,.int .i64 0,.int .i64 0,.int .i64 0,.int .i64 0,.int .i64 0]) (by kernel_rfl) (by kernel_rfl) (by simp[Dens,Den,nilSV,nilLoc0,Value.cells]) (by simp[TT.agg,Value.cells]) Try.underlying134 (by first | exact⟨_,rfl,rfl⟩ | rfl | exact⟨_,rfl⟩) (by first | rfl | kernel_rfl) rfl
theorem tt137:TtOk Try.prog 137 ⟨32,256,[.int .i64 0,.int .i64 0,.int .i64 0,.int .i64 0,.int .i64 0,.int .i64 0,.int .i64 0,.int .i64 0,.int .i64 0,.int .i64 0,.int .i64 0,.int .i64 0,.int .i64 0,.int .i64 0,.int .i64 0,.int .i64 0,.int .i64 0,.int .i64 0,.int .i64 0,.int .i64 0,.int .i64 0,.int .i64 0,.int .i64 0,.int .i64 0,.int .i64 0,.int .i64 0,.int .i64 0,.int .i64 0,.int .i64 0,.int .i64 0,.int .i64 0,.int .i64 0],.array 32 3,(some [true,true,true,true,true,true,true,true,true,true,true,true,true,true,true,true,true,true,true,true,true,true,true,true,true,true,true,true,true,true,true,true])⟩:=TtOk.of (z:=.agg #[.int .i64 0,.int .i64 0,.int .i64 0,.int .i64 0,.int .i64 0,.int .i64 0,.int .i64 0,.int .i64 0,.int .i64 0,.int .i64 0,.int .i64 0,.int .i64 0,.int .i64 0,.int .i64 0,.int .i64 0,.int .i64 0,.int .i64 0,.int .i64 0,.int .i64 0,.int .i64 0,.int .i64 0,.int .i64 0,.int .i64 0,.int .i64 0,.int .i64 0,.int .i64 0,.int .i64 0,.int .i64 0,.int .i64 0,.int .i64 0,.int .i64 0,.int .i64 0]) (by kernel_rfl) (by kernel_rfl) (by simp[Dens,Den,nilSV,nilLoc0,Value.cells]) (by simp[TT.agg,Value.cells]) Try.underlying137 (by first | exact⟨_,rfl,rfl⟩ | rfl | exact⟨_,rfl⟩) (by first | rfl | kernel_rfl) rfl
theorem tt138:TtOk Try.prog 138 ⟨32,256,[.int .i64 0,.int .i64 0,.int .i64 0,.int .i64 0,.int .i64 0,.int .i64 0,.int .i64 0,.int .i64 0,.int .i64 0,.int .i64 0,.int .i64 0,.int .i64 0,.int .i64 0,.int .i64 0,.int .i64 0,.int .i64 0,.int .i64 0,.int .i64 0,.int .i64 0,.int .i64 0,.int .i64 0,.int .i64 0,.int .i64 0,.int .i64 0,.int .i64 0,.int .i64 0,.int .i64 0,.int .i64 0,.int .i64 0,.int .i64 0,.int .i64 0,.int .i64 0],.array 32 3,(some [true,true,true,true,true,true,true,true,true,true,true,true,true,true,true,true,true,true,true,true,true,true,true,true,true,true,true,true,true,true,true,true])⟩:=TtOk.of (z:=.agg #[.int .i64 0,.int .i64 0,.int .i64 0,.int .i64 0,.int .i64 0,.int .i64 0,.int .i64 0,.int .i64 0,.int .i64 0,.int .i64 0,.int .i64 0,.int .i64 0,.int .i64 0,.int .i64 0,.int .i64 0,.int .i64 0,.int .i64 0,.int .i64 0,.int .i64 0,.int .i64 0,.int .i64 0,.int .i64 0,.int .i64 0,.int .i64 0,.int .i64 0,.int .i64 0,.int .i64 0,.int .i64 0,.int .i64 0,.int .i64 0,.int .i64 0,.int .i64 0]) (by kernel_rfl) (by kernel_rfl) (by simp[Dens,Den,nilSV,nilLoc0,Value.cells]) (by simp[TT.agg,Value.cells]) Try.underlying138 (by first | exact⟨_,rfl,rfl⟩ | rfl | exact⟨_,rfl⟩) (by first | rfl | kernel_rfl) rfl
theorem tt139:TtOk Try.prog 139 ⟨36,304,[.int .i64 0,nilSV,.int .i64 0,.int .i64 0,.int .i64 0,.int .i64 0,.int .i64 0,.int .i64 0,.int .i64 0,.int .i64 0,.int .i64 0,.int .i64 0,.int .i64 0,.int .i64 0,.int .i64 0,.int .i64 0,.int .i64 0,.int .i64 0,.int .i64 0,.int .i64 0,.int .i64 0,.int .i64 0,.int .i64 0,.int .i64 0,.int .i64 0,.int .i64 0,.int .i64 0,.int .i64 0,.int .i64 0,.int .i64 0,.int .i64 0,.int .i64 0,.int .i64 0,.int .i64 0,.int .u64 0,.int .u64 0],.struct [(0,73),(2,138),(34,115),(35,115)],none⟩:=TtOk.of (z:=.agg #[.int .i64 0,.slice none 0 0,.int .i64 0,.int .i64 0,.int .i64 0,.int .i64 0,.int .i64 0,.int .i64 0,.int .i64 0,.int .i64 0,.int .i64 0,.int .i64 0,.int .i64 0,.int .i64 0,.int .i64 0,.int .i64 0,.int .i64 0,.int .i64 0,.int .i64 0,.int .i64 0,.int .i64 0,.int .i64 0,.int .i64 0,.int .i64 0,.int .i64 0,.int .i64 0,.int .i64 0,.int .i64 0,.int .i64 0,.int .i64 0,.int .i64 0,.int .i64 0,.int .i64 0,.int .i64 0,.int .u64 0,.int .u64 0]) (by kernel_rfl) (by kernel_rfl) (by simp[Dens,Den,nilSV,nilLoc0,Value.cells]) (by simp[TT.agg,Value.cells]) Try.underlying139 (by first | exact⟨_,rfl,rfl⟩ | rfl | exact⟨_,rfl⟩) (by first | rfl | kernel_rfl) rfl
theorem tt140:TtOk Try.prog 140 ⟨36,304,[.int .i64 0,nilSV,.int .i64 0,.int .i64 0,.int .i64 0,.int .i64 0,.int .i64 0,.int .i64 0,.int .i64 0,.int .i64 0,.int .i64 0,.int .i64 0,.int .i64 0,.int .i64 0,.int .i64 0,.int .i64 0,.int .i64 0,.int .i64 0,.int .i64 0,.int .i64 0,.int .i64 0,.int .i64 0,.int .i64 0,.int .i64 0,.int .i64 0,.int .i64 0,.int .i64 0,.int .i64 0,.int .i64 0,.int .i64 0,.int .i64 0,.int .i64 0,.int .i64 0,.int .i64 0,.int .u64 0,.int .u64 0],.struct [(0,73),(2,138),(34,115),(35,115)],none⟩:=TtOk.of (z:=.agg #[.int .i64 0,.slice none 0 0,.int .i64 0,.int .i64 0,.int .i64 0,.int .i64 0,.int .i64 0,.int .i64 0,.int .i64 0,.int .i64 0,.int .i64 0,.int .i64 0,.int .i64 0,.int .i64 0,.int .i64 0,.int .i64 0,.int .i64 0,.int .i64 0,.int .i64 0,.int .i64 0,.int .i64 0,.int .i64 0,.int .i64 0,.int .i64 0,.int .i64 0,.int .i64 0,.int .i64 0,.int .i64 0,.int .i64 0,.int .i64 0,.int .i64 0,.int .i64 0,.int .i64 0,.int .i64 0,.int .u64 0,.int .u64 0]) (by kernel_rfl) (by kernel_rfl) (by simp[Dens,Den,nilSV,nilLoc0,Value.cells]) (by simp[TT.agg,Value.cells]) Try.underlying140 (by first | exact⟨_,rfl,rfl⟩ | rfl | exact⟨_,rfl⟩) (by first | rfl | kernel_rfl) rfl
theorem tt142:TtOk Try.prog 142 ⟨38,336,[.int .i64 0,nilSV,.int .i64 0,.int .i64 0,.int .i64 0,.int .i64 0,.int .i64 0,.int .i64 0,.int .i64 0,.int .i64 0,.int .i64 0,.int .i64 0,.int .i64 0,.int .i64 0,.int .i64 0,.int .i64 0,.int .i64 0,.int .i64 0,.int .i64 0,.int .i64 0,.int .i64 0,.int .i64 0,.int .i64 0,.int .i64 0,.int .i64 0,.int .i64 0,.int .i64 0,.int .i64 0,.int .i64 0,.int .i64 0,.int .i64 0,.int .i64 0,.int .i64 0,.int .i64 0,.int .u64 0,.int .u64 0,nilSV,.bool false],.struct [(0,140),(36,49),(37,4)],none⟩:=TtOk.of (z:=.agg #[.int .i64 0,.slice none 0 0,.int .i64 0,.int .i64 0,.int .i64 0,.int .i64 0,.int .i64 0,.int .i64 0,.int .i64 0,.int .i64 0,.int .i64 0,.int .i64 0,.int .i64 0,.int .i64 0,.int .i64 0,.int .i64 0,.int .i64 0,.int .i64 0,.int .i64 0,.int .i64 0,.int .i64 0,.int .i64 0,.int .i64 0,.int .i64 0,.int .i64 0,.int .i64 0,.int .i64 0,.int .i64 0,.int .i64 0,.int .i64 0,.int .i64 0,.int .i64 0,.int .i64 0,.int .i64 0,.int .u64 0,.int .u64 0,.slice none 0 0,.bool false]) (by kernel_rfl) (by kernel_rfl) (by simp[Dens,Den,nilSV,nilLoc0,Value.cells]) (by simp[TT.agg,Value.cells]) Try.underlying142 (by first | exact⟨_,rfl,rfl⟩ | rfl | exact⟨_,rfl⟩) (by first | rfl | kernel_rfl) rfl
theorem tt143:TtOk Try.prog 143 ⟨38,336,[.int .i64 0,nilSV,.int .i64 0,.int .i64 0,.int .i64 0,.int .i64 0,.int .i64 0,.int .i64 0,.int .i64 0,.int .i64 0,.int .i64 0,.int .i64 0,.int .i64 0,.int .i64 0,.int .i64 0,.int .i64 0,.int .i64 0,.int .i64 0,.int .i64 0,.int .i64 0,.int .i64 0,.int .i64 0,.int .i64 0,.int .i64 0,.int .i64 0,.int .i64 0,.int .i64 0,.int .i64 0,.int .i64 0,.int .i64 0,.int .i64 0,.int .i64 0,.int .i64 0,.int .i64 0,.int .u64 0,.int .u64 0,nilSV,.bool false],.struct [(0,140),(36,49),(37,4)],none⟩:=TtOk.of (z:=.agg #[.int .i64 0,.slice none 0 0,.int .i64 0,.int .i64 0,.int .i64 0,.int .i64 0,.int .i64 0,.int .i64 0,.int .i64 0,.int .i64 0,.int .i64 0,.int .i64 0,.int .i64 0,.int .i64 0,.int .i64 0,.int .i64 0,.int .i64 0,.int .i64 0,.int .i64 0,.int .i64 0,.int .i64 0,.int .i64 0,.int .i64 0,.int .i64 0,.int .i64 0,.int .i64 0,.int .i64 0,.int .i64 0,.int .i64 0,.int .i64 0,.int .i64 0,.int .i64 0,.int .i64 0,.int .i64 0,.int .u64 0,.int .u64 0,.slice none 0 0,.bool false]) (by kernel_rfl) (by kernel_rfl) (by simp[Dens,Den,nilSV,nilLoc0,Value.cells]) (by simp[TT.agg,Value.cells]) Try.underlying143 (by first | exact⟨_,rfl,rfl⟩ | rfl | exact⟨_,rfl⟩) (by first | rfl | kernel_rfl) rfl
theorem tt146:TtOk Try.prog 146 ⟨1,8,[.val (.pointer none)],.pointer,none⟩:=TtOk.of (z:=.pointer none) (by kernel_rfl) (by kernel_rfl) (by simp[Dens,Den,nilSV,nilLoc0,Value.cells]) (by simp[TT.agg,Value.cells]) Try.underlying146 (by first | exact⟨_,rfl,rfl⟩ | rfl | exact⟨_,rfl⟩) (by first | rfl | kernel_rfl) rfl
theorem tt147:TtOk Try.prog 147 ⟨4,48,[nilSV,.int .i64 0,.int .i64 0,.bool false],.struct [(0,22),(1,3),(2,3),(3,4)],none⟩:=TtOk.of (z:=.agg #[.slice none 0 0,.int .i64 0,.int .i64 0,.bool false]) (by kernel_rfl) (by kernel_rfl) (by simp[Dens,Den,nilSV,nilLoc0,Value.cells]) (by simp[TT.agg,Value.cells]) Try.underlying147 (by first | exact⟨_,rfl,rfl⟩ | rfl | exact⟨_,rfl⟩) (by first | rfl | kernel_rfl) rfl
theorem tt148:TtOk Try.prog 148 ⟨4,48,[nilSV,.int .i64 0,.int .i64 0,.bool false],.struct [(0,22),(1,3),(2,3),(3,4)],none⟩:=TtOk.of (z:=.agg #[.slice none 0 0,.int .i64 0,.int .i64 0,.bool false]) (by kernel_rfl) (by kernel_rfl) (by simp[Dens,Den,nilSV,nilLoc0,Value.cells]) (by simp[TT.agg,Value.cells]) Try.underlying148 (by first | exact⟨_,rfl,rfl⟩ | rfl | exact⟨_,rfl⟩) (by first | rfl | kernel_rfl) rfl
theorem tt158:TtOk Try.prog 158 ⟨42,360,[.int .i64 0,nilSV,.int .i64 0,.int .i64 0,.int .i64 0,.int .i64 0,.int .i64 0,.int .i64 0,.int .i64 0,.int .i64 0,.int .i64 0,.int .i64 0,.int .i64 0,.int .i64 0,.int .i64 0,.int .i64 0,.int .i64 0,.int .i64 0,.int .i64 0,.int .i64 0,.int .i64 0,.int .i64 0,.int .i64 0,.int .i64 0,.int .i64 0,.int .i64 0,.int .i64 0,.int .i64 0,.int .i64 0,.int .i64 0,.int .i64 0,.int .i64 0,.int .i64 0,.int .i64 0,.int .u64 0,.int .u64 0,nilSV,.int .i64 0,.int .u64 0,.int .i64 0,.bool false,.bool false],.struct [(0,140),(36,49),(37,3),(38,115),(39,3),(40,4),(41,4)],none⟩:=TtOk.of (z:=.agg #[.int .i64 0,.slice none 0 0,.int .i64 0,.int .i64 0,.int .i64 0,.int .i64 0,.int .i64 0,.int .i64 0,.int .i64 0,.int .i64 0,.int .i64 0,.int .i64 0,.int .i64 0,.int .i64 0,.int .i64 0,.int .i64 0,.int .i64 0,.int .i64 0,.int .i64 0,.int .i64 0,.int .i64 0,.int .i64 0,.int .i64 0,.int .i64 0,.int .i64 0,.int .i64 0,.int .i64 0,.int .i64 0,.int .i64 0,.int .i64 0,.int .i64 0,.int .i64 0,.int .i64 0,.int .i64 0,.int .u64 0,.int .u64 0,.slice none 0 0,.int .i64 0,.int .u64 0,.int .i64 0,.bool false,.bool false]) (by kernel_rfl) (by kernel_rfl) (by simp[Dens,Den,nilSV,nilLoc0,Value.cells]) (by simp[TT.agg,Value.cells]) Try.underlying158 (by first | exact⟨_,rfl,rfl⟩ | rfl | exact⟨_,rfl⟩) (by first | rfl | kernel_rfl) rfl
theorem tt159:TtOk Try.prog 159 ⟨42,360,[.int .i64 0,nilSV,.int .i64 0,.int .i64 0,.int .i64 0,.int .i64 0,.int .i64 0,.int .i64 0,.int .i64 0,.int .i64 0,.int .i64 0,.int .i64 0,.int .i64 0,.int .i64 0,.int .i64 0,.int .i64 0,.int .i64 0,.int .i64 0,.int .i64 0,.int .i64 0,.int .i64 0,.int .i64 0,.int .i64 0,.int .i64 0,.int .i64 0,.int .i64 0,.int .i64 0,.int .i64 0,.int .i64 0,.int .i64 0,.int .i64 0,.int .i64 0,.int .i64 0,.int .i64 0,.int .u64 0,.int .u64 0,nilSV,.int .i64 0,.int .u64 0,.int .i64 0,.bool false,.bool false],.struct [(0,140),(36,49),(37,3),(38,115),(39,3),(40,4),(41,4)],none⟩:=TtOk.of (z:=.agg #[.int .i64 0,.slice none 0 0,.int .i64 0,.int .i64 0,.int .i64 0,.int .i64 0,.int .i64 0,.int .i64 0,.int .i64 0,.int .i64 0,.int .i64 0,.int .i64 0,.int .i64 0,.int .i64 0,.int .i64 0,.int .i64 0,.int .i64 0,.int .i64 0,.int .i64 0,.int .i64 0,.int .i64 0,.int .i64 0,.int .i64 0,.int .i64 0,.int .i64 0,.int .i64 0,.int .i64 0,.int .i64 0,.int .i64 0,.int .i64 0,.int .i64 0,.int .i64 0,.int .i64 0,.int .i64 0,.int .u64 0,.int .u64 0,.slice none 0 0,.int .i64 0,.int .u64 0,.int .i64 0,.bool false,.bool false]) (by kernel_rfl) (by kernel_rfl) (by simp[Dens,Den,nilSV,nilLoc0,Value.cells]) (by simp[TT.agg,Value.cells]) Try.underlying159 (by first | exact⟨_,rfl,rfl⟩ | rfl | exact⟨_,rfl⟩) (by first | rfl | kernel_rfl) rfl
theorem tt167:TtOk Try.prog 167 ⟨8,64,[.int .i64 0,.int .i64 0,.int .i64 0,.int .i64 0,.int .i64 0,.int .i64 0,.int .i64 0,.int .i64 0],.struct [(0,3),(1,3),(2,3),(3,3),(4,3),(5,3),(6,3),(7,3)],(some [true,true,true,true,true,true,true,true])⟩:=TtOk.of (z:=.agg #[.int .i64 0,.int .i64 0,.int .i64 0,.int .i64 0,.int .i64 0,.int .i64 0,.int .i64 0,.int .i64 0]) (by kernel_rfl) (by kernel_rfl) (by simp[Dens,Den,nilSV,nilLoc0,Value.cells]) (by simp[TT.agg,Value.cells]) Try.underlying167 (by first | exact⟨_,rfl,rfl⟩ | rfl | exact⟨_,rfl⟩) (by first | rfl | kernel_rfl) rfl
theorem tt168:TtOk Try.prog 168 ⟨8,64,[.int .i64 0,.int .i64 0,.int .i64 0,.int .i64 0,.int .i64 0,.int .i64 0,.int .i64 0,.int .i64 0],.struct [(0,3),(1,3),(2,3),(3,3),(4,3),(5,3),(6,3),(7,3)],(some [true,true,true,true,true,true,true,true])⟩:=TtOk.of (z:=.agg #[.int .i64 0,.int .i64 0,.int .i64 0,.int .i64 0,.int .i64 0,.int .i64 0,.int .i64 0,.int .i64 0]) (by kernel_rfl) (by kernel_rfl) (by simp[Dens,Den,nilSV,nilLoc0,Value.cells]) (by simp[TT.agg,Value.cells]) Try.underlying168 (by first | exact⟨_,rfl,rfl⟩ | rfl | exact⟨_,rfl⟩) (by first | rfl | kernel_rfl) rfl
theorem tt175:TtOk Try.prog 175 ⟨1,24,[nilSV],.slice 177,none⟩:=TtOk.of (z:=.slice none 0 0) (by kernel_rfl) (by kernel_rfl) (by simp[Dens,Den,nilSV,nilLoc0,Value.cells]) (by simp[TT.agg,Value.cells]) Try.underlying175 (by first | exact⟨_,rfl,rfl⟩ | rfl | exact⟨_,rfl⟩) (by first | rfl | kernel_rfl) rfl
theorem tt176:TtOk Try.prog 176 ⟨9,72,[.int .i64 0,.int .i64 0,.int .i64 0,.int .i64 0,.int .i64 0,.int .i64 0,.int .i64 0,.int .i64 0,.int .i64 0],.struct [(0,134),(6,3),(7,3),(8,3)],none⟩:=TtOk.of (z:=.agg #[.int .i64 0,.int .i64 0,.int .i64 0,.int .i64 0,.int .i64 0,.int .i64 0,.int .i64 0,.int .i64 0,.int .i64 0]) (by kernel_rfl) (by kernel_rfl) (by simp[Dens,Den,nilSV,nilLoc0,Value.cells]) (by simp[TT.agg,Value.cells]) Try.underlying176 (by first | exact⟨_,rfl,rfl⟩ | rfl | exact⟨_,rfl⟩) (by first | rfl | kernel_rfl) rfl
theorem tt177:TtOk Try.prog 177 ⟨9,72,[.int .i64 0,.int .i64 0,.int .i64 0,.int .i64 0,.int .i64 0,.int .i64 0,.int .i64 0,.int .i64 0,.int .i64 0],.struct [(0,134),(6,3),(7,3),(8,3)],none⟩:=TtOk.of (z:=.agg #[.int .i64 0,.int .i64 0,.int .i64 0,.int .i64 0,.int .i64 0,.int .i64 0,.int .i64 0,.int .i64 0,.int .i64 0]) (by kernel_rfl) (by kernel_rfl) (by simp[Dens,Den,nilSV,nilLoc0,Value.cells]) (by simp[TT.agg,Value.cells]) Try.underlying177 (by first | exact⟨_,rfl,rfl⟩ | rfl | exact⟨_,rfl⟩) (by first | rfl | kernel_rfl) rfl
theorem tt178:TtOk Try.prog 178 ⟨1,8,[.val (.pointer none)],.pointer,none⟩:=TtOk.of (z:=.pointer none) (by kernel_rfl) (by kernel_rfl) (by simp[Dens,Den,nilSV,nilLoc0,Value.cells]) (by simp[TT.agg,Value.cells]) Try.underlying178 (by first | exact⟨_,rfl,rfl⟩ | rfl | exact⟨_,rfl⟩) (by first | rfl | kernel_rfl) rfl
theorem tt183:TtOk Try.prog 183 ⟨1,4,[.int .u32 0],.int .u32,none⟩:=TtOk.of (z:=.int .u32 0) (by kernel_rfl) (by kernel_rfl) (by simp[Dens,Den,nilSV,nilLoc0,Value.cells]) (by simp[TT.agg,Value.cells]) Try.underlying183 (by first | exact⟨_,rfl,rfl⟩ | rfl | exact⟨_,rfl⟩) (by first | rfl | kernel_rfl) rfl
theorem tt187:TtOk Try.prog 187 ⟨1,8,[.val (.pointer none)],.pointer,none⟩:=TtOk.of (z:=.pointer none) (by kernel_rfl) (by kernel_rfl) (by simp[Dens,Den,nilSV,nilLoc0,Value.cells]) (by simp[TT.agg,Value.cells]) Try.underlying187 (by first | exact⟨_,rfl,rfl⟩ | rfl | exact⟨_,rfl⟩) (by first | rfl | kernel_rfl) rfl
theorem tt189:TtOk Try.prog 189 ⟨1,8,[.int .i64 0],.struct [(0,3)],(some [true])⟩:=TtOk.of (z:=.agg #[.int .i64 0]) (by kernel_rfl) (by kernel_rfl) (by simp[Dens,Den,nilSV,nilLoc0,Value.cells]) (by simp[TT.agg,Value.cells]) Try.underlying189 (by first | exact⟨_,rfl,rfl⟩ | rfl | exact⟨_,rfl⟩) (by first | rfl | kernel_rfl) rfl
theorem tt190:TtOk Try.prog 190 ⟨1,8,[.int .i64 0],.struct [(0,3)],(some [true])⟩:=TtOk.of (z:=.agg #[.int .i64 0]) (by kernel_rfl) (by kernel_rfl) (by simp[Dens,Den,nilSV,nilLoc0,Value.cells]) (by simp[TT.agg,Value.cells]) Try.underlying190 (by first | exact⟨_,rfl,rfl⟩ | rfl | exact⟨_,rfl⟩) (by first | rfl | kernel_rfl) rfl
theorem tt195:TtOk Try.prog 195 ⟨1,8,[.val (.pointer none)],.pointer,none⟩:=TtOk.of (z:=.pointer none) (by kernel_rfl) (by kernel_rfl) (by simp[Dens,Den,nilSV,nilLoc0,Value.cells]) (by simp[TT.agg,Value.cells]) Try.underlying195 (by first | exact⟨_,rfl,rfl⟩ | rfl | exact⟨_,rfl⟩) (by first | rfl | kernel_rfl) rfl
theorem tt198:TtOk Try.prog 198 ⟨5,72,[.int .i64 0,nilSV,.int .u64 0,.int .u64 0,nilSV],.struct [(0,73),(2,117),(4,49)],none⟩:=TtOk.of (z:=.agg #[.int .i64 0,.slice none 0 0,.int .u64 0,.int .u64 0,.slice none 0 0]) (by kernel_rfl) (by kernel_rfl) (by simp[Dens,Den,nilSV,nilLoc0,Value.cells]) (by simp[TT.agg,Value.cells]) Try.underlying198 (by first | exact⟨_,rfl,rfl⟩ | rfl | exact⟨_,rfl⟩) (by first | rfl | kernel_rfl) rfl
theorem tt199:TtOk Try.prog 199 ⟨5,72,[.int .i64 0,nilSV,.int .u64 0,.int .u64 0,nilSV],.struct [(0,73),(2,117),(4,49)],none⟩:=TtOk.of (z:=.agg #[.int .i64 0,.slice none 0 0,.int .u64 0,.int .u64 0,.slice none 0 0]) (by kernel_rfl) (by kernel_rfl) (by simp[Dens,Den,nilSV,nilLoc0,Value.cells]) (by simp[TT.agg,Value.cells]) Try.underlying199 (by first | exact⟨_,rfl,rfl⟩ | rfl | exact⟨_,rfl⟩) (by first | rfl | kernel_rfl) rfl
theorem tt202:TtOk Try.prog 202 ⟨4,40,[.val (.pointer none),.val (.pointer none),.val (.pointer none),.val (.string ⟨#[]⟩)],.struct [(0,17),(1,17),(2,17),(3,9)],none⟩:=TtOk.of (z:=.agg #[.pointer none,.pointer none,.pointer none,.string ⟨#[]⟩]) (by kernel_rfl) (by kernel_rfl) (by simp[Dens,Den,nilSV,nilLoc0,Value.cells]) (by simp[TT.agg,Value.cells]) Try.underlying202 (by first | exact⟨_,rfl,rfl⟩ | rfl | exact⟨_,rfl⟩) (by first | rfl | kernel_rfl) rfl
theorem tt203:TtOk Try.prog 203 ⟨4,40,[.val (.pointer none),.val (.pointer none),.val (.pointer none),.val (.string ⟨#[]⟩)],.struct [(0,17),(1,17),(2,17),(3,9)],none⟩:=TtOk.of (z:=.agg #[.pointer none,.pointer none,.pointer none,.string ⟨#[]⟩]) (by kernel_rfl) (by kernel_rfl) (by simp[Dens,Den,nilSV,nilLoc0,Value.cells]) (by simp[TT.agg,Value.cells]) Try.underlying203 (by first | exact⟨_,rfl,rfl⟩ | rfl | exact⟨_,rfl⟩) (by first | rfl | kernel_rfl) rfl
theorem tt204:TtOk Try.prog 204 ⟨0,0,[],.array 0 16,none⟩:=TtOk.of (z:=.agg #[]) (by kernel_rfl) (by kernel_rfl) (by simp[Dens,Den,nilSV,nilLoc0,Value.cells]) (by simp[TT.agg,Value.cells]) Try.underlying204 (by first | exact⟨_,rfl,rfl⟩ | rfl | exact⟨_,rfl⟩) (by first | rfl | kernel_rfl) rfl
theorem tt205:TtOk Try.prog 205 ⟨0,0,[],.struct [(0,204)],none⟩:=TtOk.of (z:=.agg #[]) (by kernel_rfl) (by kernel_rfl) (by simp[Dens,Den,nilSV,nilLoc0,Value.cells]) (by simp[TT.agg,Value.cells]) Try.underlying205 (by first | exact⟨_,rfl,rfl⟩ | rfl | exact⟨_,rfl⟩) (by first | rfl | kernel_rfl) rfl
theorem tt206:TtOk Try.prog 206 ⟨0,0,[],.struct [(0,204)],none⟩:=TtOk.of (z:=.agg #[]) (by kernel_rfl) (by kernel_rfl) (by simp[Dens,Den,nilSV,nilLoc0,Value.cells]) (by simp[TT.agg,Value.cells]) Try.underlying206 (by first | exact⟨_,rfl,rfl⟩ | rfl | exact⟨_,rfl⟩) (by first | rfl | kernel_rfl) rfl
theorem tt207:TtOk Try.prog 207 ⟨1,1,[.int .u8 0],.int .u8,none⟩:=TtOk.of (z:=.int .u8 0) (by kernel_rfl) (by kernel_rfl) (by simp[Dens,Den,nilSV,nilLoc0,Value.cells]) (by simp[TT.agg,Value.cells]) Try.underlying207 (by first | exact⟨_,rfl,rfl⟩ | rfl | exact⟨_,rfl⟩) (by first | rfl | kernel_rfl) rfl
theorem tt208:TtOk Try.prog 208 ⟨1,1,[.int .u8 0],.int .u8,none⟩:=TtOk.of (z:=.int .u8 0) (by kernel_rfl) (by kernel_rfl) (by simp[Dens,Den,nilSV,nilLoc0,Value.cells]) (by simp[TT.agg,Value.cells]) Try.underlying208 (by first | exact⟨_,rfl,rfl⟩ | rfl | exact⟨_,rfl⟩) (by first | rfl | kernel_rfl) rfl
theorem tt210:TtOk Try.prog 210 ⟨1,8,[.val (.pointer none)],.pointer,none⟩:=TtOk.of (z:=.pointer none) (by kernel_rfl) (by kernel_rfl) (by simp[Dens,Den,nilSV,nilLoc0,Value.cells]) (by simp[TT.agg,Value.cells]) Try.underlying210 (by first | exact⟨_,rfl,rfl⟩ | rfl | exact⟨_,rfl⟩) (by first | rfl | kernel_rfl) rfl
theorem tt211:TtOk Try.prog 211 ⟨1,4,[.int .i32 0],.int .i32,none⟩:=TtOk.of (z:=.int .i32 0) (by kernel_rfl) (by kernel_rfl) (by simp[Dens,Den,nilSV,nilLoc0,Value.cells]) (by simp[TT.agg,Value.cells]) Try.underlying211 (by first | exact⟨_,rfl,rfl⟩ | rfl | exact⟨_,rfl⟩) (by first | rfl | kernel_rfl) rfl
theorem tt212:TtOk Try.prog 212 ⟨1,4,[.int .i32 0],.int .i32,none⟩:=TtOk.of (z:=.int .i32 0) (by kernel_rfl) (by kernel_rfl) (by simp[Dens,Den,nilSV,nilLoc0,Value.cells]) (by simp[TT.agg,Value.cells]) Try.underlying212 (by first | exact⟨_,rfl,rfl⟩ | rfl | exact⟨_,rfl⟩) (by first | rfl | kernel_rfl) rfl
theorem tt213:TtOk Try.prog 213 ⟨11,48,[.int .u64 0,.int .u64 0,.int .u32 0,.int .u8 0,.int .u8 0,.int .u8 0,.int .u8 0,.val .nilFunc,.val (.pointer none),.int .i32 0,.int .i32 0],.struct [(0,12),(1,12),(2,183),(3,207),(4,5),(5,5),(6,208),(7,209),(8,210),(9,211),(10,212)],none⟩:=TtOk.of (z:=.agg #[.int .u64 0,.int .u64 0,.int .u32 0,.int .u8 0,.int .u8 0,.int .u8 0,.int .u8 0,.nilFunc,.pointer none,.int .i32 0,.int .i32 0]) (by kernel_rfl) (by kernel_rfl) (by simp[Dens,Den,nilSV,nilLoc0,Value.cells]) (by simp[TT.agg,Value.cells]) Try.underlying213 (by first | exact⟨_,rfl,rfl⟩ | rfl | exact⟨_,rfl⟩) (by first | rfl | kernel_rfl) rfl
theorem tt214:TtOk Try.prog 214 ⟨11,48,[.int .u64 0,.int .u64 0,.int .u32 0,.int .u8 0,.int .u8 0,.int .u8 0,.int .u8 0,.val .nilFunc,.val (.pointer none),.int .i32 0,.int .i32 0],.struct [(0,12),(1,12),(2,183),(3,207),(4,5),(5,5),(6,208),(7,209),(8,210),(9,211),(10,212)],none⟩:=TtOk.of (z:=.agg #[.int .u64 0,.int .u64 0,.int .u32 0,.int .u8 0,.int .u8 0,.int .u8 0,.int .u8 0,.nilFunc,.pointer none,.int .i32 0,.int .i32 0]) (by kernel_rfl) (by kernel_rfl) (by simp[Dens,Den,nilSV,nilLoc0,Value.cells]) (by simp[TT.agg,Value.cells]) Try.underlying214 (by first | exact⟨_,rfl,rfl⟩ | rfl | exact⟨_,rfl⟩) (by first | rfl | kernel_rfl) rfl
theorem hT:∀ t tt,tab t=some tt->TtOk Try.prog t tt:=by
 intro t tt h
 unfold tab at h
 split at h
 ·cases h;exact tt2
 ·cases h;exact tt3
 ·cases h;exact tt4
 ·cases h;exact tt5
 ·cases h;exact tt6
 ·cases h;exact tt7
 ·cases h;exact tt8
 ·cases h;exact tt9
 ·cases h;exact tt12
 ·cases h;exact tt13
 ·cases h;exact tt14
 ·cases h;exact tt15
 ·cases h;exact tt16
 ·cases h;exact tt17
 ·cases h;exact tt18
 ·cases h;exact tt19
 ·cases h;exact tt21
 ·cases h;exact tt22
 ·cases h;exact tt23
 ·cases h;exact tt24
 ·cases h;exact tt25
 ·cases h;exact tt29
 ·cases h;exact tt37
 ·cases h;exact tt38
 ·cases h;exact tt39
 ·cases h;exact tt40
 ·cases h;exact tt44
 ·cases h;exact tt49
 ·cases h;exact tt53
 ·cases h;exact tt55
 ·cases h;exact tt56
 ·cases h;exact tt57
 ·cases h;exact tt59
 ·cases h;exact tt64
 ·cases h;exact tt67
 ·cases h;exact tt70
 ·cases h;exact tt71
 ·cases h;exact tt72
 ·cases h;exact tt73
 ·cases h;exact tt74
 ·cases h;exact tt75
 ·cases h;exact tt81
 ·cases h;exact tt91
 ·cases h;exact tt94
 ·cases h;exact tt95
 ·cases h;exact tt97
 ·cases h;exact tt98
 ·cases h;exact tt100
 ·cases h;exact tt102
 ·cases h;exact tt104
 ·cases h;exact tt107
 ·cases h;exact tt110
 ·cases h;exact tt111
 ·cases h;exact tt112
 ·cases h;exact tt113
 ·cases h;exact tt115
 ·cases h;exact tt116
 ·cases h;exact tt117
 ·cases h;exact tt118
 ·cases h;exact tt119
 ·cases h;exact tt120
 ·cases h;exact tt121
 ·cases h;exact tt122
 ·cases h;exact tt123
 ·cases h;exact tt133
 ·cases h;exact tt134
 ·cases h;exact tt137
 ·cases h;exact tt138
 ·cases h;exact tt139
 ·cases h;exact tt140
 ·cases h;exact tt142
 ·cases h;exact tt143
 ·cases h;exact tt146
 ·cases h;exact tt147
 ·cases h;exact tt148
 ·cases h;exact tt158
 ·cases h;exact tt159
 ·cases h;exact tt167
 ·cases h;exact tt168
 ·cases h;exact tt175
 ·cases h;exact tt176
 ·cases h;exact tt177
 ·cases h;exact tt178
 ·cases h;exact tt183
 ·cases h;exact tt187
 ·cases h;exact tt189
 ·cases h;exact tt190
 ·cases h;exact tt195
 ·cases h;exact tt198
 ·cases h;exact tt199
 ·cases h;exact tt202
 ·cases h;exact tt203
 ·cases h;exact tt204
 ·cases h;exact tt205
 ·cases h;exact tt206
 ·cases h;exact tt207
 ·cases h;exact tt208
 ·cases h;exact tt210
 ·cases h;exact tt211
 ·cases h;exact tt212
 ·cases h;exact tt213
 ·cases h;exact tt214
 ·cases h
def isP:FuncId->Bool:=fun f=>f==92||f==121||f==46||f==47||f==54||f==105||f==61||f==56||f==29||f==70||f==127||f==100||f==123||f==117||f==118||f==112||f==111||f==71||f==137||f==131||f==133||f==136||f==132||f==134||f==135||f==97||f==55
theorem mixed:Try.prog.follows .mixedOrders=true:=by kernel_rfl
theorem hyp {l:List (FuncId×Entry)} {lp:List (FuncId×EntryP)} (h:allOk Try.prog l) (hp:allPOk Try.prog lp):Hyp Try.prog tab isP (spList l) (spPList lp) chkAll:=
 ⟨hT,spPList_ok hp,spList_ok h,draw_ok mixed hT (spPList_ok hp) (spList_ok h)⟩
def SidesOk (w h:Int):Prop:=0<=w/\0<=h/\w<=200/\h<=200/\w*h<=8192
instance (w h:Int):Decidable (SidesOk w h):=by unfold SidesOk;infer_instance
def ValOk (n:Int):Prop:=0<=n/\n<=255
instance (n:Int):Decidable (ValOk n):=by unfold ValOk;infer_instance
theorem SidesOk.bd {w h:Int} (H:SidesOk w h):0<=w*h/\w*h<=8192:=⟨Int.mul_nonneg H.1 H.2.1,H.2.2.2.2⟩
def b104_1:IR:=
 .seq (r_ [b_ 9 .lss 8 7] []) (.seq (.cond (.t 9) (.skip) (.exit 0)) (.seq (.block 1 (.seq (r_ [m_ 10 8,m_ 5 10] [9,10]) (.seq (r_ [m_ 11 1,m_ 12 0,m_ 13 5,i_ 14 12 13 1,L_ 15 14,o_ 16 (.callv (some 4) 10 (.t 11) [.t 15])] [11,12,13,14,15]) (.cond (.t 16) (.seq (r_ [m_ 17 5,m_ 4 17] [0,1,5,7,8,16,17]) (.ret)) (.skip))))) (r_ [a_ 18 8 1,m_ 8 18] [4,5,16,18])))
def r104_2:IR:=
 .seq (r_ [z_ 4 (-1)] [0,1,7,8]) (.ret)
def ir104:IR:=
 .seq (r_ [z_ 4 0] [4]) (.seq (.seq (r_ [m_ 6 0,h_ 7 6,z_ 8 0] [6]) (.block 0 (.loop b104_1))) (r104_2))
def kp104_1:List Nat:=[0,1,7,8]
def kl104_1:List Nat:=[10,11,12,13]
attribute [push_cast] kp104_1 kl104_1
set_option maxRecDepth 4000 in
theorem comp104:(Try.f104.body.bind fun c=>compC tab isP chkAll ir104 c)=some ir104:=by kernel_rfl
def ir62:IR:=
 .seq (r_ [o_ 4 (.mov (.k (.bool false)))] [4]) (.seq (r_ [m_ 5 0,m_ 6 1,o_ 7 (.call (some 4) 10 104 [.t 5,.t 6]),c_ 8 .geq 7 0,m_ 4 8] [0,1,5,6,7,8]) (.ret))
set_option maxRecDepth 4000 in
theorem comp62:(Try.f62.body.bind fun c=>compC tab isP chkAll ir62 c)=some ir62:=by kernel_rfl
structure RowA where
 L:Xf.Loc
 xs:List Int
def AllVal (xs:List Int):Prop:=∀ n∈xs,ValOk n
instance (xs:List Int):Decidable (AllVal xs):=by unfold AllVal;infer_instance
structure RowN where
 L:Xf.Loc
 xs:List Int
 n:Int
structure Im where
 w:Int
 h:Int
 R:List Int
 G:List Int
 B:List Int
structure ImA where
 i:Im
 L1:Xf.Loc
 L2:Xf.Loc
 L3:Xf.Loc
def Im.Ok (i:Im):Prop:=SidesOk i.w i.h/\(i.R.length=i.w*i.h/\AllVal i.R)/\(i.G.length=i.w*i.h/\AllVal i.G)/\(i.B.length=i.w*i.h/\AllVal i.B)
instance (i:Im):Decidable i.Ok:=by unfold Im.Ok;infer_instance
structure WH where
 w:Int
 h:Int
structure SetA where
 i:Im
 L:Xf.Loc
 L1:Xf.Loc
 L2:Xf.Loc
 L3:Xf.Loc
 k:Int
 r:Int
 g:Int
 b:Int
 n1:Int
 n2:Int
 n3:Int
structure NewA where
 w:Int
 h:Int
 r:Int
 g:Int
 b:Int
def NewA.Ok (a:NewA):Prop:=SidesOk a.w a.h/\ValOk a.r/\ValOk a.g/\ValOk a.b
instance (a:NewA):Decidable a.Ok:=by unfold NewA.Ok;infer_instance
theorem allVal_rd {xs:List Int}:AllVal xs↔∀ j:Nat,j<xs.length->ValOk (rd xs j):=by
 unfold AllVal
 constructor
 ·intro h j hj;rw[rd_lt xs j hj];exact h _ (List.getElem_mem hj)
 ·intro h x hx
  obtain⟨j,hj,rfl⟩:=List.getElem_of_mem hx
  have:=h j hj
  rwa [rd_lt xs j hj]at this
def Im.Eq (a b:Im):Prop:=a.w=b.w/\a.h=b.h/\a.R=b.R/\a.G=b.G/\a.B=b.B
instance (a b:Im):Decidable (a.Eq b):=by unfold Im.Eq;infer_instance
structure Im2 where
 a:ImA
 b:ImA
structure Pl where
 w:Int
 h:Int
 xs:List Int
def plV (p:Pl) (L:Xf.Loc) (c:Nat):SV:=.agg [.int .i64 p.w,.int .i64 p.h,.sl c L 1 0 p.xs.length]
attribute [push_cast] plV
theorem Im.Ok.val {i:Im} (h:i.Ok):i.G.length=i.R.length/\i.B.length=i.R.length/\∀ k:Nat,k<i.R.length->(0<=rd i.R (k:Nat)/\rd i.R (k:Nat)<=255)/\(0<=rd i.G (k:Nat)/\rd i.G (k:Nat)<=255)/\(0<=rd i.B (k:Nat)/\rd i.B (k:Nat)<=255):=by
 obtain⟨_,⟨a,x⟩,⟨b,y⟩,⟨c,z⟩⟩:=h
 have e1:i.G.length=i.R.length:=by omega
 have e2:i.B.length=i.R.length:=by omega
 exact⟨e1,e2,fun k hk=>⟨allVal_rd.1 x k hk,allVal_rd.1 y k (by omega),allVal_rd.1 z k (by omega)⟩⟩
structure CutA where
 a:ImA
 x:Int
 y:Int
 w:Int
 h:Int
def CutA.In (c:CutA):Prop:=0<=c.x/\0<=c.y/\0<=c.w/\0<=c.h/\c.x+c.w<=c.a.i.w/\c.y+c.h<=c.a.i.h
instance (c:CutA):Decidable c.In:=by unfold CutA.In;infer_instance
def CutA.Ok (c:CutA):Prop:=c.a.i.Ok/\c.In
instance (c:CutA):Decidable c.Ok:=by unfold CutA.Ok;infer_instance
def ir105:IR:=
 .seq (r_ [o_ 4 (.mov (.k (.bool false)))] [4]) (.seq (r_ [m_ 5 0,c_ 6 .geq 5 0,m_ 7 6,p_ 7 (m_ 8 1),p_ 7 (c_ 9 .geq 8 0),K_ 10 7 9,m_ 11 10,p_ 11 (m_ 12 0),p_ 11 (c_ 13 .leq 12 200),K_ 14 11 13,m_ 15 14,p_ 15 (m_ 16 1),p_ 15 (c_ 17 .leq 16 200),K_ 18 15 17,m_ 4 18] [0,1,5,6,7,8,9,10,11,12,13,14,15,16,17,18]) (.ret))
set_option maxRecDepth 4000 in
theorem comp105:(Try.f105.body.bind fun c=>compC tab isP chkAll ir105 c)=some ir105:=by kernel_rfl
def ir106:IR:=
 .seq (r_ [o_ 4 (.mov (.k (.bool false)))] [4]) (.seq (r_ [m_ 5 0,l_ 6 1,b_ 7 .lss 5 6,m_ 8 7,q_ 8 (m_ 9 0),q_ 8 (l_ 10 2),q_ 8 (b_ 11 .gtr 9 10),k_ 12 8 11,m_ 4 12] [0,1,2,5,6,7,8,9,10,11,12]) (.ret))
set_option maxRecDepth 4000 in
theorem comp106:(Try.f106.body.bind fun c=>compC tab isP chkAll ir106 c)=some ir106:=by kernel_rfl
def ir66:IR:=
 .seq (r_ [o_ 3 (.box 10 (.t 0)),o_ 4 (.box 11 (.t 1)),o_ 5 (.box 12 (.t 2)),o_ 6 (.mov (.k (.bool false)))] [0,1,2,6]) (.seq (.seq (r_ [f_ 7 3 0,l_ 8 7,f_ 9 3 1,l_ 10 9,o_ 11 (.callp 105 [.t 8,.t 10]),o_ 12 (.not (.t 11)),m_ 13 12,q_ 13 (f_ 14 3 0),q_ 13 (l_ 15 14),q_ 13 (f_ 16 3 1),q_ 13 (l_ 17 16),q_ 13 (b_ 18 .mul 15 17),q_ 13 (f_ 19 3 2),q_ 13 (l_ 20 19),q_ 13 (h_ 21 20),q_ 13 (b_ 22 .neq 18 21),k_ 23 13 22,m_ 24 23,q_ 24 (f_ 25 3 2),q_ 24 (l_ 26 25),q_ 24 (h_ 27 26),q_ 24 (c_ 28 .gtr 27 8192),k_ 29 24 28] [7,8,9,10,11,12,13,14,15,16,17,18,19,20,21,22,23,24,25,26,27,28]) (.cond (.t 29) (.seq (r_ [o_ 6 (.mov (.k (.bool false)))] [3,4,5,29]) (.ret)) (.skip))) (.seq (r_ [f_ 30 3 2,l_ 31 30,o_ 32 (.mkf 106 [.t 4,.t 5]),o_ 33 (.call (some 4) 13 62 [.t 31,.t 32]),o_ 34 (.not (.t 33)),m_ 6 34] [3,4,5,29,30,31,32,33,34]) (.ret)))
set_option maxRecDepth 4000 in
theorem comp66:(Try.f66.body.bind fun c=>compC tab isP chkAll ir66 c)=some ir66:=by kernel_rfl
def ir28:IR:=
 .seq (r_ [o_ 1 (.box 10 (.t 0)),o_ 2 (.mov (.k (.bool false)))] [0,2]) (.seq (r_ [o_ 3 (.ld false (some 3) 0 0 (.t 1)),o_ 4 (.call (some 4) 11 66 [.t 3,Z_ (-16777216),Z_ 16777216]),m_ 2 4] [1,3,4]) (.ret))
set_option maxRecDepth 4000 in
theorem comp28:(Try.f28.body.bind fun c=>compC tab isP chkAll ir28 c)=some ir28:=by kernel_rfl
def firstB (p:Int->Bool) (xs:List Int):Int:=if xs.findIdx p<xs.length then xs.findIdx p else -1
theorem firstB_at {p:Int->Bool} {xs:List Int} {i:Nat} (h:i<xs.length) (hb:p (rd xs i)=true) (hj:∀ j,j<i->p (rd xs (j:Nat))=false):firstB p xs=i:=by
 have:xs.findIdx p=i:=by
  rw[List.findIdx_eq h]
  refine⟨by rw[rd_lt xs i h]at hb;exact hb,fun j hji=>?_⟩
  have:=hj j hji
  rw[rd_lt xs j (by omega)]at this
  exact this
 unfold firstB
 rw[this,if_pos h]
theorem firstB_no {p:Int->Bool} {xs:List Int} (hj:∀ j,j<xs.length->p (rd xs (j:Nat))=false):firstB p xs=-1:=by
 unfold firstB
 rw[if_neg]
 intro h
 have:=List.findIdx_getElem (w:=h)
 have h2:=hj _ h
 rw[rd_lt xs _ h,this]at h2
 cases h2
theorem firstB_iff (p:Int->Bool) (xs:List Int):0<=firstB p xs↔∃ n,n∈xs/\p n=true:=by
 unfold firstB
 have h:=List.findIdx_lt_length (xs:=xs) (p:=p)
 by_cases hh:xs.findIdx p<xs.length
 ·rw[if_pos hh]
  exact⟨fun _=>h.1 hh,fun _=>by omega⟩
 ·rw[if_neg hh]
  exact⟨fun h=>by omega,fun H=>absurd (h.2 H) hh⟩
def sides4F:EntryP
 | [.int .i64 w,.int .i64 h]=>some (True,.bool (decide (0<=w/\0<=h/\w<=200/\h<=200)))
 | _=>none
attribute [push_cast] sides4F
theorem p105:EntryPOk Try.prog 105 sides4F:=by
 refine⟨⟨_,Try.func105,by kernel_rfl,by kernel_rfl⟩,fun us p v h hp=>?_⟩
 unfold sides4F at h
 split at h<;>cases h
 refine tri_evS (hyp (l:=[]) (lp:=[]) trivial trivial) Try.func105 comp105 (rs:=[.tmp 4]) (by rfl) Try.ntmps105 10 ?_
 simp -implicitDefEqProofs only[push_cast,zz,seval,ir105,sides4F]
structure OutA where
 L1:Xf.Loc
 L2:Xf.Loc
 n:Int
 lo:Int
 hi:Int
def outB (lo hi n:Int):Bool:=decide (n<lo∨hi<n)
def fs106:FS where
 A:=OutA
 args:=fun a=>[.int .i64 a.n,.ptr 0 a.L1 0 0 0,.ptr 1 a.L2 0 0 0]
 mem:=fun a=>[some (.ro,a.L1,.cells [.int .i64 a.lo]),some (.ro,a.L2,.cells [.int .i64 a.hi])]
 pre:=fun _=>True
 res:=fun a _=>.bool (outB a.lo a.hi a.n)
 out:=fun _ _=>[]
 new:=fun _ _=>[]
def inv106:List SV->Look->Option (OutA×List Nat)
 | [.int .i64 n,.ptr c1 _ 0 0 0,.ptr c2 _ 0 0 0],look=>match rowC (look c1),rowC (look c2)with
  | some (L1,[.int .i64 lo]),some (L2,[.int .i64 hi])=>some (⟨L1,L2,n,lo,hi⟩,[c1,c2])
  | _,_=>none
 | _,_=>none
attribute [push_cast] inv106
theorem ok106:FSOk Try.prog 106 fs106:=by
 refine⟨⟨_,Try.func106,by kernel_rfl,by kernel_rfl⟩,fun a=>⟨by simp[fs106,push_cast,noMine,argOwn,Chunk.frArg],by simp[fs106,push_cast,outOk,Chunk.ext],fun x=>.inl (by simp[fs106,push_cast,frNew,frOut,Chunk.fr])⟩,fun a hp=>?_⟩
 obtain⟨L1,L2,n,lo,hi⟩:=a
 change Tri Try.prog 106 [.int .i64 n,.ptr 0 L1 0 0 0,.ptr 1 L2 0 0 0] [some (.ro,L1,.cells [.int .i64 lo]),some (.ro,L2,.cells [.int .i64 hi])] (postF fs106 ⟨L1,L2,n,lo,hi⟩)
 refine tri_evS (hyp (l:=[]) (lp:=[]) trivial trivial) Try.func106 comp106 (rs:=[.tmp 4]) (by rfl) Try.ntmps106 10 ?_
 simp -implicitDefEqProofs only[push_cast,zz,seval,ir106]
 refine postF.mk' (fun _=>default) [some 0,some 1] ?_
 simp -implicitDefEqProofs only[push_cast,zz,seval,fs106,outB]
def ent106:Entry:=spOf fs106 inv106
theorem e106:EntryOk Try.prog 106 ent106:=entry_of ok106 inv106
@[push_cast] theorem ent106_app (us:List SV) (look:Look) (x:Nat->Xf.Loc) (k:Nat):ent106 us look x k=spOf fs106 inv106 us look x k:=rfl
structure OutR where
 L:Xf.Loc
 xs:List Int
 L1:Xf.Loc
 L2:Xf.Loc
 lo:Int
 hi:Int
def fs104w:FS where
 A:=OutR
 args:=fun a=>[.sl 0 a.L 1 0 a.xs.length,.fn 106 [.ptr 1 a.L1 0 0 0,.ptr 2 a.L2 0 0 0]]
 mem:=fun a=>[some (.ro,a.L,.ints .i64 a.xs),some (.ro,a.L1,.cells [.int .i64 a.lo]),some (.ro,a.L2,.cells [.int .i64 a.hi])]
 pre:=fun a=>a.xs.length<=140737488355328
 res:=fun a _=>.int .i64 (firstB (outB a.lo a.hi) a.xs)
 out:=fun _ _=>[]
 new:=fun _ _=>[]
def inv104w:List SV->Look->Option (OutR×List Nat)
 | [.sl c _ 1 0 _,.fn 106 [.ptr c1 _ 0 0 0,.ptr c2 _ 0 0 0]],look=>match rowI (look c),rowC (look c1),rowC (look c2)with
  | some (L,.i64,xs),some (L1,[.int .i64 lo]),some (L2,[.int .i64 hi])=>some (⟨L,xs,L1,L2,lo,hi⟩,[c,c1,c2])
  | _,_,_=>none
 | _,_=>none
attribute [push_cast] inv104w
theorem ok104w:FSOk Try.prog 104 fs104w:=by
 refine⟨⟨_,Try.func104,by kernel_rfl,by kernel_rfl⟩,fun a=>⟨by simp[fs104w,push_cast,noMine,argOwn,Chunk.frArg],by simp[fs104w,push_cast,outOk,Chunk.ext],fun x=>.inl (by simp[fs104w,push_cast,frNew,frOut,Chunk.fr])⟩,fun a hp=>?_⟩
 obtain⟨L,xs,L1,L2,lo,hi⟩:=a
 change xs.length<=140737488355328 at hp
 change Tri Try.prog 104 [.sl 0 L 1 0 xs.length,.fn 106 [.ptr 1 L1 0 0 0,.ptr 2 L2 0 0 0]] [some (.ro,L,.ints .i64 xs),some (.ro,L1,.cells [.int .i64 lo]),some (.ro,L2,.cells [.int .i64 hi])] (postF fs104w ⟨L,xs,L1,L2,lo,hi⟩)
 refine tri_evS (hyp (l:=[(106,ent106)]) (lp:=[]) ⟨e106,trivial⟩ trivial) Try.func104 comp104 (rs:=[.tmp 4]) (by rfl) Try.ntmps104 14 ?_
 simp -implicitDefEqProofs only[push_cast,zz,seval,ir104]
 refine evS_loopU (A:=Nat) kp104_1 kl104_1 (fun i=>[(8,.int .i64 i)]) (fun _=>[])
  (fun i=>i<=xs.length/\∀ j,j<i->outB lo hi (rd xs (j:Nat))=false) (fun i=>xs.length-i) 0 ⟨by omega,by omega⟩ (Sub.pt ?_) ?_
 ·simp -implicitDefEqProofs only[push_cast,zz,seval]
 intro i ⟨h1,h2⟩ K hK
 simp -implicitDefEqProofs only[push_cast,zz,seval,b104_1,r104_2,fs106]
 refine⟨fun h=>⟨by omega,h,by omega,h,fun hb=>?_,fun hb=>⟨by omega,by omega,?_⟩⟩,fun h=>?_⟩
 ·have e:=firstB_at (by omega) hb h2
  exact postF.mk' (fun _=>default) [some 0,some 1,some 2] (by simp -implicitDefEqProofs only[push_cast,zz,seval,fs104w,e])
 ·refine hK (i+1) ⟨by omega,?_⟩ (show xs.length-(i+1)<xs.length-i by omega) _ _ (Sub.pt ?_)
  ·intro j hj
   by_cases e:j=i
   ·subst e;exact hb
   ·exact h2 j (by omega)
  ·simp -implicitDefEqProofs only[push_cast,zz,seval]
 ·have e:=firstB_no (p:=outB lo hi) (xs:=xs) (fun j hj=>h2 j (by omega))
  exact postF.mk' (fun _=>default) [some 0,some 1,some 2] (by simp -implicitDefEqProofs only[push_cast,zz,seval,fs104w,e])
def ent104w:Entry:=spOf fs104w inv104w
theorem e104w:EntryOk Try.prog 104 ent104w:=entry_of ok104w inv104w
@[push_cast] theorem ent104w_app (us:List SV) (look:Look) (x:Nat->Xf.Loc) (k:Nat):ent104w us look x k=spOf fs104w inv104w us look x k:=rfl
def AllIn (lo hi:Int) (xs:List Int):Prop:=∀ n,n∈xs->lo<=n/\n<=hi
instance (lo hi:Int) (xs:List Int):Decidable (AllIn lo hi xs):=by unfold AllIn;infer_instance
theorem allIn_iff {lo hi:Int} {xs:List Int}:(0<=firstB (outB lo hi) xs)=¬ AllIn lo hi xs:=by
 rw[firstB_iff]
 unfold AllIn outB
 simp only[decide_eq_true_eq,Classical.not_forall,eq_iff_iff]
 constructor
 ·rintro⟨n,h1,h2⟩;exact⟨n,h1,by omega⟩
 ·rintro⟨n,h1,h2⟩;exact⟨n,h1,by omega⟩
theorem allIn_rd {lo hi:Int} {xs:List Int}:AllIn lo hi xs↔∀ j:Nat,j<xs.length->lo<=rd xs j/\rd xs j<=hi:=by
 unfold AllIn
 constructor
 ·intro h j hj;rw[rd_lt xs j hj];exact h _ (List.getElem_mem hj)
 ·intro h n hn
  obtain⟨j,hj,rfl⟩:=List.mem_iff_getElem.1 hn
  have:=h j hj
  rwa [rd_lt xs j hj]at this
def fs62w:FS:={ fs104w with res:=fun a _=>.bool (decide (¬ AllIn a.lo a.hi a.xs)) }
theorem ok62w:FSOk Try.prog 62 fs62w:=by
 refine⟨⟨_,Try.func62,by kernel_rfl,by kernel_rfl⟩,fun a=>⟨by simp[fs62w,fs104w,push_cast,noMine,argOwn,Chunk.frArg],by simp[fs62w,fs104w,push_cast,outOk,Chunk.ext],fun x=>.inl (by simp[fs62w,fs104w,push_cast,frNew,frOut,Chunk.fr])⟩,fun a hp=>?_⟩
 obtain⟨L,xs,L1,L2,lo,hi⟩:=a
 change xs.length<=140737488355328 at hp
 change Tri Try.prog 62 [.sl 0 L 1 0 xs.length,.fn 106 [.ptr 1 L1 0 0 0,.ptr 2 L2 0 0 0]] [some (.ro,L,.ints .i64 xs),some (.ro,L1,.cells [.int .i64 lo]),some (.ro,L2,.cells [.int .i64 hi])] (postF fs62w ⟨L,xs,L1,L2,lo,hi⟩)
 refine tri_evS (hyp (l:=[(104,ent104w)]) (lp:=[]) ⟨e104w,trivial⟩ trivial) Try.func62 comp62 (rs:=[.tmp 4]) (by rfl) Try.ntmps62 14 ?_
 simp -implicitDefEqProofs only[push_cast,zz,seval,ir62,fs104w]
 exact⟨hp,postF.mk' (fun _=>default) [some 0,some 1,some 2] (by simp -implicitDefEqProofs only[push_cast,zz,seval,fs62w,fs104w,allIn_iff])⟩
def ent62w:Entry:=spOf fs62w inv104w
theorem e62w:EntryOk Try.prog 62 ent62w:=entry_of ok62w inv104w
@[push_cast] theorem ent62w_app (us:List SV) (look:Look) (x:Nat->Xf.Loc) (k:Nat):ent62w us look x k=spOf fs62w inv104w us look x k:=rfl
def Pl.In (p:Pl) (lo hi:Int):Prop:=SidesOk p.w p.h/\p.xs.length=p.w*p.h/\AllIn lo hi p.xs
instance (p:Pl) (lo hi:Int):Decidable (p.In lo hi):=by unfold Pl.In;infer_instance
structure PlA where
 p:Pl
 L:Xf.Loc
structure PlW where
 a:PlA
 lo:Int
 hi:Int
def getP (look:Look):SV->Option (PlA×List Nat)
 | .agg [.int .i64 w,.int .i64 h,.sl c _ 1 0 _]=>match rowI (lkZ look (.ints .i64 []) c)with
  | some (L,.i64,xs)=>some (⟨⟨w,h,xs⟩,L⟩,[c])
  | _=>none
 | _=>none
attribute [push_cast] getP
def fs66:FS where
 A:=PlW
 args:=fun a=>[plV a.a.p a.a.L 0,.int .i64 a.lo,.int .i64 a.hi]
 mem:=fun a=>[some (.ro,a.a.L,.ints .i64 a.a.p.xs)]
 pre:=fun a=>a.a.p.xs.length<=140737488355328
 res:=fun a _=>.bool (decide (a.a.p.In a.lo a.hi))
 out:=fun _ _=>[]
 new:=fun _ _=>[]
def inv66:List SV->Look->Option (PlW×List Nat)
 | [v,.int .i64 lo,.int .i64 hi],look=>match getP look v with
  | some (a,g)=>some (⟨a,lo,hi⟩,g)
  | _=>none
 | _,_=>none
attribute [push_cast] inv66
theorem ok66:FSOk Try.prog 66 fs66:=by
 refine⟨⟨_,Try.func66,by kernel_rfl,by kernel_rfl⟩,fun a=>⟨by simp[fs66,push_cast,noMine,argOwn,Chunk.frArg],by simp[fs66,push_cast,outOk,Chunk.ext],fun x=>.inl (by simp[fs66,push_cast,frNew,frOut,Chunk.fr])⟩,fun a hp=>?_⟩
 obtain⟨⟨⟨w,h,xs⟩,L⟩,lo,hi⟩:=a
 change xs.length<=140737488355328 at hp
 change Tri Try.prog 66 [plV ⟨w,h,xs⟩ L 0,.int .i64 lo,.int .i64 hi] [some (.ro,L,.ints .i64 xs)] (postF fs66 ⟨⟨⟨w,h,xs⟩,L⟩,lo,hi⟩)
 refine tri_evS (hyp (l:=[(62,ent62w)]) (lp:=[(105,sides4F)]) ⟨e62w,trivial⟩ ⟨p105,trivial⟩) Try.func66 comp66 (rs:=[.tmp 6]) (by rfl) Try.ntmps66 17 ?_
 simp -implicitDefEqProofs only[push_cast,zz,seval,ir66,fs62w,fs104w,hp]
 intro X
 refine⟨fun H=>?_,fun H=>⟨H.1,H.2.1,H.2.2.1,H.2.2.2,H⟩,fun hn=>?_,fun hy=>?_⟩
 ·have:=mul_bd H.1 H.2.2.1 H.2.1 H.2.2.2
  omega
 ·have e:¬ (⟨w,h,xs⟩:Pl).In lo hi:=fun H=>by
   obtain⟨⟨a1,a2,a3,a4,a5⟩,b,_⟩:=H
   simp only at a1 a2 a3 a4 a5 b
   omega
  refine postF.mk' (fun _=>default) [some 0] ?_
  simp -implicitDefEqProofs only[push_cast,zz,seval,fs66,e,decide_false]
 ·have e:(AllIn lo hi xs)↔(⟨w,h,xs⟩:Pl).In lo hi:=by
   unfold Pl.In SidesOk
   simp only
   constructor
   ·intro H;refine⟨⟨by omega,by omega,by omega,by omega,by omega⟩,by omega,H⟩
   ·intro H;exact H.2.2
  refine postF.mk' (fun _=>default) [some 0] ?_
  simp -implicitDefEqProofs only[push_cast,zz,seval,fs66,e]
def ent66:Entry:=spOf fs66 inv66
theorem e66:EntryOk Try.prog 66 ent66:=entry_of ok66 inv66
@[push_cast] theorem ent66_app (us:List SV) (look:Look) (x:Nat->Xf.Loc) (k:Nat):ent66 us look x k=spOf fs66 inv66 us look x k:=rfl
def Pl.Ok (p:Pl):Prop:=p.In (-16777216) 16777216
def Pl.Gr (p:Pl):Prop:=p.In 0 255
instance (p:Pl):Decidable p.Ok:=by unfold Pl.Ok;infer_instance
instance (p:Pl):Decidable p.Gr:=by unfold Pl.Gr;infer_instance
def fs28:FS where
 A:=PlA
 args:=fun a=>[plV a.p a.L 0]
 mem:=fun a=>[some (.ro,a.L,.ints .i64 a.p.xs)]
 pre:=fun a=>a.p.xs.length<=140737488355328
 res:=fun a _=>.bool (decide a.p.Ok)
 out:=fun _ _=>[]
 new:=fun _ _=>[]
def inv28:List SV->Look->Option (PlA×List Nat)
 | [v],look=>getP look v
 | _,_=>none
attribute [push_cast] inv28
theorem ok28:FSOk Try.prog 28 fs28:=by
 refine⟨⟨_,Try.func28,by kernel_rfl,by kernel_rfl⟩,fun a=>⟨by simp[fs28,push_cast,noMine,argOwn,Chunk.frArg],by simp[fs28,push_cast,outOk,Chunk.ext],fun x=>.inl (by simp[fs28,push_cast,frNew,frOut,Chunk.fr])⟩,fun a hp=>?_⟩
 obtain⟨⟨w,h,xs⟩,L⟩:=a
 change xs.length<=140737488355328 at hp
 change Tri Try.prog 28 [plV ⟨w,h,xs⟩ L 0] [some (.ro,L,.ints .i64 xs)] (postF fs28 ⟨⟨w,h,xs⟩,L⟩)
 refine tri_evS (hyp (l:=[(66,ent66)]) (lp:=[]) ⟨e66,trivial⟩ trivial) Try.func28 comp28 (rs:=[.tmp 2]) (by rfl) Try.ntmps28 15 ?_
 simp -implicitDefEqProofs only[push_cast,zz,seval,ir28,fs66,hp]
 refine fun X=>postF.mk' (fun _=>default) [some 0] ?_
 simp -implicitDefEqProofs only[push_cast,zz,seval,fs28,Pl.Ok]
def ent28:Entry:=spOf fs28 inv28
theorem e28:EntryOk Try.prog 28 ent28:=entry_of ok28 inv28
@[push_cast] theorem ent28_app (us:List SV) (look:Look) (x:Nat->Xf.Loc) (k:Nat):ent28 us look x k=spOf fs28 inv28 us look x k:=rfl
def Pl.Eq (a b:Pl):Prop:=a.w=b.w/\a.h=b.h/\a.xs=b.xs
instance (a b:Pl):Decidable (a.Eq b):=by unfold Pl.Eq;infer_instance
structure Pl2 where
 a:PlA
 b:PlA
structure Bk where
 y:PlA
 u:PlA
 v:PlA
def Bk.planes (b:Bk):Prop:=b.y.p.Ok/\b.u.p.Ok/\b.v.p.Ok
def Bk.sides (b:Bk):Prop:=b.u.p.w=b.y.p.w/\b.u.p.h=b.y.p.h/\b.v.p.w=b.y.p.w/\b.v.p.h=b.y.p.h
instance (b:Bk):Decidable b.planes:=by unfold Bk.planes;infer_instance
instance (b:Bk):Decidable b.sides:=by unfold Bk.sides;infer_instance
def Bk.Ok (b:Bk):Prop:=b.planes/\b.sides
instance (b:Bk):Decidable b.Ok:=by unfold Bk.Ok;infer_instance
theorem Bk.Ok.val {w h w1 h1 w2 h2:Int} {xs ys ws:List Int} {L1 L2 L3:Xf.Loc} (H:(⟨⟨⟨w,h,xs⟩,L1⟩,⟨⟨w1,h1,ys⟩,L2⟩,⟨⟨w2,h2,ws⟩,L3⟩⟩:Bk).Ok) :
  SidesOk w h/\(xs.length:Int)=w*h/\ys.length=xs.length/\ws.length=xs.length/\w1=w/\h1=h/\w2=w/\h2=h /\
   ∀ k:Nat,k<xs.length->(-16777216<=rd xs k/\rd xs k<=16777216)/\(-16777216<=rd ys k/\rd ys k<=16777216)/\(-16777216<=rd ws k/\rd ws k<=16777216):=by
 obtain⟨⟨⟨a1,a2,a3⟩,⟨b1,b2,b3⟩,⟨c1,c2,c3⟩⟩,d1,d2,d3,d4⟩:=H
 simp only at a1 a2 a3 b1 b2 b3 c1 c2 c3 d1 d2 d3 d4
 subst d1 d2 d3 d4
 have e1:ys.length=xs.length:=by omega
 have e2:ws.length=xs.length:=by omega
 exact⟨a1,a2,e1,e2,rfl,rfl,rfl,rfl,fun k hk=>⟨allIn_rd.1 a3 k hk,allIn_rd.1 b3 k (by omega),allIn_rd.1 c3 k (by omega)⟩⟩
theorem Dens.mem:∀ {cs:List SV} {vs:List Value} {c:SV},Dens cs vs->c∈cs->∃ v,Den c v
 | [],_,_,_,h=>by cases h
 | d::cs,vs,c,hd,h=>by
  simp only[Dens]at hd
  obtain⟨v,vs',_,h1,h2⟩:=hd
  rcases List.mem_cons.1 h with rfl | h
  ·exact⟨v,h1⟩
  ·exact Dens.mem h2 h
structure Row2 where
 L:Xf.Loc
 xs:List Int
 M:Xf.Loc
 ys:List Int
theorem rd_bd {lo hi:Int} {xs:List Int} (h:AllIn lo hi xs) (h0:lo<=0) (h1:0<=hi) (k:Int):lo<=rd xs k/\rd xs k<=hi:=by
 by_cases hk:k.toNat<xs.length
 ·have e:rd xs k=xs[k.toNat]:=by simp[rd,hk]
  rw[e];exact h _ (List.getElem_mem hk)
 ·have e:rd xs k=0:=by simp[rd,List.getElem?_eq_none (Nat.not_lt.1 hk)]
  rw[e];exact⟨h0,h1⟩
structure PlD where
 a:PlA
 w:Int
 h:Int
def PlD.fit (d:PlD):Prop:=SidesOk d.w d.h/\d.a.p.w=(d.w+1) / 2/\d.a.p.h=(d.h+1) / 2
instance (d:PlD):Decidable d.fit:=by unfold PlD.fit;infer_instance
def PlD.Ok (d:PlD):Prop:=d.a.p.Ok/\d.fit
instance (d:PlD):Decidable d.Ok:=by unfold PlD.Ok;infer_instance
structure Bm where
 w:Int
 h:Int
 xs:List Int
structure BmA where
 b:Bm
 L:Xf.Loc
def Bits (xs:List Int):Prop:=∀ n,n∈xs->n<=1
instance (xs:List Int):Decidable (Bits xs):=by unfold Bits;infer_instance
def Bm.Ok (b:Bm):Prop:=SidesOk b.w b.h/\b.xs.length=b.w*b.h/\Bits b.xs
instance (b:Bm):Decidable b.Ok:=by unfold Bm.Ok;infer_instance
structure AtA where
 a:BmA
 x:Int
 y:Int
def AtA.inside (a:AtA):Prop:=0<=a.x/\0<=a.y/\a.x<a.a.b.w/\a.y<a.a.b.h
instance (a:AtA):Decidable a.inside:=by unfold AtA.inside;infer_instance
def nearP (n:Int):Prop:=-100000<=n/\n<=100000
instance (n:Int):Decidable (nearP n):=by unfold nearP;infer_instance
structure PaintA where
 a:ImA
 b:BmA
 x:Int
 y:Int
 r:Int
 g:Int
 bl:Int
def PaintA.fit (P:PaintA):Prop:=P.b.b.Ok/\nearP P.x/\nearP P.y/\ValOk P.r/\ValOk P.g/\ValOk P.bl
instance (P:PaintA):Decidable P.fit:=by unfold PaintA.fit;infer_instance
def PaintA.Ok (P:PaintA):Prop:=P.a.i.Ok/\P.fit
instance (P:PaintA):Decidable P.Ok:=by unfold PaintA.Ok;infer_instance
structure Row2w where
 L:Xf.Loc
 xs:List Int
 M:Xf.Loc
 ys:List Int
structure OutU where
 L1:Xf.Loc
 n:Int
 m:Int
structure OutV where
 L:Xf.Loc
 xs:List Int
 L1:Xf.Loc
 m:Int
structure RowM where
 L:Xf.Loc
 xs:List Int
 m:Int
structure LiftA where
 kind:Int
 L:Xf.Loc
 xs:List Int
 lo:Int
 n:Int
 i:Int
structure NearA where
 L:Xf.Loc
 xs:List Int
 lo:Int
 n:Int
 i:Int
def BdF (B:Int) (f:Int->Int):Prop:=∀ j,-B<=f j/\f j<=B
theorem BdF.rd {xs:List Int} {B:Int} (h:AllIn (-B) B xs) (h0:0<=B) (lo:Int):BdF B (fun j=>rd xs (lo+j)):=fun j=>rd_bd h (by omega) h0 _
structure LineA where
 kind:Int
 L:Xf.Loc
 xs:List Int
 lo:Int
 n:Nat
structure LnA where
 kind:Int
 L:Xf.Loc
 xs:List Int
structure QA where
 a:PlA
 q:Int
 M:Xf.Loc
structure Q1 where
 n:Int
 L:Xf.Loc
 q:Int
structure AlA where
 F:Xf.Loc
 LP:Xf.Loc
 w:Int
 kind:Int
 ws:List Int
 a:Int
 b:Int
 n:Nat
abbrev LT:=Int->Nat->(Int->Int)->List Int
structure Trn (T:LT):Prop where
 len:∀ k n f,(T k n f).length=n
 bd:∀ k n f B,BdF B f->0<=B->AllIn (-(3*B+1)) (3*B+1) (T k n f)
 congr:∀ k (n:Nat) f g,(∀ j:Nat,j<n->f j=g j)->T k n f=T k n g
structure RwA where
 F:Xf.Loc
 LP:Xf.Loc
 W:Nat
 kind:Int
 ws:List Int
 w:Nat
 h:Nat
def esz (s:Nat):Nat->Nat
 | 0=>1
 | _+1=>s
structure SdA where
 w:Nat
 h:Nat
 n:Nat
structure AskA where
 a:PlA
 kind:Int
 n:Int
structure TurnA where
 a:LineA
 b:Bool
structure RrA where
 L:Xf.Loc
 W:Nat
 H:Int
 ws:List Int
 w:Nat
 h:Nat
 kind:Int
 b:Bool
structure Bd where
 lv:Int
 kd:Int
 x:Int
 y:Int
 w:Int
 h:Int
 deriving Inhabited,DecidableEq
def Bd.rc (x:Bd):List RC:=[.int .i64 x.lv,.int .i64 x.kd,.int .i64 x.x,.int .i64 x.y,.int .i64 x.w,.int .i64 x.h]
structure Bd1 where
 x:Bd
structure Bds where
 L:Xf.Loc
 l:List Bd
structure BnA where
 w:Int
 h:Int
 n:Int
def sttOk (kind s:Int):Prop:=0<=s/\(kind=1->s<65536)/\(kind≠1->s<64)
def ir111:IR:=
 .seq (r_ [z_ 2 0] []) (.seq (.seq (r_ [m_ 3 0,o_ 4 (.bin 0 .geq (.t 3) (.k (.int .u64 4294967296)))] [3]) (.cond (.t 4) (.seq (r_ [m_ 5 0,o_ 6 (.bin 0 .shr (.t 5) (.k (.int .u64 32))),m_ 0 6] [2,4,5,6]) (r_ [z_ 2 32] [])) (.skip))) (.seq (.seq (r_ [m_ 7 0,o_ 8 (.bin 0 .geq (.t 7) (.k (.int .u64 65536)))] [4,7]) (.cond (.t 8) (.seq (r_ [m_ 9 0,o_ 10 (.bin 0 .shr (.t 9) (.k (.int .u64 16))),m_ 0 10] [8,9,10]) (r_ [m_ 11 2,a_ 12 11 16,m_ 2 12] [11,12])) (.skip))) (.seq (.seq (r_ [m_ 13 0,o_ 14 (.bin 0 .geq (.t 13) (.k (.int .u64 256)))] [8,13]) (.cond (.t 14) (.seq (r_ [m_ 15 0,o_ 16 (.bin 0 .shr (.t 15) (.k (.int .u64 8))),m_ 0 16] [14,15,16]) (r_ [m_ 17 2,a_ 18 17 8,m_ 2 18] [17,18])) (.skip))) (.seq (r_ [m_ 19 2,m_ 20 0,o_ 21 (.cvt 0 .u8 (.t 20)),o_ 22 (.tabI len8L (.t 21)),o_ 23 (.cvt 0 .i64 (.t 22)),b_ 24 .add 19 23,m_ 2 24] [0,14,19,20,21,22,23,24]) (.ret)))))
set_option maxRecDepth 4000 in
theorem comp111:(Try.f111.body.bind fun c=>compC tab isP chkAll ir111 c)=some ir111:=by kernel_rfl
def ir71:IR:=
 .seq (r_ [z_ 2 0] [2]) (.seq (.cond (.k (.bool false)) (.seq (r_ [m_ 3 0,o_ 4 (.cvt 0 .u32 (.t 3)),o_ 5 (.call (some 4) 10 110 [.t 4]),m_ 2 5] [0,3,4,5]) (.ret)) (.skip)) (.seq (r_ [m_ 6 0,o_ 7 (.callp 111 [.t 6]),m_ 2 7] [0,6,7]) (.ret)))
set_option maxRecDepth 4000 in
theorem comp71:(Try.f71.body.bind fun c=>compC tab isP chkAll ir71 c)=some ir71:=by kernel_rfl
def ir70:IR:=
 .seq (r_ [z_ 2 0] [2]) (.seq (r_ [m_ 3 0,m_ 4 0,o_ 5 (.neg 0 (.t 4)),o_ 6 (.mx (.t 3) (.t 5)),m_ 2 6] [0,3,4,5,6]) (.ret))
set_option maxRecDepth 4000 in
theorem comp70:(Try.f70.body.bind fun c=>compC tab isP chkAll ir70 c)=some ir70:=by kernel_rfl
def lenN (n:Nat):Nat:=if n=0 then 0 else Nat.log2 n+1
theorem lenN_half {n:Nat} (h:1<=n):lenN n=lenN (n / 2)+1:=by
 unfold lenN
 rw[if_neg (by omega)]
 by_cases h2:2<=n
 ·rw[if_neg (by omega),Nat.log2_def n,if_pos h2]
 ·have:n=1:=by omega
  subst this
  rfl
theorem lenN_256 {n:Nat} (h:256<=n):lenN n=lenN (n / 256)+8:=by
 rw[lenN_half (by omega),lenN_half (n:=n / 2) (by omega),lenN_half (n:=n / 2 / 2) (by omega),lenN_half (n:=n / 2 / 2 / 2) (by omega),lenN_half (n:=n / 2 / 2 / 2 / 2) (by omega),lenN_half (n:=n / 2 / 2 / 2 / 2 / 2) (by omega),
  lenN_half (n:=n / 2 / 2 / 2 / 2 / 2 / 2) (by omega),lenN_half (n:=n / 2 / 2 / 2 / 2 / 2 / 2 / 2) (by omega)]
 simp only[Nat.div_div_eq_div_mul]
set_option maxRecDepth 4000 in
theorem len8_eq:∀ k,k<256->rd len8L (k:Nat)=lenN k:=by decide +kernel
set_option maxRecDepth 4000 in
theorem len8_len:((len8L.length:Nat):Int)=256:=by decide +kernel
def lenP (x:Int):Int:=lenN x.toNat
theorem lenP_8 {x:Int} (h0:0<=x) (h:x<256):rd len8L x=lenP x:=by
 obtain⟨k,rfl⟩:∃ k:Nat,x=k:=⟨x.toNat,by omega⟩
 unfold lenP
 rw[Int.toNat_natCast]
 exact len8_eq k (by omega)
theorem lenP_256 {x:Int} (h:256<=x):lenP x=lenP (x / 256)+8:=by
 obtain⟨k,rfl⟩:∃ k:Nat,x=k:=⟨x.toNat,by omega⟩
 unfold lenP
 rw[show((k:Int) / 256).toNat=k / 256 by omega,Int.toNat_natCast,lenN_256 (by omega)]
 rfl
theorem lenP_bd {x:Int} (h0:0<=x) (h:x<256):0<=lenP x/\lenP x<=8:=by
 have:∀ k,k<256->lenN k<=8:=by decide +kernel
 have:=this x.toNat (by omega)
 unfold lenP
 omega
def lenF:EntryP
 | [.int .u64 x]=>some (0<=x/\x<4294967296,.int .i64 (lenP x))
 | _=>none
attribute [push_cast] lenF
theorem pw8:(2:Int)^8=256:=rfl
theorem pw16:(2:Int)^16=65536:=rfl
theorem bits64:((IntKind.u64.bits:Nat):Int)=64:=rfl
theorem p111:EntryPOk Try.prog 111 lenF:=by
 refine⟨⟨_,Try.func111,by kernel_rfl,by kernel_rfl⟩,fun us p v h hp=>?_⟩
 unfold lenF at h
 split at h<;>cases h
 rename_i x
 obtain⟨h0,h1⟩:=hp
 refine tri_evS (hyp (l:=[]) (lp:=[]) trivial trivial) Try.func111 comp111 (rs:=[.tmp 2]) (by rfl) Try.ntmps111 10 ?_
 have hlt:¬ 4294967296<=x:=by omega
 have hl:=len8_len
 have hb64:=bits64
 by_cases h16:65536<=x
 ·have e1:lenP x=lenP (x / 65536)+16:=by
   rw[lenP_256 (by omega),lenP_256 (x:=x / 256) (by omega),show x / 256 / 256=x / 65536 by omega]
   omega
  by_cases h8:256<=x / 65536
  ·have e2:=lenP_256 h8
   have e3:=lenP_8 (x:=x / 65536 / 256) (by omega) (by omega)
   have b:=lenP_bd (x:=x / 65536 / 256) (by omega) (by omega)
   rw[e2]at e1
   simp -implicitDefEqProofs only[push_cast,zz,seval,ir111,hlt,h16,h8,pw16,pw8,hl,e3]
   simp only[SV.int.injEq,true_and]
   omega
  ·have e3:=lenP_8 (x:=x / 65536) (by omega) (by omega)
   have b:=lenP_bd (x:=x / 65536) (by omega) (by omega)
   simp -implicitDefEqProofs only[push_cast,zz,seval,ir111,hlt,h16,h8,pw16,pw8,hl,e3]
   simp only[SV.int.injEq,true_and]
   omega
 ·by_cases h8:256<=x
  ·have e2:=lenP_256 h8
   have e3:=lenP_8 (x:=x / 256) (by omega) (by omega)
   have b:=lenP_bd (x:=x / 256) (by omega) (by omega)
   simp -implicitDefEqProofs only[push_cast,zz,seval,ir111,hlt,h16,h8,pw16,pw8,hl,e3]
   simp only[SV.int.injEq,true_and]
   omega
  ·have e3:=lenP_8 (x:=x) (by omega) (by omega)
   have b:=lenP_bd (x:=x) (by omega) (by omega)
   simp -implicitDefEqProofs only[push_cast,zz,seval,ir111,hlt,h16,h8,pw16,pw8,hl,e3]
   omega
theorem p71:EntryPOk Try.prog 71 lenF:=by
 refine⟨⟨_,Try.func71,by kernel_rfl,by kernel_rfl⟩,fun us p v h hp=>?_⟩
 unfold lenF at h
 split at h<;>cases h
 rename_i x
 obtain⟨h0,h1⟩:=hp
 refine tri_evS (hyp (l:=[]) (lp:=[(111,lenF)]) trivial ⟨p111,trivial⟩) Try.func71 comp71 (rs:=[.tmp 2]) (by rfl) Try.ntmps71 14 ?_
 simp -implicitDefEqProofs only[push_cast,zz,seval,ir71]
 omega
def absF:EntryP
 | [.int .i64 n]=>some (-1000000000000<=n/\n<=1000000000000,.int .i64 (max n (-n)))
 | _=>none
attribute [push_cast] absF
theorem p70:EntryPOk Try.prog 70 absF:=by
 refine⟨⟨_,Try.func70,by kernel_rfl,by kernel_rfl⟩,fun us p v h hp=>?_⟩
 unfold absF at h
 split at h<;>cases h
 rename_i x
 refine tri_evS (hyp (l:=[]) (lp:=[]) trivial trivial) Try.func70 comp70 (rs:=[.tmp 2]) (by rfl) Try.ntmps70 10 ?_
 simp -implicitDefEqProofs only[push_cast,zz,seval,ir70]
 omega
mutual
theorem eqv_rfl:∀ v,eqv v v
 | .int k n=>by simp only[eqv]
 | .bool b=>by simp only[eqv]
 | .ptr c L i s f=>by simp only[eqv,and_self]
 | .sl c L s lo n=>by simp only[eqv,and_self]
 | .agg cs=>by simp only[eqv];exact eqvs_rfl cs
 | .tup cs=>by simp only[eqv];exact eqvs_rfl cs
 | .fn f cs=>by simp only[eqv,true_and];exact eqvs_rfl cs
 | .val v=>by simp only[eqv]
theorem eqvs_rfl:∀ cs,eqvs cs cs
 | []=>by simp only[eqvs]
 | c::cs=>by simp only[eqvs];exact⟨eqv_rfl c,eqvs_rfl cs⟩
end
@[push_cast] theorem eqv_rfl' (v:SV):eqv v v=True:=eq_true (eqv_rfl v)
@[push_cast] theorem eqvs_rfl' (cs:List SV):eqvs cs cs=True:=eq_true (eqvs_rfl cs)
def stsOk (kind:Int) (st:List Int):Prop:=(kind=0∨kind=1)/\∀ s∈st,sttOk kind s
theorem stsOk.at {kind:Int} {st:List Int} (h:stsOk kind st) {i:Int} (h0:0<=i) (h1:i<st.length):sttOk kind (rd st i):=by
 obtain⟨k,rfl⟩:∃ k:Nat,i=k:=⟨i.toNat,by omega⟩
 rw[rd_lt st k (by omega)]
 exact h.2 _ (List.getElem_mem _)
theorem stsOk.set {kind:Int} {st:List Int} (h:stsOk kind st) {i:Nat} {s:Int} (hs:sttOk kind s):stsOk kind (st.set i s):=by
 refine⟨h.1,fun x hx=>?_⟩
 rcases List.mem_or_eq_of_mem_set hx with h1 | h1
 ·exact h.2 x h1
 ·rw[h1];exact hs
structure IvA where
 L:Xf.Loc
 LS:Xf.Loc
 kind:Int
 st:List Int
 low:Int
 high:Int
 rest:List SV
 ctx:Int
 bit:Int
structure EnS where
 kind:Int
 st:List Int
 low:Int
 high:Int
 out:List Int
structure EnA where
 L:Xf.Loc
 LS:Xf.Loc
 LO:Xf.Loc
 e:EnS
 ctx:Int
 bit:Int
structure MdA where
 L:Xf.Loc
 kind:Int
 st:List Int
structure DeS where
 kind:Int
 st:List Int
 low:Int
 high:Int
 code:List Int
 at_:Int
 value:Int
 beyond:Int
 ended:Bool
structure DeA where
 L:Xf.Loc
 LS:Xf.Loc
 LC:Xf.Loc
 d:DeS
 ctx:Int
structure NdA where
 L:Xf.Loc
 kind:Int
 st:List Int
 LB:Xf.Loc
 code:List Int
structure Pb where
 places:List Int
 w:Int
 parent:Int
 deriving Inhabited
structure Gr where
 band:Bd
 frm:Nat
 deriving Inhabited
def colsB (b:Bd):Int:=(b.w+4-1) / 4
def rowsB (b:Bd):Int:=(b.h+4-1) / 4
def Gr.rc (g:Gr):List RC:=[.int .i64 g.band.lv,.int .i64 g.band.kd,.int .i64 g.band.x,.int .i64 g.band.y,.int .i64 g.band.w,.int .i64 g.band.h,.int .i64 g.frm,.int .i64 (colsB g.band),.int .i64 (rowsB g.band)]
structure PaA where
 L:Xf.Loc
 s:Nat
 gs:List Gr
 b:Bd
structure Bck where
 L:Xf.Loc
 b:Pb
 on:Bool
 deriving Inhabited
def Bck.rc (x:Bck):List RC:=[.row x.L .i64 x.b.places,.int .i64 x.b.w,.int .i64 x.b.parent,.bool x.on]
def slB (c:Nat) (M:Xf.Loc) (n:Nat):SV:=.sl c M (esz 4 n) 0 n
attribute [push_cast] slB
structure StL where
 L:Xf.Loc
 Z:Xf.Loc
 M:Xf.Loc
 I:Xf.Loc
 K:Xf.Loc
 S:Xf.Loc
 B:Xf.Loc
structure StS where
 size:List Int
 minus:List Bool
 since:List Int
 now:Int
 list:List Bck
 kind:Int
 nst:Int
 band:List Int
 w:Int
def stV (p:StL) (s:StS):List SV:=[.sl 1 p.Z 1 0 s.size.length,.sl 2 p.M 1 0 s.minus.length,.sl 3 p.I 1 0 s.since.length,.int .i64 s.now,slB 4 p.K s.list.length,.int .i64 s.kind,.sl 5 p.S 1 0 s.nst,.sl 6 p.B 1 0 s.band.length,.int .i64 s.w]
structure SAtA where
 p:StL
 s:StS
 at_:Int
def oldP (s:StS) (i:Int):Prop:=0<rd s.since i/\rd s.since i<=s.now
instance oldP_dec (s:StS) (i:Int):Decidable (oldP s i):=by unfold oldP;infer_instance
def rdBk (l:List Bck) (i:Nat):Bck:=l.getD i default
theorem rdBk_nat {l:List Bck} {i:Nat} (h:i<l.length):rdBk l i=l[i]:=by simp[rdBk,h]
structure BkA where
 p:StL
 s:StS
 b:Bck
structure BcA where
 p:StL
 s:StS
 at_:Int
 b:Bool
def absI (n:Int):Int:=max n (-n)
def digP (f:List Int) (x t:Int):Bool:=decide (absI (rd f x) / 2^t.toNat % 2=1)
def ofWf (f:List Int) (n:Nat):Prop:=f.length=n/\∀ x∈f,-1000000000<=x/\x<=1000000000
theorem ofWf.at {f:List Int} {n:Nat} (h:ofWf f n) {i:Int} (h0:0<=i) (h1:i<n):-1000000000<=rd f i/\rd f i<=1000000000:=by
 obtain⟨k,rfl⟩:∃ k:Nat,i=k:=⟨i.toNat,by omega⟩
 obtain⟨a,b⟩:=h
 rw[rd_lt f k (by omega)]
 exact b _ (List.getElem_mem _)
structure WdA where
 L1:Xf.Loc
 L2:Xf.Loc
 L3:Xf.Loc
 F:Xf.Loc
 f:List Int
 at_:Int
 t:Int
structure NgA where
 L1:Xf.Loc
 L2:Xf.Loc
 F:Xf.Loc
 f:List Int
 at_:Int
structure DgA where
 L1:Xf.Loc
 L2:Xf.Loc
 at_:Int
def onP (s:StS) (pl f:List Int) (t:Int):Bool:=pl.any fun x=>!decide (oldP s x)&&digP f x t
structure BoA where
 p:StL
 s:StS
 b:Bck
 F:Xf.Loc
 f:List Int
 t:Int
structure WoA where
 p:StL
 s:StS
 i:Nat
 Ls:Xf.Loc
 Lb:Xf.Loc
 Lt:Xf.Loc
 Lf:Xf.Loc
 F:Xf.Loc
 f:List Int
 t:Int
inductive WE where
 | dig (L1 L2 L3 F:Xf.Loc) (f:List Int) (at_ t:Int)
 | neg (L1 L2 F:Xf.Loc) (f:List Int) (at_:Int)
 | on (p:StL) (s:StS) (i:Nat) (Ls Lb Lt Lf F:Xf.Loc) (f:List Int) (t:Int)
def WE.val:WE->Bool
 | .dig _ _ _ _ f i t=>digP f i t
 | .neg _ _ _ f i=>decide (rd f i<0)
 | .on _ s i _ _ _ _ _ f t=>onP s (rdBk s.list i).b.places f t
def WE.fn:WE->SV
 | .dig L1 L2 L3 _ _ _ _=>.fn 75 [.ptr 4 L1 0 0 0,.ptr 5 L2 0 0 0,.ptr 6 L3 0 0 0]
 | .neg L1 L2 _ _ _=>.fn 80 [.ptr 4 L1 0 0 0,.ptr 5 L2 0 0 0]
 | .on _ _ _ Ls Lb Lt Lf _ _ _=>.fn 77 [.ptr 11 Ls 0 0 0,.ptr 12 Lb 0 0 0,.ptr 13 Lt 0 0 0,.ptr 14 Lf 0 0 0]
def WE.mem:WE->Mem
 | .dig L1 L2 L3 F f i t=>[some (.ro,L1,.cells [.sl 7 F 1 0 f.length]),some (.ro,L2,.cells [.int .i64 i]),some (.ro,L3,.cells [.int .i64 t]),some (.ro,F,.ints .i64 f)]
 | .neg L1 L2 F f i=>[some (.ro,L1,.cells [.sl 6 F 1 0 f.length]),some (.ro,L2,.cells [.int .i64 i]),some (.ro,F,.ints .i64 f)]
 | .on p s i Ls Lb Lt Lf F f t=>[some (.ro,p.L,.cells (relabs (fun i=>i+4) (stV p s))),some (.ro,p.Z,.ints .i64 s.size),some (.ro,p.M,.bools s.minus),some (.ro,p.I,.ints .i64 s.since),some (.ro,p.K,.recs 4 false [] (s.list.map Bck.rc)),none,some (.ro,p.B,.ints .i64 s.band),
   some (.ro,Ls,.cells [.ptr 4 p.L 0 0 0]),some (.ro,Lb,.cells [.ptr 8 p.K (i:Nat) 4 0]),some (.ro,Lt,.cells [.int .i64 t]),some (.ro,Lf,.cells [.sl 15 F 1 0 f.length]),some (.ro,F,.ints .i64 f)]
structure PeA where
 L:Xf.Loc
 LS:Xf.Loc
 LO:Xf.Loc
 LX:Xf.Loc
 e:EnS
 ctx:Int
 w:WE
structure GeA where
 L:Xf.Loc
 LS:Xf.Loc
 LC:Xf.Loc
 LX:Xf.Loc
 d:DeS
 ctx:Int
 w:SV
def szWf (s:StS):Prop:=∀ x∈s.size,0<=x/\x<1099511627776
theorem szWf.at {s:StS} (h:szWf s) {i:Int} (h0:0<=i) (h1:i<s.size.length):0<=rd s.size i/\rd s.size i<1099511627776:=by
 obtain⟨k,rfl⟩:∃ k:Nat,i=k:=⟨i.toNat,by omega⟩
 rw[rd_lt _ k (by omega)]
 exact h _ (List.getElem_mem _)
structure NuA where
 p:StL
 s:StS
 L:Xf.Loc
 LS:Xf.Loc
 LO:Xf.Loc
 LX:Xf.Loc
 e:EnS
 L1:Xf.Loc
 L2:Xf.Loc
 L3:Xf.Loc
 L4:Xf.Loc
 F:Xf.Loc
 f:List Int
 at_:Int
 t:Int
 on:Bool
structure NdA2 where
 p:StL
 s:StS
 L:Xf.Loc
 LS:Xf.Loc
 LC:Xf.Loc
 LX:Xf.Loc
 d:DeS
 w1:SV
 w2:SV
 at_:Int
 t:Int
 on:Bool
def onBk (l:List Bck) (i:Nat) (b:Bool):List Bck:=l.set i ⟨(rdBk l i).L,(rdBk l i).b,b⟩
def setOn (s:StS) (i:Nat) (b:Bool):StS:=⟨s.size,s.minus,s.since,s.now,onBk s.list i b,s.kind,s.nst,s.band,s.w⟩
def sameK (l m:List Bck):Prop:=l.map (fun x=>(x.L,x.b))=m.map (fun x=>(x.L,x.b))
theorem sameK.on {l m:List Bck} (h:sameK l m) (i:Nat) (hi:i<l.length) (b:Bool):sameK (onBk l i b) m:=by
 unfold sameK at h ⊢
 rw[<-h]
 unfold onBk
 rw[List.map_set]
 rw[show((rdBk l i).L,(rdBk l i).b)=(l.map (fun x=>(x.L,x.b)))[i]'(by simpa using hi) by simp[rdBk_nat hi]]
 rw[List.set_getElem_self]
theorem sameK.len {l m:List Bck} (h:sameK l m):l.length=m.length:=by
 have:=congrArg List.length h
 simpa using this
def simS (a s:StS):Prop:=a.size.length=s.size.length/\a.minus.length=s.minus.length/\a.since.length=s.since.length/\a.now=s.now/\sameK a.list s.list/\a.kind=s.kind/\a.nst=s.nst/\a.band=s.band/\a.w=s.w
theorem simS.on {b s:StS} {i:Nat} (hi:i<b.list.length) (h:simS b s) (v:Bool):simS (setOn b i v) s:=by
 obtain⟨h1,h2,h3,h4,h5,h6,h7,h8,h9⟩:=h
 exact⟨h1,h2,h3,h4,h5.on i hi v,h6,h7,h8,h9⟩
structure SlA where
 p:StL
 s:StS
 L:Xf.Loc
 LS:Xf.Loc
 LO:Xf.Loc
 LX:Xf.Loc
 e:EnS
 F:Xf.Loc
 f:List Int
 t:Int
structure SqA where
 p:StL
 s:StS
 L:Xf.Loc
 LS:Xf.Loc
 LC:Xf.Loc
 LX:Xf.Loc
 d:DeS
 F:Xf.Loc
 f:List Int
 t:Int
structure BgA where
 w:Int
 h:Int
 n:Int
 kind:Int
def b31_1:IR:=
 .seq (r_ [b_ 10 .lss 9 8] []) (.seq (.cond (.t 10) (.skip) (.exit 0)) (.seq (.block 1 (.seq (r_ [i_ 11 7 9 1,L_ 12 11,m_ 5 12] [10,11,12]) (r_ [m_ 13 3,m_ 14 5,o_ 15 (.callp 70 [.t 14]),o_ 16 (.mx (.t 13) (.t 15)),m_ 3 16] [5,13,14,15,16]))) (r_ [a_ 17 9 1,m_ 9 17] [17])))
def r31_2:IR:=
 .seq (r_ [m_ 18 3,o_ 19 (.cvt 0 .u64 (.t 18)),o_ 20 (.callp 71 [.t 19]),m_ 2 20] [3,7,8,9,18,19,20]) (.ret)
def ir31:IR:=
 .seq (r_ [o_ 1 (.box 10 (.t 0)),z_ 2 0] [0,2]) (.seq (r_ [z_ 3 0] []) (.seq (.seq (r_ [f_ 6 1 2,l_ 7 6,h_ 8 7,z_ 9 0] [1,6]) (.block 0 (.loop b31_1))) (r31_2)))
def kp31_1:List Nat:=[3,7,8,9]
def kl31_1:List Nat:=[]
attribute [push_cast] kp31_1 kl31_1
set_option maxRecDepth 4000 in
theorem comp31:(Try.f31.body.bind fun c=>compC tab isP chkAll ir31 c)=some ir31:=by kernel_rfl
def ir10:IR:=
 .seq (r_ [o_ 1 (.box 10 (.t 0)),z_ 2 0,z_ 3 0] [0,2,3]) (.seq (.seq (r_ [o_ 4 (.ld false (some 3) 0 0 (.t 1)),o_ 5 (.call (some 4) 11 28 [.t 4]),o_ 6 (.not (.t 5))] [4,5]) (.cond (.t 6) (.seq (r_ [z_ 2 0,z_ 3 70] [1,6]) (.ret)) (.skip))) (.seq (r_ [o_ 7 (.ld false (some 3) 0 0 (.t 1)),o_ 8 (.call (some 4) 15 31 [.t 7]),m_ 2 8,z_ 3 0] [1,6,7,8]) (.ret)))
set_option maxRecDepth 4000 in
theorem comp10:(Try.f10.body.bind fun c=>compC tab isP chkAll ir10 c)=some ir10:=by kernel_rfl
structure PsA where
 p:StL
 s:StS
 w:Int
 h:Int
def maxA (xs:List Int):Int:=xs.foldl (fun m c=>max m (max c (-c))) 0
theorem maxA_take {xs:List Int} {k:Nat} (h:k<xs.length):maxA (xs.take (k+1))=max (maxA (xs.take k)) (max (rd xs (k:Nat)) (- rd xs (k:Nat))):=by
 unfold maxA
 rw[List.take_succ_eq_append_getElem h,List.foldl_append,rd_lt xs k h];rfl
theorem maxA_bd {xs:List Int} {B:Int} (hB:0<=B) (h:AllIn (-B) B xs):∀ k,k<=xs.length->0<=maxA (xs.take k)/\maxA (xs.take k)<=B
 | 0,_=>by simp[maxA];exact hB
 | k+1,hk=>by
  have ih:=maxA_bd hB h k (by omega)
  have:=allIn_rd.1 h k (by omega)
  rw[maxA_take (by omega)]
  omega
def planesP (xs:List Int):Int:=lenP (maxA xs)
def fs31:FS where
 A:=PlA
 args:=fun a=>[plV a.p a.L 0]
 mem:=fun a=>[some (.ro,a.L,.ints .i64 a.p.xs)]
 pre:=fun a=>AllIn (-16777216) 16777216 a.p.xs/\a.p.xs.length<=1000000
 res:=fun a _=>.int .i64 (planesP a.p.xs)
 out:=fun _ _=>[]
 new:=fun _ _=>[]
theorem ok31:FSOk Try.prog 31 fs31:=by
 refine⟨⟨_,Try.func31,by kernel_rfl,by kernel_rfl⟩,fun a=>⟨by simp[fs31,push_cast,noMine,argOwn,Chunk.frArg],by simp[fs31,push_cast,outOk,Chunk.ext],fun x=>.inl (by simp[fs31,push_cast,frNew,frOut,Chunk.fr])⟩,fun a hp=>?_⟩
 obtain⟨⟨w,h,xs⟩,L⟩:=a
 obtain⟨h1,h2⟩:AllIn (-16777216) 16777216 xs/\xs.length<=1000000:=hp
 have hmx:=maxA_bd (B:=16777216) (by decide) h1
 change Tri Try.prog 31 [plV ⟨w,h,xs⟩ L 0] [some (.ro,L,.ints .i64 xs)] (postF fs31 ⟨⟨w,h,xs⟩,L⟩)
 have hfin:planesP xs=lenP (maxA xs):=rfl
 refine tri_evS (hyp (l:=[]) (lp:=[(70,absF),(71,lenF)]) trivial ⟨p70,p71,trivial⟩) Try.func31 comp31 (rs:=[.tmp 2]) (by rfl) Try.ntmps31 11 ?_
 simp -implicitDefEqProofs only[push_cast,zz,seval,ir31]
 intro X
 refine evS_loopU (A:=Nat) kp31_1 kl31_1 (fun k=>[(3,.int .i64 (maxA (xs.take k))),(9,.int .i64 k)]) (fun k=>[]) (fun k=>k<=xs.length) (fun k=>xs.length-k) 0 (Nat.zero_le _) (Sub.pt ?_) ?_
 ·have e0:maxA (xs.take 0)=0:=rfl
  simp -implicitDefEqProofs only[push_cast,zz,seval,e0]
 intro k hk K hK
 have hk:k<=xs.length:=hk
 have hb:=hmx k hk
 by_cases hk':k<xs.length
 ·have hki:(k:Int)<xs.length:=by omega
  have ht:=maxA_take hk'
  have hx:=allIn_rd.1 h1 k hk'
  obtain⟨m,hm⟩:∃ m,maxA (xs.take k)=m:=⟨_,rfl⟩
  obtain⟨x,hxx⟩:∃ m,rd xs (k:Nat)=m:=⟨_,rfl⟩
  rw[hm]at ht hb
  rw[hxx]at ht hx
  simp -implicitDefEqProofs only[push_cast,zz,seval,b31_1,hki,hm,hxx]
  repeat refine om_ ?_
  refine hK (k+1) (show k+1<=xs.length by omega) (show xs.length-(k+1)<xs.length-k by omega) _ _ (Sub.pt ?_)
  simp -implicitDefEqProofs only[push_cast,zz,seval,ht]
 ·obtain rfl:k=xs.length:=by omega
  clear hK
  rw[List.take_length]at hb
  obtain⟨m,hm⟩:∃ m,maxA xs=m:=⟨_,rfl⟩
  rw[hm]at hb hfin
  simp -implicitDefEqProofs only[push_cast,zz,seval,b31_1,r31_2,Int.lt_irrefl,List.take_length,hm]
  repeat refine om_ ?_
  refine postF.mk' (fun _=>default) [some 0] ?_
  simp -implicitDefEqProofs only[push_cast,zz,seval,fs31,hfin]
def ent31:Entry:=spOf fs31 inv28
theorem e31:EntryOk Try.prog 31 ent31:=entry_of ok31 inv28
@[push_cast] theorem ent31_app (us:List SV) (look:Look) (x:Nat->Xf.Loc) (k:Nat):ent31 us look x k=spOf fs31 inv28 us look x k:=rfl
def fs10:FS where
 A:=PlA
 args:=fun a=>[plV a.p a.L 0]
 mem:=fun a=>[some (.ro,a.L,.ints .i64 a.p.xs)]
 pre:=fun a=>a.p.xs.length<=140737488355328
 res:=fun a _=>.tup [.int .i64 (if a.p.Ok then planesP a.p.xs else 0),.int .i64 (if a.p.Ok then 0 else 70)]
 out:=fun _ _=>[]
 new:=fun _ _=>[]
theorem Pl.Ok.len {p:Pl} (h:p.Ok):p.xs.length<=8192:=by
 obtain⟨⟨a1,a2,a3,a4,a5⟩,b,_⟩:=h
 omega
theorem ok10:FSOk Try.prog 10 fs10:=by
 refine⟨⟨_,Try.func10,by kernel_rfl,by kernel_rfl⟩,fun a=>⟨by simp[fs10,push_cast,noMine,argOwn,Chunk.frArg],by simp[fs10,push_cast,outOk,Chunk.ext],fun x=>.inl (by simp[fs10,push_cast,frNew,frOut,Chunk.fr])⟩,fun a hp=>?_⟩
 obtain⟨⟨w,h,xs⟩,L⟩:=a
 have h1:xs.length<=140737488355328:=hp
 change Tri Try.prog 10 [plV ⟨w,h,xs⟩ L 0] [some (.ro,L,.ints .i64 xs)] (postF fs10 ⟨⟨w,h,xs⟩,L⟩)
 refine tri_evS (hyp (l:=[(28,ent28),(31,ent31)]) (lp:=[]) ⟨e28,e31,trivial⟩ trivial) Try.func10 comp10 (rs:=[.tmp 2,.tmp 3]) (by rfl) Try.ntmps10 19 ?_
 by_cases hok:(⟨w,h,xs⟩:Pl).Ok
 ·have hl:=hok.len
  have hall:=hok.2.2
  simp only at hl hall
  simp -implicitDefEqProofs only[push_cast,zz,seval,ir10,fs28,fs31,hok,hall]
  intro X
  repeat refine om_ ?_
  refine postF.mk' (fun _=>default) [some 0] ?_
  simp -implicitDefEqProofs only[push_cast,zz,seval,fs10,hok]
 ·simp -implicitDefEqProofs only[push_cast,zz,seval,ir10,fs28,fs31,hok]
  intro X
  repeat refine om_ ?_
  refine postF.mk' (fun _=>default) [some 0] ?_
  simp -implicitDefEqProofs only[push_cast,zz,seval,fs10,hok]
theorem sameK.at {l m:List Bck} (h:sameK l m) {i:Nat} (hi:i<l.length):(rdBk l i).b=(rdBk m i).b/\(rdBk l i).L=(rdBk m i).L:=by
 have hm:i<m.length:=by rw[<-h.len];exact hi
 have e:(l.map (fun x=>(x.L,x.b)))[i]'(by simpa using hi)=(m.map (fun x=>(x.L,x.b)))[i]'(by simpa using hm):=by
  have:=h
  unfold sameK at this
  simp only[this]
 simp only[List.getElem_map,Prod.mk.injEq]at e
 rw[rdBk_nat hi,rdBk_nat hm]
 exact⟨e.2,e.1⟩
structure EcA where
 p:Pl
 L:Xf.Loc
 lv:Int
 kd:Int
structure DcA where
 w:Int
 h:Int
 lv:Int
 kd:Int
 P:Int
 L:Xf.Loc
 rows:List (Xf.Loc×List Int)
 n:Nat
def DcA.cs (a:DcA):List (List Int):=(a.rows.take a.n).map (·.2)
end Go.Proofs.Ytkmiklngnainfaa
