import Derived.Test.YtaofjnkpkocgjaaGreatKc
import Derived.Test.YtaofjnkpkocgjaaGreatProg
import Derived.Test.YtaofjnkpkocgjaaGreatChecked
set_option linter.unusedVariables false
set_option linter.unusedSimpArgs false
set_option maxRecDepth 4000
namespace Go.Proofs.YtaofjnkpkocgjaaGreat
open Xf
def tab:Tab:=fun t=>match t with
 | 2=>some ⟨1,8,[.int .i64 0],.int .i64,none⟩
 | 3=>some ⟨1,8,[.int .i64 0],.int .i64,none⟩
 | 4=>some ⟨1,1,[.bool false],.bool,none⟩
 | 5=>some ⟨1,1,[.int .u8 0],.int .u8,none⟩
 | 6=>some ⟨1,1,[.int .u8 0],.int .u8,none⟩
 | 7=>some ⟨4,24,[.int .i64 0,.int .i64 0,.bool false,.int .u8 0],.struct [(0,2),(1,3),(2,4),(3,6)],(some [true,true,false,true])⟩
 | 8=>some ⟨4,24,[.int .i64 0,.int .i64 0,.bool false,.int .u8 0],.struct [(0,2),(1,3),(2,4),(3,6)],(some [true,true,false,true])⟩
 | 9=>some ⟨1,16,[.val (.string ⟨#[]⟩)],.string,none⟩
 | 12=>some ⟨1,8,[.int .u64 0],.int .u64,none⟩
 | 13=>some ⟨2,24,[.val (.string ⟨#[]⟩),.int .u64 0],.struct [(0,9),(1,12)],none⟩
 | 14=>some ⟨2,24,[.val (.string ⟨#[]⟩),.int .u64 0],.struct [(0,9),(1,12)],none⟩
 | 15=>some ⟨1,8,[.val (.pointer none)],.pointer,none⟩
 | 16=>some ⟨1,8,[.val (.pointer none)],.pointer,none⟩
 | 17=>some ⟨1,8,[.val (.pointer none)],.pointer,none⟩
 | 18=>some ⟨1,8,[.val (.pointer none)],.struct [(0,17)],none⟩
 | 19=>some ⟨1,8,[.val (.pointer none)],.struct [(0,17)],none⟩
 | 21=>some ⟨1,4,[.int .i32 0],.int .i32,none⟩
 | 22=>some ⟨1,24,[nilSV],.slice 3,none⟩
 | 23=>some ⟨5,88,[.int .i64 0,.int .i64 0,nilSV,nilSV,nilSV],.struct [(0,3),(1,3),(2,22),(3,22),(4,22)],none⟩
 | 24=>some ⟨5,88,[.int .i64 0,.int .i64 0,nilSV,nilSV,nilSV],.struct [(0,3),(1,3),(2,22),(3,22),(4,22)],none⟩
 | 25=>some ⟨6,40,[.int .i64 0,.int .i64 0,.int .i64 0,.bool false,.bool false,.int .i64 0],.struct [(0,3),(1,3),(2,3),(3,4),(4,4),(5,3)],(some [true,true,true,false,false,true])⟩
 | 26=>some ⟨6,40,[.int .i64 0,.int .i64 0,.int .i64 0,.bool false,.bool false,.int .i64 0],.struct [(0,3),(1,3),(2,3),(3,4),(4,4),(5,3)],(some [true,true,true,false,false,true])⟩
 | 29=>some ⟨1,24,[nilSV],.slice 43,none⟩
 | 30=>some ⟨1,8,[.int .i64 0],.int .i64,none⟩
 | 40=>some ⟨3,24,[.int .i64 0,.int .i64 0,.int .i64 0],.array 3 3,(some [true,true,true])⟩
 | 43=>some ⟨1,24,[nilSV],.slice 5,none⟩
 | 45=>some ⟨3,40,[.int .i64 0,.int .i64 0,nilSV],.struct [(0,3),(1,3),(2,22)],none⟩
 | 46=>some ⟨3,40,[.int .i64 0,.int .i64 0,nilSV],.struct [(0,3),(1,3),(2,22)],none⟩
 | 53=>some ⟨5,56,[nilSV,.int .i64 0,.int .i64 0,.int .i64 0,.int .i64 0],.struct [(0,29),(1,3),(2,3),(3,3),(4,3)],none⟩
 | 54=>some ⟨5,56,[nilSV,.int .i64 0,.int .i64 0,.int .i64 0,.int .i64 0],.struct [(0,29),(1,3),(2,3),(3,3),(4,3)],none⟩
 | 58=>some ⟨11,96,[nilSV,.int .i64 0,.int .i64 0,.int .i64 0,.int .i64 0,.bool false,.bool false,.int .i64 0,.int .i64 0,.int .i64 0,.int .i64 0],.struct [(0,29),(1,3),(2,26),(8,40)],none⟩
 | 59=>some ⟨11,96,[nilSV,.int .i64 0,.int .i64 0,.int .i64 0,.int .i64 0,.bool false,.bool false,.int .i64 0,.int .i64 0,.int .i64 0,.int .i64 0],.struct [(0,29),(1,3),(2,26),(8,40)],none⟩
 | 65=>some ⟨3,40,[.int .i64 0,.int .i64 0,nilSV],.struct [(0,3),(1,3),(2,43)],none⟩
 | 66=>some ⟨3,40,[.int .i64 0,.int .i64 0,nilSV],.struct [(0,3),(1,3),(2,43)],none⟩
 | 70=>some ⟨16,168,[.int .i64 0,.int .i64 0,nilSV,nilSV,nilSV,.int .i64 0,.int .i64 0,.int .i64 0,.bool false,.bool false,.int .i64 0,.int .i64 0,.int .i64 0,.int .i64 0,.int .i64 0,.int .i64 0],.struct [(0,24),(5,26),(11,3),(12,3),(13,3),(14,3),(15,3)],none⟩
 | 71=>some ⟨16,168,[.int .i64 0,.int .i64 0,nilSV,nilSV,nilSV,.int .i64 0,.int .i64 0,.int .i64 0,.bool false,.bool false,.int .i64 0,.int .i64 0,.int .i64 0,.int .i64 0,.int .i64 0,.int .i64 0],.struct [(0,24),(5,26),(11,3),(12,3),(13,3),(14,3),(15,3)],none⟩
 | 74=>some ⟨1,24,[nilSV],.slice 46,none⟩
 | 79=>some ⟨3,72,[nilSV,nilSV,nilSV],.array 3 29,none⟩
 | 89=>some ⟨14,152,[.int .i64 0,.int .i64 0,.int .i64 0,.int .i64 0,.int .i64 0,.bool false,.bool false,.int .i64 0,.int .i64 0,.int .i64 0,.int .i64 0,nilSV,nilSV,nilSV],.struct [(0,3),(1,3),(2,26),(8,40),(11,79)],none⟩
 | 90=>some ⟨14,152,[.int .i64 0,.int .i64 0,.int .i64 0,.int .i64 0,.int .i64 0,.bool false,.bool false,.int .i64 0,.int .i64 0,.int .i64 0,.int .i64 0,nilSV,nilSV,nilSV],.struct [(0,3),(1,3),(2,26),(8,40),(11,79)],none⟩
 | 97=>some ⟨9,120,[.int .i64 0,.int .i64 0,nilSV,.int .i64 0,.int .i64 0,nilSV,.int .i64 0,.int .i64 0,nilSV],.array 3 46,none⟩
 | 100=>some ⟨1,8,[.val (.pointer none)],.pointer,none⟩
 | 101=>some ⟨3,40,[nilSV,.int .i64 0,.int .i64 0],.struct [(0,43),(1,3),(2,30)],none⟩
 | 102=>some ⟨3,40,[nilSV,.int .i64 0,.int .i64 0],.struct [(0,43),(1,3),(2,30)],none⟩
 | 103=>some ⟨1,8,[.int .u64 0],.int .u64,none⟩
 | 111=>some ⟨1,24,[nilSV],.slice 113,none⟩
 | 112=>some ⟨4,32,[.int .i64 0,.int .i64 0,.int .i64 0,.int .i64 0],.struct [(0,3),(1,3),(2,3),(3,3)],(some [true,true,true,true])⟩
 | 113=>some ⟨4,32,[.int .i64 0,.int .i64 0,.int .i64 0,.int .i64 0],.struct [(0,3),(1,3),(2,3),(3,3)],(some [true,true,true,true])⟩
 | 114=>some ⟨1,8,[.val (.pointer none)],.pointer,none⟩
 | 126=>some ⟨1,8,[.val (.pointer none)],.pointer,none⟩
 | 128=>some ⟨3,40,[.int .i64 0,nilSV,.int .i64 0],.struct [(0,3),(1,22),(2,3)],none⟩
 | 129=>some ⟨3,40,[.int .i64 0,nilSV,.int .i64 0],.struct [(0,3),(1,22),(2,3)],none⟩
 | 130=>some ⟨1,24,[nilSV],.slice 132,none⟩
 | 132=>some ⟨2,16,[.int .i64 0,.int .i64 0],.array 2 3,(some [true,true])⟩
 | 140=>some ⟨1,8,[.val (.pointer none)],.pointer,none⟩
 | 142=>some ⟨1,8,[.val (.pointer none)],.pointer,none⟩
 | 144=>some ⟨1,8,[.val (.pointer none)],.pointer,none⟩
 | 147=>some ⟨1,24,[nilSV],.slice 4,none⟩
 | 148=>some ⟨1,24,[nilSV],.slice 217,none⟩
 | 149=>some ⟨2,32,[.int .i64 0,nilSV],.struct [(0,3),(1,22)],none⟩
 | 150=>some ⟨2,32,[.int .i64 0,nilSV],.struct [(0,3),(1,22)],none⟩
 | 151=>some ⟨9,168,[nilSV,nilSV,nilSV,.int .i64 0,nilSV,.int .i64 0,nilSV,nilSV,.int .i64 0],.struct [(0,22),(1,147),(2,22),(3,3),(4,148),(5,150),(7,22),(8,3)],none⟩
 | 152=>some ⟨9,168,[nilSV,nilSV,nilSV,.int .i64 0,nilSV,.int .i64 0,nilSV,nilSV,.int .i64 0],.struct [(0,22),(1,147),(2,22),(3,3),(4,148),(5,150),(7,22),(8,3)],none⟩
 | 165=>some ⟨1,8,[.val (.pointer none)],.pointer,none⟩
 | 168=>some ⟨1,8,[.val (.pointer none)],.pointer,none⟩
 | 172=>some ⟨1,8,[.val (.pointer none)],.pointer,none⟩
 | 173=>some ⟨1,8,[.val (.pointer none)],.pointer,none⟩
 | 174=>some ⟨3,24,[.val (.pointer none),.val (.pointer none),.int .i64 0],.struct [(0,168),(1,173),(2,30)],none⟩
 | 175=>some ⟨3,24,[.val (.pointer none),.val (.pointer none),.int .i64 0],.struct [(0,168),(1,173),(2,30)],none⟩
 | 176=>some ⟨1,8,[.int .u64 0],.int .u64,none⟩
 | 177=>some ⟨2,16,[.int .u64 0,.int .u64 0],.struct [(0,176),(1,176)],(some [true,true])⟩
 | 178=>some ⟨2,16,[.int .u64 0,.int .u64 0],.struct [(0,176),(1,176)],(some [true,true])⟩
 | 179=>some ⟨5,72,[.int .i64 0,nilSV,.int .u64 0,.int .u64 0,nilSV],.struct [(0,150),(2,178),(4,43)],none⟩
 | 180=>some ⟨5,72,[.int .i64 0,nilSV,.int .u64 0,.int .u64 0,nilSV],.struct [(0,150),(2,178),(4,43)],none⟩
 | 185=>some ⟨9,104,[.int .i64 0,nilSV,.int .u64 0,.int .u64 0,nilSV,.int .i64 0,.int .u64 0,.int .i64 0,.bool false],.struct [(0,150),(2,178),(4,43),(5,3),(6,176),(7,3),(8,4)],none⟩
 | 186=>some ⟨9,104,[.int .i64 0,nilSV,.int .u64 0,.int .u64 0,nilSV,.int .i64 0,.int .u64 0,.int .i64 0,.bool false],.struct [(0,150),(2,178),(4,43),(5,3),(6,176),(7,3),(8,4)],none⟩
 | 187=>some ⟨1,24,[nilSV],.slice 204,none⟩
 | 188=>some ⟨1,24,[nilSV],.slice 232,none⟩
 | 189=>some ⟨8,160,[.int .i64 0,.int .i64 0,nilSV,nilSV,nilSV,nilSV,nilSV,nilSV],.struct [(0,3),(1,3),(2,187),(3,188),(4,22),(5,147),(6,22),(7,147)],none⟩
 | 190=>some ⟨8,160,[.int .i64 0,.int .i64 0,nilSV,nilSV,nilSV,nilSV,nilSV,nilSV],.struct [(0,3),(1,3),(2,187),(3,188),(4,22),(5,147),(6,22),(7,147)],none⟩
 | 203=>some ⟨6,48,[.int .i64 0,.int .i64 0,.int .i64 0,.int .i64 0,.int .i64 0,.int .i64 0],.struct [(0,3),(1,3),(2,3),(3,3),(4,3),(5,3)],(some [true,true,true,true,true,true])⟩
 | 204=>some ⟨6,48,[.int .i64 0,.int .i64 0,.int .i64 0,.int .i64 0,.int .i64 0,.int .i64 0],.struct [(0,3),(1,3),(2,3),(3,3),(4,3),(5,3)],(some [true,true,true,true,true,true])⟩
 | 206=>some ⟨32,256,[.int .i64 0,.int .i64 0,.int .i64 0,.int .i64 0,.int .i64 0,.int .i64 0,.int .i64 0,.int .i64 0,.int .i64 0,.int .i64 0,.int .i64 0,.int .i64 0,.int .i64 0,.int .i64 0,.int .i64 0,.int .i64 0,.int .i64 0,.int .i64 0,.int .i64 0,.int .i64 0,.int .i64 0,.int .i64 0,.int .i64 0,.int .i64 0,.int .i64 0,.int .i64 0,.int .i64 0,.int .i64 0,.int .i64 0,.int .i64 0,.int .i64 0,.int .i64 0],.array 32 3,(some [true,true,true,true,true,true,true,true,true,true,true,true,true,true,true,true,true,true,true,true,true,true,true,true,true,true,true,true,true,true,true,true])⟩
 | 207=>some ⟨32,256,[.int .i64 0,.int .i64 0,.int .i64 0,.int .i64 0,.int .i64 0,.int .i64 0,.int .i64 0,.int .i64 0,.int .i64 0,.int .i64 0,.int .i64 0,.int .i64 0,.int .i64 0,.int .i64 0,.int .i64 0,.int .i64 0,.int .i64 0,.int .i64 0,.int .i64 0,.int .i64 0,.int .i64 0,.int .i64 0,.int .i64 0,.int .i64 0,.int .i64 0,.int .i64 0,.int .i64 0,.int .i64 0,.int .i64 0,.int .i64 0,.int .i64 0,.int .i64 0],.array 32 3,(some [true,true,true,true,true,true,true,true,true,true,true,true,true,true,true,true,true,true,true,true,true,true,true,true,true,true,true,true,true,true,true,true])⟩
 | 208=>some ⟨36,304,[.int .i64 0,nilSV,.int .i64 0,.int .i64 0,.int .i64 0,.int .i64 0,.int .i64 0,.int .i64 0,.int .i64 0,.int .i64 0,.int .i64 0,.int .i64 0,.int .i64 0,.int .i64 0,.int .i64 0,.int .i64 0,.int .i64 0,.int .i64 0,.int .i64 0,.int .i64 0,.int .i64 0,.int .i64 0,.int .i64 0,.int .i64 0,.int .i64 0,.int .i64 0,.int .i64 0,.int .i64 0,.int .i64 0,.int .i64 0,.int .i64 0,.int .i64 0,.int .i64 0,.int .i64 0,.int .u64 0,.int .u64 0],.struct [(0,150),(2,207),(34,176),(35,176)],none⟩
 | 209=>some ⟨36,304,[.int .i64 0,nilSV,.int .i64 0,.int .i64 0,.int .i64 0,.int .i64 0,.int .i64 0,.int .i64 0,.int .i64 0,.int .i64 0,.int .i64 0,.int .i64 0,.int .i64 0,.int .i64 0,.int .i64 0,.int .i64 0,.int .i64 0,.int .i64 0,.int .i64 0,.int .i64 0,.int .i64 0,.int .i64 0,.int .i64 0,.int .i64 0,.int .i64 0,.int .i64 0,.int .i64 0,.int .i64 0,.int .i64 0,.int .i64 0,.int .i64 0,.int .i64 0,.int .i64 0,.int .i64 0,.int .u64 0,.int .u64 0],.struct [(0,150),(2,207),(34,176),(35,176)],none⟩
 | 211=>some ⟨38,336,[.int .i64 0,nilSV,.int .i64 0,.int .i64 0,.int .i64 0,.int .i64 0,.int .i64 0,.int .i64 0,.int .i64 0,.int .i64 0,.int .i64 0,.int .i64 0,.int .i64 0,.int .i64 0,.int .i64 0,.int .i64 0,.int .i64 0,.int .i64 0,.int .i64 0,.int .i64 0,.int .i64 0,.int .i64 0,.int .i64 0,.int .i64 0,.int .i64 0,.int .i64 0,.int .i64 0,.int .i64 0,.int .i64 0,.int .i64 0,.int .i64 0,.int .i64 0,.int .i64 0,.int .i64 0,.int .u64 0,.int .u64 0,nilSV,.bool false],.struct [(0,209),(36,43),(37,4)],none⟩
 | 212=>some ⟨38,336,[.int .i64 0,nilSV,.int .i64 0,.int .i64 0,.int .i64 0,.int .i64 0,.int .i64 0,.int .i64 0,.int .i64 0,.int .i64 0,.int .i64 0,.int .i64 0,.int .i64 0,.int .i64 0,.int .i64 0,.int .i64 0,.int .i64 0,.int .i64 0,.int .i64 0,.int .i64 0,.int .i64 0,.int .i64 0,.int .i64 0,.int .i64 0,.int .i64 0,.int .i64 0,.int .i64 0,.int .i64 0,.int .i64 0,.int .i64 0,.int .i64 0,.int .i64 0,.int .i64 0,.int .i64 0,.int .u64 0,.int .u64 0,nilSV,.bool false],.struct [(0,209),(36,43),(37,4)],none⟩
 | 215=>some ⟨1,8,[.val (.pointer none)],.pointer,none⟩
 | 216=>some ⟨4,48,[nilSV,.int .i64 0,.int .i64 0,.bool false],.struct [(0,22),(1,3),(2,3),(3,4)],none⟩
 | 217=>some ⟨4,48,[nilSV,.int .i64 0,.int .i64 0,.bool false],.struct [(0,22),(1,3),(2,3),(3,4)],none⟩
 | 231=>some ⟨8,64,[.int .i64 0,.int .i64 0,.int .i64 0,.int .i64 0,.int .i64 0,.int .i64 0,.int .i64 0,.int .i64 0],.struct [(0,3),(1,3),(2,3),(3,3),(4,3),(5,3),(6,3),(7,3)],(some [true,true,true,true,true,true,true,true])⟩
 | 232=>some ⟨8,64,[.int .i64 0,.int .i64 0,.int .i64 0,.int .i64 0,.int .i64 0,.int .i64 0,.int .i64 0,.int .i64 0],.struct [(0,3),(1,3),(2,3),(3,3),(4,3),(5,3),(6,3),(7,3)],(some [true,true,true,true,true,true,true,true])⟩
 | 236=>some ⟨1,8,[.val (.pointer none)],.pointer,none⟩
 | 243=>some ⟨1,4,[.int .u32 0],.int .u32,none⟩
 | 245=>some ⟨1,24,[nilSV],.slice 247,none⟩
 | 246=>some ⟨9,72,[.int .i64 0,.int .i64 0,.int .i64 0,.int .i64 0,.int .i64 0,.int .i64 0,.int .i64 0,.int .i64 0,.int .i64 0],.struct [(0,204),(6,3),(7,3),(8,3)],none⟩
 | 247=>some ⟨9,72,[.int .i64 0,.int .i64 0,.int .i64 0,.int .i64 0,.int .i64 0,.int .i64 0,.int .i64 0,.int .i64 0,.int .i64 0],.struct [(0,204),(6,3),(7,3),(8,3)],none⟩
 | 248=>some ⟨1,8,[.val (.pointer none)],.pointer,none⟩
 | 254=>some ⟨1,8,[.val (.pointer none)],.pointer,none⟩
 | 258=>some ⟨42,360,[.int .i64 0,nilSV,.int .i64 0,.int .i64 0,.int .i64 0,.int .i64 0,.int .i64 0,.int .i64 0,.int .i64 0,.int .i64 0,.int .i64 0,.int .i64 0,.int .i64 0,.int .i64 0,.int .i64 0,.int .i64 0,.int .i64 0,.int .i64 0,.int .i64 0,.int .i64 0,.int .i64 0,.int .i64 0,.int .i64 0,.int .i64 0,.int .i64 0,.int .i64 0,.int .i64 0,.int .i64 0,.int .i64 0,.int .i64 0,.int .i64 0,.int .i64 0,.int .i64 0,.int .i64 0,.int .u64 0,.int .u64 0,nilSV,.int .i64 0,.int .u64 0,.int .i64 0,.bool false,.bool false],.struct [(0,209),(36,43),(37,3),(38,176),(39,3),(40,4),(41,4)],none⟩
 | 259=>some ⟨42,360,[.int .i64 0,nilSV,.int .i64 0,.int .i64 0,.int .i64 0,.int .i64 0,.int .i64 0,.int .i64 0,.int .i64 0,.int .i64 0,.int .i64 0,.int .i64 0,.int .i64 0,.int .i64 0,.int .i64 0,.int .i64 0,.int .i64 0,.int .i64 0,.int .i64 0,.int .i64 0,.int .i64 0,.int .i64 0,.int .i64 0,.int .i64 0,.int .i64 0,.int .i64 0,.int .i64 0,.int .i64 0,.int .i64 0,.int .i64 0,.int .i64 0,.int .i64 0,.int .i64 0,.int .i64 0,.int .u64 0,.int .u64 0,nilSV,.int .i64 0,.int .u64 0,.int .i64 0,.bool false,.bool false],.struct [(0,209),(36,43),(37,3),(38,176),(39,3),(40,4),(41,4)],none⟩
 | 264=>some ⟨4,40,[.val (.pointer none),.val (.pointer none),.val (.pointer none),.val (.string ⟨#[]⟩)],.struct [(0,17),(1,17),(2,17),(3,9)],none⟩
 | 265=>some ⟨4,40,[.val (.pointer none),.val (.pointer none),.val (.pointer none),.val (.string ⟨#[]⟩)],.struct [(0,17),(1,17),(2,17),(3,9)],none⟩
 | 266=>some ⟨0,0,[],.array 0 16,none⟩
 | 267=>some ⟨0,0,[],.struct [(0,266)],none⟩
 | 268=>some ⟨0,0,[],.struct [(0,266)],none⟩
 | 270=>some ⟨1,1,[.int .u8 0],.int .u8,none⟩
 | 271=>some ⟨1,1,[.int .u8 0],.int .u8,none⟩
 | 273=>some ⟨1,8,[.val (.pointer none)],.pointer,none⟩
 | 274=>some ⟨1,4,[.int .i32 0],.int .i32,none⟩
 | 275=>some ⟨1,4,[.int .i32 0],.int .i32,none⟩
 | 276=>some ⟨11,48,[.int .u64 0,.int .u64 0,.int .u32 0,.int .u8 0,.int .u8 0,.int .u8 0,.int .u8 0,.val .nilFunc,.val (.pointer none),.int .i32 0,.int .i32 0],.struct [(0,12),(1,12),(2,243),(3,270),(4,5),(5,5),(6,271),(7,272),(8,273),(9,274),(10,275)],none⟩
 | 277=>some ⟨11,48,[.int .u64 0,.int .u64 0,.int .u32 0,.int .u8 0,.int .u8 0,.int .u8 0,.int .u8 0,.val .nilFunc,.val (.pointer none),.int .i32 0,.int .i32 0],.struct [(0,12),(1,12),(2,243),(3,270),(4,5),(5,5),(6,271),(7,272),(8,273),(9,274),(10,275)],none⟩
 | _=>none
theorem hT:∀ t tt,tab t=some tt->TtOk Tryz.prog t tt:=by
 intro t tt h
 unfold tab at h
 split at h
 ·cases h;exact tk_ (z:=.int .i64 0) Tryz.underlying2
 ·cases h;exact tk_ (z:=.int .i64 0) Tryz.underlying3
 ·cases h;exact tk_ (z:=.bool false) Tryz.underlying4
 ·cases h;exact tk_ (z:=.int .u8 0) Tryz.underlying5
 ·cases h;exact tk_ (z:=.int .u8 0) Tryz.underlying6
 ·cases h;exact tk_ (z:=.agg #[.int .i64 0,.int .i64 0,.bool false,.int .u8 0]) Tryz.underlying7
 ·cases h;exact tk_ (z:=.agg #[.int .i64 0,.int .i64 0,.bool false,.int .u8 0]) Tryz.underlying8
 ·cases h;exact tk_ (z:=.string ⟨#[]⟩) Tryz.underlying9
 ·cases h;exact tk_ (z:=.int .u64 0) Tryz.underlying12
 ·cases h;exact tk_ (z:=.agg #[.string ⟨#[]⟩,.int .u64 0]) Tryz.underlying13
 ·cases h;exact tk_ (z:=.agg #[.string ⟨#[]⟩,.int .u64 0]) Tryz.underlying14
 ·cases h;exact tk_ (z:=.pointer none) Tryz.underlying15
 ·cases h;exact tk_ (z:=.pointer none) Tryz.underlying16
 ·cases h;exact tk_ (z:=.pointer none) Tryz.underlying17
 ·cases h;exact tk_ (z:=.agg #[.pointer none]) Tryz.underlying18
 ·cases h;exact tk_ (z:=.agg #[.pointer none]) Tryz.underlying19
 ·cases h;exact tk_ (z:=.int .i32 0) Tryz.underlying21
 ·cases h;exact tk_ (z:=.slice none 0 0) Tryz.underlying22
 ·cases h;exact tk_ (z:=.agg #[.int .i64 0,.int .i64 0,.slice none 0 0,.slice none 0 0,.slice none 0 0]) Tryz.underlying23
 ·cases h;exact tk_ (z:=.agg #[.int .i64 0,.int .i64 0,.slice none 0 0,.slice none 0 0,.slice none 0 0]) Tryz.underlying24
 ·cases h;exact tk_ (z:=.agg #[.int .i64 0,.int .i64 0,.int .i64 0,.bool false,.bool false,.int .i64 0]) Tryz.underlying25
 ·cases h;exact tk_ (z:=.agg #[.int .i64 0,.int .i64 0,.int .i64 0,.bool false,.bool false,.int .i64 0]) Tryz.underlying26
 ·cases h;exact tk_ (z:=.slice none 0 0) Tryz.underlying29
 ·cases h;exact tk_ (z:=.int .i64 0) Tryz.underlying30
 ·cases h;exact tk_ (z:=.agg #[.int .i64 0,.int .i64 0,.int .i64 0]) Tryz.underlying40
 ·cases h;exact tk_ (z:=.slice none 0 0) Tryz.underlying43
 ·cases h;exact tk_ (z:=.agg #[.int .i64 0,.int .i64 0,.slice none 0 0]) Tryz.underlying45
 ·cases h;exact tk_ (z:=.agg #[.int .i64 0,.int .i64 0,.slice none 0 0]) Tryz.underlying46
 ·cases h;exact tk_ (z:=.agg #[.slice none 0 0,.int .i64 0,.int .i64 0,.int .i64 0,.int .i64 0]) Tryz.underlying53
 ·cases h;exact tk_ (z:=.agg #[.slice none 0 0,.int .i64 0,.int .i64 0,.int .i64 0,.int .i64 0]) Tryz.underlying54
 ·cases h;exact tk_ (z:=.agg #[.slice none 0 0,.int .i64 0,.int .i64 0,.int .i64 0,.int .i64 0,.bool false,.bool false,.int .i64 0,.int .i64 0,.int .i64 0,.int .i64 0]) Tryz.underlying58
 ·cases h;exact tk_ (z:=.agg #[.slice none 0 0,.int .i64 0,.int .i64 0,.int .i64 0,.int .i64 0,.bool false,.bool false,.int .i64 0,.int .i64 0,.int .i64 0,.int .i64 0]) Tryz.underlying59
 ·cases h;exact tk_ (z:=.agg #[.int .i64 0,.int .i64 0,.slice none 0 0]) Tryz.underlying65
 ·cases h;exact tk_ (z:=.agg #[.int .i64 0,.int .i64 0,.slice none 0 0]) Tryz.underlying66
 ·cases h;exact tk_ (z:=.agg #[.int .i64 0,.int .i64 0,.slice none 0 0,.slice none 0 0,.slice none 0 0,.int .i64 0,.int .i64 0,.int .i64 0,.bool false,.bool false,.int .i64 0,.int .i64 0,.int .i64 0,.int .i64 0,.int .i64 0,.int .i64 0]) Tryz.underlying70
 ·cases h;exact tk_ (z:=.agg #[.int .i64 0,.int .i64 0,.slice none 0 0,.slice none 0 0,.slice none 0 0,.int .i64 0,.int .i64 0,.int .i64 0,.bool false,.bool false,.int .i64 0,.int .i64 0,.int .i64 0,.int .i64 0,.int .i64 0,.int .i64 0]) Tryz.underlying71
 ·cases h;exact tk_ (z:=.slice none 0 0) Tryz.underlying74
 ·cases h;exact tk_ (z:=.agg #[.slice none 0 0,.slice none 0 0,.slice none 0 0]) Tryz.underlying79
 ·cases h;exact tk_ (z:=.agg #[.int .i64 0,.int .i64 0,.int .i64 0,.int .i64 0,.int .i64 0,.bool false,.bool false,.int .i64 0,.int .i64 0,.int .i64 0,.int .i64 0,.slice none 0 0,.slice none 0 0,.slice none 0 0]) Tryz.underlying89
 ·cases h;exact tk_ (z:=.agg #[.int .i64 0,.int .i64 0,.int .i64 0,.int .i64 0,.int .i64 0,.bool false,.bool false,.int .i64 0,.int .i64 0,.int .i64 0,.int .i64 0,.slice none 0 0,.slice none 0 0,.slice none 0 0]) Tryz.underlying90
 ·cases h;exact tk_ (z:=.agg #[.int .i64 0,.int .i64 0,.slice none 0 0,.int .i64 0,.int .i64 0,.slice none 0 0,.int .i64 0,.int .i64 0,.slice none 0 0]) Tryz.underlying97
 ·cases h;exact tk_ (z:=.pointer none) Tryz.underlying100
 ·cases h;exact tk_ (z:=.agg #[.slice none 0 0,.int .i64 0,.int .i64 0]) Tryz.underlying101
 ·cases h;exact tk_ (z:=.agg #[.slice none 0 0,.int .i64 0,.int .i64 0]) Tryz.underlying102
 ·cases h;exact tk_ (z:=.int .u64 0) Tryz.underlying103
 ·cases h;exact tk_ (z:=.slice none 0 0) Tryz.underlying111
 ·cases h;exact tk_ (z:=.agg #[.int .i64 0,.int .i64 0,.int .i64 0,.int .i64 0]) Tryz.underlying112
 ·cases h;exact tk_ (z:=.agg #[.int .i64 0,.int .i64 0,.int .i64 0,.int .i64 0]) Tryz.underlying113
 ·cases h;exact tk_ (z:=.pointer none) Tryz.underlying114
 ·cases h;exact tk_ (z:=.pointer none) Tryz.underlying126
 ·cases h;exact tk_ (z:=.agg #[.int .i64 0,.slice none 0 0,.int .i64 0]) Tryz.underlying128
 ·cases h;exact tk_ (z:=.agg #[.int .i64 0,.slice none 0 0,.int .i64 0]) Tryz.underlying129
 ·cases h;exact tk_ (z:=.slice none 0 0) Tryz.underlying130
 ·cases h;exact tk_ (z:=.agg #[.int .i64 0,.int .i64 0]) Tryz.underlying132
 ·cases h;exact tk_ (z:=.pointer none) Tryz.underlying140
 ·cases h;exact tk_ (z:=.pointer none) Tryz.underlying142
 ·cases h;exact tk_ (z:=.pointer none) Tryz.underlying144
 ·cases h;exact tk_ (z:=.slice none 0 0) Tryz.underlying147
 ·cases h;exact tk_ (z:=.slice none 0 0) Tryz.underlying148
 ·cases h;exact tk_ (z:=.agg #[.int .i64 0,.slice none 0 0]) Tryz.underlying149
 ·cases h;exact tk_ (z:=.agg #[.int .i64 0,.slice none 0 0]) Tryz.underlying150
 ·cases h;exact tk_ (z:=.agg #[.slice none 0 0,.slice none 0 0,.slice none 0 0,.int .i64 0,.slice none 0 0,.int .i64 0,.slice none 0 0,.slice none 0 0,.int .i64 0]) Tryz.underlying151
 ·cases h;exact tk_ (z:=.agg #[.slice none 0 0,.slice none 0 0,.slice none 0 0,.int .i64 0,.slice none 0 0,.int .i64 0,.slice none 0 0,.slice none 0 0,.int .i64 0]) Tryz.underlying152
 ·cases h;exact tk_ (z:=.pointer none) Tryz.underlying165
 ·cases h;exact tk_ (z:=.pointer none) Tryz.underlying168
 ·cases h;exact tk_ (z:=.pointer none) Tryz.underlying172
 ·cases h;exact tk_ (z:=.pointer none) Tryz.underlying173
 ·cases h;exact tk_ (z:=.agg #[.pointer none,.pointer none,.int .i64 0]) Tryz.underlying174
 ·cases h;exact tk_ (z:=.agg #[.pointer none,.pointer none,.int .i64 0]) Tryz.underlying175
 ·cases h;exact tk_ (z:=.int .u64 0) Tryz.underlying176
 ·cases h;exact tk_ (z:=.agg #[.int .u64 0,.int .u64 0]) Tryz.underlying177
 ·cases h;exact tk_ (z:=.agg #[.int .u64 0,.int .u64 0]) Tryz.underlying178
 ·cases h;exact tk_ (z:=.agg #[.int .i64 0,.slice none 0 0,.int .u64 0,.int .u64 0,.slice none 0 0]) Tryz.underlying179
 ·cases h;exact tk_ (z:=.agg #[.int .i64 0,.slice none 0 0,.int .u64 0,.int .u64 0,.slice none 0 0]) Tryz.underlying180
 ·cases h;exact tk_ (z:=.agg #[.int .i64 0,.slice none 0 0,.int .u64 0,.int .u64 0,.slice none 0 0,.int .i64 0,.int .u64 0,.int .i64 0,.bool false]) Tryz.underlying185
 ·cases h;exact tk_ (z:=.agg #[.int .i64 0,.slice none 0 0,.int .u64 0,.int .u64 0,.slice none 0 0,.int .i64 0,.int .u64 0,.int .i64 0,.bool false]) Tryz.underlying186
 ·cases h;exact tk_ (z:=.slice none 0 0) Tryz.underlying187
 ·cases h;exact tk_ (z:=.slice none 0 0) Tryz.underlying188
 ·cases h;exact tk_ (z:=.agg #[.int .i64 0,.int .i64 0,.slice none 0 0,.slice none 0 0,.slice none 0 0,.slice none 0 0,.slice none 0 0,.slice none 0 0]) Tryz.underlying189
 ·cases h;exact tk_ (z:=.agg #[.int .i64 0,.int .i64 0,.slice none 0 0,.slice none 0 0,.slice none 0 0,.slice none 0 0,.slice none 0 0,.slice none 0 0]) Tryz.underlying190
 ·cases h;exact tk_ (z:=.agg #[.int .i64 0,.int .i64 0,.int .i64 0,.int .i64 0,.int .i64 0,.int .i64 0]) Tryz.underlying203
 ·cases h;exact tk_ (z:=.agg #[.int .i64 0,.int .i64 0,.int .i64 0,.int .i64 0,.int .i64 0,.int .i64 0]) Tryz.underlying204
 ·cases h;exact tk_ (z:=.agg #[.int .i64 0,.int .i64 0,.int .i64 0,.int .i64 0,.int .i64 0,.int .i64 0,.int .i64 0,.int .i64 0,.int .i64 0,.int .i64 0,.int .i64 0,.int .i64 0,.int .i64 0,.int .i64 0,.int .i64 0,.int .i64 0,.int .i64 0,.int .i64 0,.int .i64 0,.int .i64 0,.int .i64 0,.int .i64 0,.int .i64 0,.int .i64 0,.int .i64 0,.int .i64 0,.int .i64 0,.int .i64 0,.int .i64 0,.int .i64 0,.int .i64 0,.int .i64 0]) Tryz.underlying206
 ·cases h;exact tk_ (z:=.agg #[.int .i64 0,.int .i64 0,.int .i64 0,.int .i64 0,.int .i64 0,.int .i64 0,.int .i64 0,.int .i64 0,.int .i64 0,.int .i64 0,.int .i64 0,.int .i64 0,.int .i64 0,.int .i64 0,.int .i64 0,.int .i64 0,.int .i64 0,.int .i64 0,.int .i64 0,.int .i64 0,.int .i64 0,.int .i64 0,.int .i64 0,.int .i64 0,.int .i64 0,.int .i64 0,.int .i64 0,.int .i64 0,.int .i64 0,.int .i64 0,.int .i64 0,.int .i64 0]) Tryz.underlying207
 ·cases h;exact tk_ (z:=.agg #[.int .i64 0,.slice none 0 0,.int .i64 0,.int .i64 0,.int .i64 0,.int .i64 0,.int .i64 0,.int .i64 0,.int .i64 0,.int .i64 0,.int .i64 0,.int .i64 0,.int .i64 0,.int .i64 0,.int .i64 0,.int .i64 0,.int .i64 0,.int .i64 0,.int .i64 0,.int .i64 0,.int .i64 0,.int .i64 0,.int .i64 0,.int .i64 0,.int .i64 0,.int .i64 0,.int .i64 0,.int .i64 0,.int .i64 0,.int .i64 0,.int .i64 0,.int .i64 0,.int .i64 0,.int .i64 0,.int .u64 0,.int .u64 0]) Tryz.underlying208
 ·cases h;exact tk_ (z:=.agg #[.int .i64 0,.slice none 0 0,.int .i64 0,.int .i64 0,.int .i64 0,.int .i64 0,.int .i64 0,.int .i64 0,.int .i64 0,.int .i64 0,.int .i64 0,.int .i64 0,.int .i64 0,.int .i64 0,.int .i64 0,.int .i64 0,.int .i64 0,.int .i64 0,.int .i64 0,.int .i64 0,.int .i64 0,.int .i64 0,.int .i64 0,.int .i64 0,.int .i64 0,.int .i64 0,.int .i64 0,.int .i64 0,.int .i64 0,.int .i64 0,.int .i64 0,.int .i64 0,.int .i64 0,.int .i64 0,.int .u64 0,.int .u64 0]) Tryz.underlying209
 ·cases h;exact tk_ (z:=.agg #[.int .i64 0,.slice none 0 0,.int .i64 0,.int .i64 0,.int .i64 0,.int .i64 0,.int .i64 0,.int .i64 0,.int .i64 0,.int .i64 0,.int .i64 0,.int .i64 0,.int .i64 0,.int .i64 0,.int .i64 0,.int .i64 0,.int .i64 0,.int .i64 0,.int .i64 0,.int .i64 0,.int .i64 0,.int .i64 0,.int .i64 0,.int .i64 0,.int .i64 0,.int .i64 0,.int .i64 0,.int .i64 0,.int .i64 0,.int .i64 0,.int .i64 0,.int .i64 0,.int .i64 0,.int .i64 0,.int .u64 0,.int .u64 0,.slice none 0 0,.bool false]) Tryz.underlying211
 ·cases h;exact tk_ (z:=.agg #[.int .i64 0,.slice none 0 0,.int .i64 0,.int .i64 0,.int .i64 0,.int .i64 0,.int .i64 0,.int .i64 0,.int .i64 0,.int .i64 0,.int .i64 0,.int .i64 0,.int .i64 0,.int .i64 0,.int .i64 0,.int .i64 0,.int .i64 0,.int .i64 0,.int .i64 0,.int .i64 0,.int .i64 0,.int .i64 0,.int .i64 0,.int .i64 0,.int .i64 0,.int .i64 0,.int .i64 0,.int .i64 0,.int .i64 0,.int .i64 0,.int .i64 0,.int .i64 0,.int .i64 0,.int .i64 0,.int .u64 0,.int .u64 0,.slice none 0 0,.bool false]) Tryz.underlying212
 ·cases h;exact tk_ (z:=.pointer none) Tryz.underlying215
 ·cases h;exact tk_ (z:=.agg #[.slice none 0 0,.int .i64 0,.int .i64 0,.bool false]) Tryz.underlying216
 ·cases h;exact tk_ (z:=.agg #[.slice none 0 0,.int .i64 0,.int .i64 0,.bool false]) Tryz.underlying217
 ·cases h;exact tk_ (z:=.agg #[.int .i64 0,.int .i64 0,.int .i64 0,.int .i64 0,.int .i64 0,.int .i64 0,.int .i64 0,.int .i64 0]) Tryz.underlying231
 ·cases h;exact tk_ (z:=.agg #[.int .i64 0,.int .i64 0,.int .i64 0,.int .i64 0,.int .i64 0,.int .i64 0,.int .i64 0,.int .i64 0]) Tryz.underlying232
 ·cases h;exact tk_ (z:=.pointer none) Tryz.underlying236
 ·cases h;exact tk_ (z:=.int .u32 0) Tryz.underlying243
 ·cases h;exact tk_ (z:=.slice none 0 0) Tryz.underlying245
 ·cases h;exact tk_ (z:=.agg #[.int .i64 0,.int .i64 0,.int .i64 0,.int .i64 0,.int .i64 0,.int .i64 0,.int .i64 0,.int .i64 0,.int .i64 0]) Tryz.underlying246
 ·cases h;exact tk_ (z:=.agg #[.int .i64 0,.int .i64 0,.int .i64 0,.int .i64 0,.int .i64 0,.int .i64 0,.int .i64 0,.int .i64 0,.int .i64 0]) Tryz.underlying247
 ·cases h;exact tk_ (z:=.pointer none) Tryz.underlying248
 ·cases h;exact tk_ (z:=.pointer none) Tryz.underlying254
 ·cases h;exact tk_ (z:=.agg #[.int .i64 0,.slice none 0 0,.int .i64 0,.int .i64 0,.int .i64 0,.int .i64 0,.int .i64 0,.int .i64 0,.int .i64 0,.int .i64 0,.int .i64 0,.int .i64 0,.int .i64 0,.int .i64 0,.int .i64 0,.int .i64 0,.int .i64 0,.int .i64 0,.int .i64 0,.int .i64 0,.int .i64 0,.int .i64 0,.int .i64 0,.int .i64 0,.int .i64 0,.int .i64 0,.int .i64 0,.int .i64 0,.int .i64 0,.int .i64 0,.int .i64 0,.int .i64 0,.int .i64 0,.int .i64 0,.int .u64 0,.int .u64 0,.slice none 0 0,.int .i64 0,.int .u64 0,.int .i64 0,.bool false,.bool false]) Tryz.underlying258
 ·cases h;exact tk_ (z:=.agg #[.int .i64 0,.slice none 0 0,.int .i64 0,.int .i64 0,.int .i64 0,.int .i64 0,.int .i64 0,.int .i64 0,.int .i64 0,.int .i64 0,.int .i64 0,.int .i64 0,.int .i64 0,.int .i64 0,.int .i64 0,.int .i64 0,.int .i64 0,.int .i64 0,.int .i64 0,.int .i64 0,.int .i64 0,.int .i64 0,.int .i64 0,.int .i64 0,.int .i64 0,.int .i64 0,.int .i64 0,.int .i64 0,.int .i64 0,.int .i64 0,.int .i64 0,.int .i64 0,.int .i64 0,.int .i64 0,.int .u64 0,.int .u64 0,.slice none 0 0,.int .i64 0,.int .u64 0,.int .i64 0,.bool false,.bool false]) Tryz.underlying259
 ·cases h;exact tk_ (z:=.agg #[.pointer none,.pointer none,.pointer none,.string ⟨#[]⟩]) Tryz.underlying264
 ·cases h;exact tk_ (z:=.agg #[.pointer none,.pointer none,.pointer none,.string ⟨#[]⟩]) Tryz.underlying265
 ·cases h;exact tk_ (z:=.agg #[]) Tryz.underlying266
 ·cases h;exact tk_ (z:=.agg #[]) Tryz.underlying267
 ·cases h;exact tk_ (z:=.agg #[]) Tryz.underlying268
 ·cases h;exact tk_ (z:=.int .u8 0) Tryz.underlying270
 ·cases h;exact tk_ (z:=.int .u8 0) Tryz.underlying271
 ·cases h;exact tk_ (z:=.pointer none) Tryz.underlying273
 ·cases h;exact tk_ (z:=.int .i32 0) Tryz.underlying274
 ·cases h;exact tk_ (z:=.int .i32 0) Tryz.underlying275
 ·cases h;exact tk_ (z:=.agg #[.int .u64 0,.int .u64 0,.int .u32 0,.int .u8 0,.int .u8 0,.int .u8 0,.int .u8 0,.nilFunc,.pointer none,.int .i32 0,.int .i32 0]) Tryz.underlying276
 ·cases h;exact tk_ (z:=.agg #[.int .u64 0,.int .u64 0,.int .u32 0,.int .u8 0,.int .u8 0,.int .u8 0,.int .u8 0,.nilFunc,.pointer none,.int .i32 0,.int .i32 0]) Tryz.underlying277
 ·cases h
def isP:FuncId->Bool:=fun f=>f==105||f==154||f==69||f==79||f==121||f==104||f==73||f==155||f==123||f==143||f==195||f==220||f==146||f==124||f==110||f==99||f==177||f==183||f==212||f==207||f==208||f==202||f==198||f==156||f==228||f==222||f==224||f==227||f==223||f==225||f==226||f==181||f==140||f==176
def ir105:IR:=
 .seq (r_ [o_ 4 (.mov (.k (.bool false)))] [4]) (.seq (r_ [m_ 5 0,c_ 6 .geq 5 0,m_ 7 6,p_ 7 (m_ 8 1),p_ 7 (c_ 9 .geq 8 0),K_ 10 7 9,m_ 11 10,p_ 11 (m_ 12 0),p_ 11 (c_ 13 .leq 12 200),K_ 14 11 13,m_ 15 14,p_ 15 (m_ 16 1),p_ 15 (c_ 17 .leq 16 200),K_ 18 15 17,m_ 19 18,p_ 19 (m_ 20 0),p_ 19 (m_ 21 1),p_ 19 (b_ 22 .mul 20 21),p_ 19 (c_ 23 .leq 22 8192),K_ 24 19 23,m_ 4 24] [0,1,5,6,7,8,9,10,11,12,13,14,15,16,17,18,19,20,21,22,23,24]) (.ret))
set_option maxRecDepth 4000 in
theorem comp105:(Tryz.f105.body.bind fun c=>compC tab isP chkAll ir105 c)=some ir105:=by kernel_rfl
def ir154:IR:=
 .seq (r_ [o_ 2 (.mov (.k (.bool false)))] [2]) (.seq (r_ [m_ 3 0,c_ 4 .geq 3 0,m_ 5 4,p_ 5 (m_ 6 0),p_ 5 (c_ 7 .leq 6 255),K_ 8 5 7,m_ 2 8] [0,3,4,5,6,7,8]) (.ret))
set_option maxRecDepth 4000 in
theorem comp154:(Tryz.f154.body.bind fun c=>compC tab isP chkAll ir154 c)=some ir154:=by kernel_rfl
def ir153:IR:=
 .seq (r_ [o_ 2 (.mov (.k (.bool false)))] [2]) (.seq (r_ [m_ 3 0,o_ 4 (.callp 154 [.t 3]),o_ 5 (.not (.t 4)),m_ 2 5] [0,3,4,5]) (.ret))
set_option maxRecDepth 4000 in
theorem comp153:(Tryz.f153.body.bind fun c=>compC tab isP chkAll ir153 c)=some ir153:=by kernel_rfl
theorem mixed:Tryz.prog.follows .mixedOrders=true:=by kernel_rfl
theorem hyp {l:List (FuncId×Entry)} {lp:List (FuncId×EntryP)} (h:allOk Tryz.prog l) (hp:allPOk Tryz.prog lp):Hyp Tryz.prog tab isP (spList l) (spPList lp) chkAll:=
 ⟨hT,spPList_ok hp,spList_ok h,draw_ok mixed hT (spPList_ok hp) (spList_ok h)⟩
theorem hypI {l:List (FuncId×Entry)} {li:List (FuncId×ITS)} {lp:List (FuncId×EntryP)} (h:allOk Tryz.prog l) (hi:allIt Tryz.prog li) (hp:allPOk Tryz.prog lp):Hyp Tryz.prog tab isP (spListI l li) (spPList lp) chkAll:=
 ⟨hT,spPList_ok hp,spListI_ok h hi,draw_ok mixed hT (spPList_ok hp) (spListI_ok h hi)⟩
def SidesOk (w h:Int):Prop:=0<=w/\0<=h/\w<=200/\h<=200/\w*h<=8192
instance (w h:Int):Decidable (SidesOk w h):=by unfold SidesOk;infer_instance
def ValOk (n:Int):Prop:=0<=n/\n<=255
instance (n:Int):Decidable (ValOk n):=by unfold ValOk;infer_instance
theorem SidesOk.bd {w h:Int} (H:SidesOk w h):0<=w*h/\w*h<=8192:=⟨Int.mul_nonneg H.1 H.2.1,H.2.2.2.2⟩
def sidesF:EntryP
 | [.int .i64 w,.int .i64 h]=>some (True,.bool (decide (SidesOk w h)))
 | _=>none
def valF:EntryP
 | [.int .i64 n]=>some (True,.bool (decide (ValOk n)))
 | _=>none
def nvalF:EntryP
 | [.int .i64 n]=>some (True,.bool (decide (¬ ValOk n)))
 | _=>none
attribute [push_cast] sidesF valF nvalF
theorem p105:EntryPOk Tryz.prog 105 sidesF:=by
 refine⟨fk_ Tryz.func105,fun us p v h hp=>?_⟩
 unfold sidesF at h
 split at h<;>cases h
 refine tri_evS (hyp (l:=[]) (lp:=[]) trivial trivial) Tryz.func105 comp105 (rs:=[.tmp 4]) (by rfl) Tryz.ntmps105 10 ?_
 simp -implicitDefEqProofs only[push_cast,zz,seval,ir105,sidesF]
 refine⟨fun h=>?_,by simp only[SidesOk,and_assoc]⟩
 have:=mul_bd h.1 h.2.2.1 h.2.1 h.2.2.2
 omega
theorem p154:EntryPOk Tryz.prog 154 valF:=by
 refine⟨fk_ Tryz.func154,fun us p v h hp=>?_⟩
 unfold valF at h
 split at h<;>cases h
 refine tri_evS (hyp (l:=[]) (lp:=[]) trivial trivial) Tryz.func154 comp154 (rs:=[.tmp 2]) (by rfl) Tryz.ntmps154 10 ?_
 simp -implicitDefEqProofs only[push_cast,zz,seval,ir154,valF]
 rfl
theorem p153:EntryPOk Tryz.prog 153 nvalF:=by
 refine⟨fk_ Tryz.func153,fun us p v h hp=>?_⟩
 unfold nvalF at h
 split at h<;>cases h
 refine tri_evS (hyp (l:=[]) (lp:=[(154,valF)]) trivial ⟨p154,trivial⟩) Tryz.func153 comp153 (rs:=[.tmp 2]) (by rfl) Tryz.ntmps153 10 ?_
 simp -implicitDefEqProofs only[push_cast,zz,seval,ir153,nvalF]
def b194_1:IR:=
 .seq (r_ [b_ 9 .lss 8 7] []) (.seq (.cond (.t 9) (.skip) (.exit 0)) (.seq (.block 1 (.seq (r_ [m_ 10 8,m_ 5 10] [9,10]) (.seq (r_ [m_ 11 1,m_ 12 0,m_ 13 5,i_ 14 12 13 1,L_ 15 14,o_ 16 (.callv (some 4) 10 (.t 11) [.t 15])] [11,12,13,14,15]) (.cond (.t 16) (.seq (r_ [m_ 17 5,m_ 4 17] [0,1,5,7,8,16,17]) (.ret)) (.skip))))) (r_ [a_ 18 8 1,m_ 8 18] [4,5,16,18])))
def r194_2:IR:=
 .seq (r_ [z_ 4 (-1)] [0,1,7,8]) (.ret)
def ir194:IR:=
 .seq (r_ [z_ 4 0] [4]) (.seq (.seq (r_ [m_ 6 0,h_ 7 6,z_ 8 0] [6]) (.block 0 (.loop b194_1))) (r194_2))
def kp194_1:List Nat:=[0,1,7,8]
def kl194_1:List Nat:=[10,11,12,13]
attribute [push_cast] kp194_1 kl194_1
set_option maxRecDepth 4000 in
theorem comp194:(Tryz.f194.body.bind fun c=>compC tab isP chkAll ir194 c)=some ir194:=by kernel_rfl
def ir147:IR:=
 .seq (r_ [o_ 4 (.mov (.k (.bool false)))] [4]) (.seq (r_ [m_ 5 0,m_ 6 1,o_ 7 (.call (some 4) 10 194 [.t 5,.t 6]),c_ 8 .geq 7 0,m_ 4 8] [0,1,5,6,7,8]) (.ret))
set_option maxRecDepth 4000 in
theorem comp147:(Tryz.f147.body.bind fun c=>compC tab isP chkAll ir147 c)=some ir147:=by kernel_rfl
def ir106:IR:=
 .seq (r_ [o_ 4 (.mov (.k (.bool false)))] [4]) (.seq (r_ [m_ 5 0,h_ 6 5,m_ 7 1,b_ 8 .eql 6 7,m_ 9 8,p_ 9 (m_ 10 0),p_ 9 (o_ 11 (.call (some 4) 10 147 [.t 10,.k (.fn 153 [])])),p_ 9 (o_ 12 (.not (.t 11))),K_ 13 9 12,m_ 4 13] [0,1,5,6,7,8,9,10,11,12,13]) (.ret))
set_option maxRecDepth 4000 in
theorem comp106:(Tryz.f106.body.bind fun c=>compC tab isP chkAll ir106 c)=some ir106:=by kernel_rfl
def ir49:IR:=
 .seq (r_ [o_ 1 (.box 10 (.t 0)),o_ 2 (.mov (.k (.bool false)))] [0,2]) (.seq (r_ [f_ 4 1 0,l_ 5 4,f_ 6 1 1,l_ 7 6,o_ 8 (.bin 1 .mul (.t 5) (.t 7)),m_ 3 8] [4,5,6,7,8]) (.seq (r_ [f_ 9 1 0,l_ 10 9,f_ 11 1 1,l_ 12 11,o_ 13 (.callp 105 [.t 10,.t 12]),m_ 14 13,p_ 14 (f_ 15 1 2),p_ 14 (l_ 16 15),p_ 14 (m_ 17 3),p_ 14 (o_ 18 (.call (some 4) 11 106 [.t 16,.t 17])),K_ 19 14 18,m_ 20 19,p_ 20 (f_ 21 1 3),p_ 20 (l_ 22 21),p_ 20 (m_ 23 3),p_ 20 (o_ 24 (.call (some 4) 15 106 [.t 22,.t 23])),K_ 25 20 24,m_ 26 25,p_ 26 (f_ 27 1 4),p_ 26 (l_ 28 27),p_ 26 (m_ 29 3),p_ 26 (o_ 30 (.call (some 4) 19 106 [.t 28,.t 29])),K_ 31 26 30,m_ 2 31] [1,3,9,10,11,12,13,14,15,16,17,18,19,20,21,22,23,24,25,26,27,28,29,30,31]) (.ret)))
set_option maxRecDepth 4000 in
theorem comp49:(Tryz.f49.body.bind fun c=>compC tab isP chkAll ir49 c)=some ir49:=by kernel_rfl
structure RowA where
 L:Xf.Loc
 xs:List Int
def rowM (a:RowA):Mem:=[some (.ro,a.L,.ints .i64 a.xs)]
attribute [push_cast] rowM
def firstBad (xs:List Int):Int:=if (xs.findIdx fun n=>decide (¬ ValOk n))<xs.length then (xs.findIdx fun n=>decide (¬ ValOk n))else -1
theorem firstBad_at {xs:List Int} {i:Nat} (h:i<xs.length) (hb:¬ ValOk (rd xs i)) (hj:∀ j,j<i->ValOk (rd xs (j:Nat))):firstBad xs=i:=by
 have:(xs.findIdx fun n=>decide (¬ ValOk n))=i:=by
  rw[List.findIdx_eq h]
  refine⟨by rw[rd_lt xs i h]at hb;simpa using hb,fun j hji=>?_⟩
  have:=hj j hji
  rw[rd_lt xs j (by omega)]at this
  simpa using this
 unfold firstBad
 rw[this,if_pos h]
theorem firstBad_no {xs:List Int} (hj:∀ j,j<xs.length->ValOk (rd xs (j:Nat))):firstBad xs=-1:=by
 unfold firstBad
 rw[if_neg]
 intro h
 have:=List.findIdx_getElem (w:=h)
 have h2:=hj _ h
 rw[rd_lt xs _ h]at h2
 simp only[decide_eq_true_eq]at this
 exact this h2
def AllVal (xs:List Int):Prop:=∀ n∈xs,ValOk n
instance (xs:List Int):Decidable (AllVal xs):=by unfold AllVal;infer_instance
theorem firstBad_iff (xs:List Int):0<=firstBad xs↔¬ AllVal xs:=by
 unfold firstBad AllVal
 have h:=List.findIdx_lt_length (xs:=xs) (p:=fun n=>decide (¬ ValOk n))
 by_cases hh:(xs.findIdx fun n=>decide (¬ ValOk n))<xs.length
 ·rw[if_pos hh]
  obtain⟨x,hx,hb⟩:=h.1 hh
  constructor
  ·intro _ H;simp[H x hx]at hb
  ·intro _;omega
 ·rw[if_neg hh]
  constructor
  ·intro h;omega
  ·intro H
   exfalso
   apply hh
   apply h.2
   simp only[Classical.not_forall]at H
   obtain⟨x,hx,hb⟩:=H
   exact⟨x,hx,by simpa using hb⟩
def fs194:FS where
 A:=RowA
 args:=fun a=>[.sl 0 a.L 1 0 a.xs.length,.fn 153 []]
 mem:=rowM
 pre:=fun a=>a.xs.length<=140737488355328
 res:=fun a _=>.int .i64 (firstBad a.xs)
def inv194:List SV->Look->Option (RowA×List Nat)
 | [.sl c _ 1 0 _,.fn 153 []],look=>match rowI (look c)with
  | some (L,.i64,xs)=>some (⟨L,xs⟩,[c])
  | _=>none
 | _,_=>none
attribute [push_cast] inv194
def I194 (L:Xf.Loc) (xs:List Int) (i:Nat):List Ent×Mem:=([some (true,.sl 0 L 1 0 xs.length),some (true,.fn 153 []),none,none,none,none,none,some (true,.int .i64 xs.length),some (true,.int .i64 i),none,none,none,none,none,none,none,none,none,none],
  [some (.ro,L,.ints .i64 xs),none,none,none,none,none,none,none,none,none,none,none,none,none])
def lp194 (L:Xf.Loc) (xs:List Int):LoopS where
 A:=Nat
 I:=I194 L xs
 R:=fun i=>i<=xs.length/\∀ j,j<i->ValOk (rd xs (j:Nat))
 mu:=fun i=>xs.length-i
theorem ok194:FSOk Tryz.prog 194 fs194:=by
 refine hd_ (fk_ Tryz.func194) fun a hp=>?_
 obtain⟨L,xs⟩:=a
 change xs.length<=140737488355328 at hp
 change Tri Tryz.prog 194 [.sl 0 L 1 0 xs.length,.fn 153 []] [some (.ro,L,.ints .i64 xs)] (postF fs194 ⟨L,xs⟩)
 refine tri_evS (hyp (l:=[(153,liftP nvalF)]) (lp:=[]) ⟨p153.lift,trivial⟩ trivial) Tryz.func194 comp194 (rs:=[.tmp 4]) (by rfl) Tryz.ntmps194 13 ?_
 simp -implicitDefEqProofs only[push_cast,zz,seval,ir194]
 refine evS_loop _ _ _ (lp194 L xs) (0:Nat) ⟨by omega,by omega⟩ (Sub.refl _ _) ?_
 intro (i:Nat) hi
 change evS _ _ _ _ (I194 L xs i).1 (I194 L xs i).2
 obtain⟨h1,h2⟩:i<=xs.length/\∀ j,j<i->ValOk (rd xs (j:Nat)):=hi
 simp -implicitDefEqProofs only[push_cast,zz,seval,I194,b194_1,r194_2]
 refine⟨fun h=>⟨by omega,h,by omega,h,fun hb=>?_,fun hb=>⟨by omega,by omega,?_⟩⟩,fun h=>?_⟩
 ·have e:=firstBad_at (by omega) hb h2
  exact postF.mk' (fun _=>default) [some 0] (by simp -implicitDefEqProofs only[push_cast,zz,seval,fs194,e])
 ·refine lpK_mk (i+1:Nat) ⟨by omega,?_⟩ (show xs.length-(i+1)<xs.length-i by omega) (Sub.refl _ _)
  intro j hj
  by_cases e:j=i
  ·subst e;exact hb
  ·exact h2 j (by omega)
 ·have e:=firstBad_no (xs:=xs) (fun j hj=>h2 j (by omega))
  exact postF.mk' (fun _=>default) [some 0] (by simp -implicitDefEqProofs only[push_cast,zz,seval,fs194,e])
def ent194:Entry:=spOf fs194 inv194
theorem e194:EntryOk Tryz.prog 194 ent194:=entry_of ok194 inv194
@[push_cast] theorem ent194_app (us:List SV) (look:Look) (x:Nat->Xf.Loc) (k:Nat):ent194 us look x k=spOf fs194 inv194 us look x k:=rfl
def fs147:FS:={ fs194 with res:=fun a _=>.bool (decide (¬ AllVal a.xs)) }
theorem ok147:FSOk Tryz.prog 147 fs147:=by
 refine hd_ (fk_ Tryz.func147) fun a hp=>?_
 obtain⟨L,xs⟩:=a
 change xs.length<=140737488355328 at hp
 change Tri Tryz.prog 147 [.sl 0 L 1 0 xs.length,.fn 153 []] [some (.ro,L,.ints .i64 xs)] (postF fs147 ⟨L,xs⟩)
 refine tri_evS (hyp (l:=[(194,ent194)]) (lp:=[]) ⟨e194,trivial⟩ trivial) Tryz.func147 comp147 (rs:=[.tmp 4]) (by rfl) Tryz.ntmps147 13 ?_
 simp -implicitDefEqProofs only[push_cast,zz,seval,ir147,fs194]
 exact⟨hp,postF.mk' (fun _=>default) [some 0] (by simp -implicitDefEqProofs only[push_cast,zz,seval,fs147,fs194,firstBad_iff])⟩
def ent147:Entry:=spOf fs147 inv194
theorem e147:EntryOk Tryz.prog 147 ent147:=entry_of ok147 inv194
@[push_cast] theorem ent147_app (us:List SV) (look:Look) (x:Nat->Xf.Loc) (k:Nat):ent147 us look x k=spOf fs147 inv194 us look x k:=rfl
structure RowN where
 L:Xf.Loc
 xs:List Int
 n:Int
def fs106:FS where
 A:=RowN
 args:=fun a=>[.sl 0 a.L 1 0 a.xs.length,.int .i64 a.n]
 mem:=fun a=>[some (.ro,a.L,.ints .i64 a.xs)]
 pre:=fun a=>a.xs.length<=140737488355328
 res:=fun a _=>.bool (decide (a.xs.length=a.n/\AllVal a.xs))
def inv106:List SV->Look->Option (RowN×List Nat)
 | [.sl c _ 1 0 _,.int .i64 n],look=>match rowI (look c)with
  | some (L,.i64,xs)=>some (⟨L,xs,n⟩,[c])
  | _=>none
 | _,_=>none
attribute [push_cast] inv106
theorem ok106:FSOk Tryz.prog 106 fs106:=by
 refine hd_ (fk_ Tryz.func106) fun a hp=>?_
 obtain⟨L,xs,n⟩:=a
 change xs.length<=140737488355328 at hp
 change Tri Tryz.prog 106 [.sl 0 L 1 0 xs.length,.int .i64 n] [some (.ro,L,.ints .i64 xs)] (postF fs106 ⟨L,xs,n⟩)
 refine tri_evS (hyp (l:=[(147,ent147)]) (lp:=[]) ⟨e147,trivial⟩ trivial) Tryz.func106 comp106 (rs:=[.tmp 4]) (by rfl) Tryz.ntmps106 14 ?_
 simp -implicitDefEqProofs only[push_cast,zz,seval,ir106,fs147,fs194,hp]
 exact postF.mk' (fun _=>default) [some 0] (by simp -implicitDefEqProofs only[push_cast,zz,seval,fs106])
def ent106:Entry:=spOf fs106 inv106
theorem e106:EntryOk Tryz.prog 106 ent106:=entry_of ok106 inv106
@[push_cast] theorem ent106_app (us:List SV) (look:Look) (x:Nat->Xf.Loc) (k:Nat):ent106 us look x k=spOf fs106 inv106 us look x k:=rfl
structure Im where
 w:Int
 h:Int
 R:List Int
 G:List Int
 B:List Int
structure ImA where
 i:Im
 L1:Xf.Loc
 L2:Xf.Loc
 L3:Xf.Loc
def imV (i:Im) (L1 L2 L3:Xf.Loc) (c:Nat):SV:=.agg [.int .i64 i.w,.int .i64 i.h,.sl c L1 1 0 i.R.length,.sl (c+1) L2 1 0 i.G.length,.sl (c+2) L3 1 0 i.B.length]
def imM (i:Im) (L1 L2 L3:Xf.Loc):Mem:=[some (.ro,L1,.ints .i64 i.R),some (.ro,L2,.ints .i64 i.G),some (.ro,L3,.ints .i64 i.B)]
def Im.small (i:Im):Prop:=i.R.length<=140737488355328/\i.G.length<=140737488355328/\i.B.length<=140737488355328
def Im.Ok (i:Im):Prop:=SidesOk i.w i.h/\(i.R.length=i.w*i.h/\AllVal i.R)/\(i.G.length=i.w*i.h/\AllVal i.G)/\(i.B.length=i.w*i.h/\AllVal i.B)
instance (i:Im):Decidable i.Ok:=by unfold Im.Ok;infer_instance
def fs49:FS where
 A:=ImA
 args:=fun a=>[imV a.i a.L1 a.L2 a.L3 0]
 mem:=fun a=>imM a.i a.L1 a.L2 a.L3
 pre:=fun a=>a.i.small
 res:=fun a _=>.bool (decide a.i.Ok)
def getI (look:Look):SV->Option (ImA×List Nat)
 | .agg [.int .i64 w,.int .i64 h,.sl c1 _ 1 0 _,.sl c2 _ 1 0 _,.sl c3 _ 1 0 _]=>match rowI (look c1),rowI (look c2),rowI (look c3)with
  | some (L1,.i64,R),some (L2,.i64,G),some (L3,.i64,B)=>some (⟨⟨w,h,R,G,B⟩,L1,L2,L3⟩,[c1,c2,c3])
  | _,_,_=>none
 | _=>none
def inv49:List SV->Look->Option (ImA×List Nat)
 | [v],look=>getI look v
 | _,_=>none
attribute [push_cast] inv49 getI imV imM
theorem ok49:FSOk Tryz.prog 49 fs49:=by
 refine hd_ (fk_ Tryz.func49) fun a hp=>?_
 obtain⟨⟨w,h,R,G,B⟩,L1,L2,L3⟩:=a
 obtain⟨h1,h2,h3⟩:R.length<=140737488355328/\G.length<=140737488355328/\B.length<=140737488355328:=hp
 change Tri Tryz.prog 49 [imV ⟨w,h,R,G,B⟩ L1 L2 L3 0] (imM ⟨w,h,R,G,B⟩ L1 L2 L3) (postF fs49 ⟨⟨w,h,R,G,B⟩,L1,L2,L3⟩)
 refine tri_evS (hyp (l:=[(106,ent106)]) (lp:=[(105,sidesF)]) ⟨e106,trivial⟩ ⟨p105,trivial⟩) Tryz.func49 comp49 (rs:=[.tmp 2]) (by rfl) Tryz.ntmps49 30 ?_
 simp -implicitDefEqProofs only[push_cast,zz,seval,ir49,fs106,h1,h2,h3]
 intro X
 refine⟨fun h=>?_,fun h=>?_,postF.mk' (fun _=>default) [some 0,some 1,some 2] ?_⟩
 ·obtain⟨a,b,c⟩:=h;exact⟨a,b,c,a,b,c⟩
 ·obtain⟨a,b,c,d,e⟩:=h;exact⟨a,b,c,d,e,a,b,c,d,e⟩
 ·have e:(SidesOk w h/\R.length=IntKind.i64.wrap (w*h)/\AllVal R/\G.length=IntKind.i64.wrap (w*h)/\AllVal G/\B.length=IntKind.i64.wrap (w*h)/\AllVal B)↔(⟨w,h,R,G,B⟩:Im).Ok:=by
   unfold Im.Ok
   by_cases hs:SidesOk w h
   ·have:=hs.bd
    rw[inR_wrap (k:=.i64) ⟨by omega,by omega⟩]
    simp only[and_assoc]
   ·simp only[hs,false_and]
  simp -implicitDefEqProofs only[push_cast,zz,seval,fs49,e]
def ent49:Entry:=spOf fs49 inv49
theorem e49:EntryOk Tryz.prog 49 ent49:=entry_of ok49 inv49
@[push_cast] theorem ent49_app (us:List SV) (look:Look) (x:Nat->Xf.Loc) (k:Nat):ent49 us look x k=spOf fs49 inv49 us look x k:=rfl
def ir102:IR:=
 .seq (r_ [o_ 4 (.alloc 10 [y_,y_,nilSV,nilSV,nilSV])] []) (.seq (r_ [m_ 6 0,m_ 7 1,b_ 8 .mul 6 7,m_ 5 8] [6,7,8]) (.seq (R_ [m_ 9 0,m_ 10 1,m_ 11 5,o_ 12 (.mks 11 (.int .i64 0) 8 (.t 11) (.t 11)),m_ 13 5,o_ 14 (.mks 12 (.int .i64 0) 8 (.t 13) (.t 13)),m_ 15 5,o_ 16 (.mks 13 (.int .i64 0) 8 (.t 15) (.t 15)),o_ 17 (.build [y_,y_,nilSV,nilSV,nilSV] [(0,1,.t 9),(1,1,.t 10),(2,1,.t 12),(3,1,.t 14),(4,1,.t 16)]),s_ 5 .i64 4 17] [0,1,5,9,10,11,12,13,14,15,16,17]) (.ret)))
set_option maxRecDepth 4000 in
theorem comp102:(Tryz.f102.body.bind fun c=>compC tab isP chkAll ir102 c)=some ir102:=by kernel_rfl
def ir103:IR:=
 R_ [m_ 10 0,n_ 11 10,f_ 12 11 2,l_ 13 12,m_ 14 1,m_ 15 0,n_ 16 15,f_ 17 16 3,l_ 18 17,m_ 19 1,m_ 20 0,n_ 21 20,f_ 22 21 4,l_ 23 22,m_ 24 1,m_ 25 2,m_ 26 3,m_ 27 4,i_ 28 13 14 1,S_ 1 .i64 28 25,i_ 29 18 19 1,S_ 1 .i64 29 26,i_ 30 23 24 1,S_ 1 .i64 30 27] [0,1,2,3,4,10,11,12,13,14,15,16,17,18,19,20,21,22,23,24,25,26,27,28,29,30]
set_option maxRecDepth 4000 in
theorem comp103:(Tryz.f103.body.bind fun c=>compC tab isP chkAll ir103 c)=some ir103:=by kernel_rfl
def b135_1:IR:=
 .seq (r_ [b_ 41 .lss 40 39] []) (.seq (.cond (.t 41) (.skip) (.exit 0)) (.seq (.block 1 (.seq (r_ [m_ 42 40,m_ 13 42] [41,42]) (r_ [m_ 43 13,m_ 44 2,m_ 45 3,m_ 46 4,o_ 47 (.call none 16 103 [.t 12,.t 43,.t 44,.t 45,.t 46])] [13,43,44,45,46,47]))) (r_ [a_ 48 40 1,m_ 40 48] [48])))
def r135_2:IR:=
 .seq (r_ [o_ 49 (.ld false (some 5) 0 0 (.t 12)),s_ 5 .i64 10 49,z_ 11 0] [2,3,4,12,39,40,49]) (.ret)
def ir135:IR:=
 .seq (r_ [o_ 10 (.alloc 10 [y_,y_,nilSV,nilSV,nilSV]),z_ 11 0] [11]) (.seq (.seq (r_ [m_ 14 0,m_ 15 1,o_ 16 (.callp 105 [.t 14,.t 15]),o_ 17 (.not (.t 16)),m_ 18 17,q_ 18 (m_ 19 2),q_ 18 (o_ 20 (.callp 154 [.t 19])),q_ 18 (o_ 21 (.not (.t 20))),k_ 22 18 21,m_ 23 22,q_ 23 (m_ 24 3),q_ 23 (o_ 25 (.callp 154 [.t 24])),q_ 23 (o_ 26 (.not (.t 25))),k_ 27 23 26,m_ 28 27,q_ 28 (m_ 29 4),q_ 28 (o_ 30 (.callp 154 [.t 29])),q_ 28 (o_ 31 (.not (.t 30))),k_ 32 28 31] [14,15,16,17,18,19,20,21,22,23,24,25,26,27,28,29,30,31]) (.cond (.t 32) (.seq (r_ [o_ 33 (.build [y_,y_,nilSV,nilSV,nilSV] []),s_ 5 .i64 10 33,z_ 11 2] [0,1,2,3,4,32,33]) (.ret)) (.skip))) (.seq (r_ [m_ 34 0,m_ 35 1,o_ 36 (.call (some 4) 11 102 [.t 34,.t 35]),o_ 12 (.alloc 15 [y_,y_,nilSV,nilSV,nilSV]),s_ 5 .i64 12 36] [11,32,34,35,36]) (.seq (.seq (r_ [m_ 37 0,m_ 38 1,b_ 39 .mul 37 38,z_ 40 0] [0,1,37,38]) (.block 0 (.loop b135_1))) (r135_2))))
set_option maxRecDepth 4000 in
theorem comp135:(Tryz.f135.body.bind fun c=>compC tab isP chkAll ir135 c)=some ir135:=by kernel_rfl
structure WH where
 w:Int
 h:Int
def zs (n:Int):List Int:=List.replicate n.toNat 0
def fs102:FS where
 A:=WH
 args:=fun a=>[.int .i64 a.w,.int .i64 a.h]
 pre:=fun a=>SidesOk a.w a.h
 res:=fun a x=>.agg [.int .i64 a.w,.int .i64 a.h,.sl 0 (x 0) 1 0 (a.w*a.h),.sl 1 (x 1) 1 0 (a.w*a.h),.sl 2 (x 2) 1 0 (a.w*a.h)]
 new:=fun a x=>[(x 0,.ints .i64 (zs (a.w*a.h))),(x 1,.ints .i64 (zs (a.w*a.h))),(x 2,.ints .i64 (zs (a.w*a.h)))]
def inv102:List SV->Look->Option (WH×List Nat)
 | [.int .i64 w,.int .i64 h],_=>some (⟨w,h⟩,[])
 | _,_=>none
attribute [push_cast] inv102
theorem ok102:FSOk Tryz.prog 102 fs102:=by
 refine hd_ (fk_ Tryz.func102) fun a hp=>?_
 obtain⟨w,h⟩:=a
 change SidesOk w h at hp
 change Tri Tryz.prog 102 [.int .i64 w,.int .i64 h] [] (postF fs102 ⟨w,h⟩)
 refine tri_evS (hyp (l:=[]) (lp:=[]) trivial trivial) Tryz.func102 comp102 (rs:=[.cell 4 (some 5)]) (by rfl) Tryz.ntmps102 14 ?_
 simp -implicitDefEqProofs only[push_cast,zz,seval,ir102]
 intro X
 have hm:=hp.bd
 refine⟨by omega,by omega,fun X1=>⟨by omega,by omega,by omega,by omega,by omega,by omega,by omega,by omega,by omega,postF.mk' (locs [X1 3 11,X1 5 12,X1 7 13]) [some 11,some 12,some 13] ?_⟩⟩
 simp -implicitDefEqProofs only[push_cast,zz,seval,fs102,zs]
def ent102:Entry:=spOf fs102 inv102
theorem e102:EntryOk Tryz.prog 102 ent102:=entry_of ok102 inv102
@[push_cast] theorem ent102_app (us:List SV) (look:Look) (x:Nat->Xf.Loc) (k:Nat):ent102 us look x k=spOf fs102 inv102 us look x k:=rfl
structure SetA where
 i:Im
 L:Xf.Loc
 L1:Xf.Loc
 L2:Xf.Loc
 L3:Xf.Loc
 k:Int
 r:Int
 g:Int
 b:Int
 n1:Int
 n2:Int
 n3:Int
def fs103:FS where
 A:=SetA
 args:=fun a=>[.ptr 0 a.L 0 0 0,.int .i64 a.k,.int .i64 a.r,.int .i64 a.g,.int .i64 a.b]
 mem:=fun a=>[some (.ro,a.L,.cells [.int .i64 a.i.w,.int .i64 a.i.h,.sl 1 a.L1 1 0 a.n1,.sl 2 a.L2 1 0 a.n2,.sl 3 a.L3 1 0 a.n3]),some (.lent,a.L1,.ints .i64 a.i.R),some (.lent,a.L2,.ints .i64 a.i.G),some (.lent,a.L3,.ints .i64 a.i.B)]
 pre:=fun a=>0<=a.k/\a.k<a.i.R.length/\a.k<a.i.G.length/\a.k<a.i.B.length/\a.n1=a.i.R.length/\a.n2=a.i.G.length/\a.n3=a.i.B.length
 res:=fun a x=>.tup []
 out:=fun a _=>[none,some (some (.ints .i64 (a.i.R.set a.k.toNat a.r))),some (some (.ints .i64 (a.i.G.set a.k.toNat a.g))),some (some (.ints .i64 (a.i.B.set a.k.toNat a.b)))]
def inv103:List SV->Look->Option (SetA×List Nat)
 | [.ptr c _ _ _ _,.int .i64 k,.int .i64 r,.int .i64 g,.int .i64 b],look=>match rowC (look c)with
  | some (L,[.int .i64 w,.int .i64 h,.sl c1 _ 1 0 n1,.sl c2 _ 1 0 n2,.sl c3 _ 1 0 n3])=>match rowI (look c1),rowI (look c2),rowI (look c3)with
   | some (L1,.i64,R),some (L2,.i64,G),some (L3,.i64,B)=>some (⟨⟨w,h,R,G,B⟩,L,L1,L2,L3,k,r,g,b,n1,n2,n3⟩,[c,c1,c2,c3])
   | _,_,_=>none
  | _=>none
 | _,_=>none
attribute [push_cast] inv103
theorem ok103:FSOk Tryz.prog 103 fs103:=by
 refine hd_ (fk_ Tryz.func103) fun a hp=>?_
 obtain⟨⟨w,h,R,G,B⟩,L,L1,L2,L3,k,r,g,b,n1,n2,n3⟩:=a
 obtain⟨h1,h2,h3,h4,rfl,rfl,rfl⟩:0<=k/\k<R.length/\k<G.length/\k<B.length/\n1=R.length/\n2=G.length/\n3=B.length:=hp
 change Tri Tryz.prog 103 [.ptr 0 L 0 0 0,.int .i64 k,.int .i64 r,.int .i64 g,.int .i64 b] [some (.ro,L,.cells [.int .i64 w,.int .i64 h,.sl 1 L1 1 0 R.length,.sl 2 L2 1 0 G.length,.sl 3 L3 1 0 B.length]),some (.lent,L1,.ints .i64 R),some (.lent,L2,.ints .i64 G),some (.lent,L3,.ints .i64 B)] (postF fs103 ⟨⟨w,h,R,G,B⟩,L,L1,L2,L3,k,r,g,b,R.length,G.length,B.length⟩)
 refine tri_evS (hyp (l:=[]) (lp:=[]) trivial trivial) Tryz.func103 comp103 (rs:=[]) (by rfl) Tryz.ntmps103 14 ?_
 simp -implicitDefEqProofs only[push_cast,zz,seval,ir103,h1,h2,h3,h4]
 exact postF.mk' (fun _=>default) [some 0,some 1,some 2,some 3] (by simp -implicitDefEqProofs only[push_cast,zz,seval,fs103])
def ent103:Entry:=spOf fs103 inv103
theorem e103:EntryOk Tryz.prog 103 ent103:=entry_of ok103 inv103
@[push_cast] theorem ent103_app (us:List SV) (look:Look) (x:Nat->Xf.Loc) (k:Nat):ent103 us look x k=spOf fs103 inv103 us look x k:=rfl
structure NewA where
 w:Int
 h:Int
 r:Int
 g:Int
 b:Int
def NewA.Ok (a:NewA):Prop:=SidesOk a.w a.h/\ValOk a.r/\ValOk a.g/\ValOk a.b
instance (a:NewA):Decidable a.Ok:=by unfold NewA.Ok;infer_instance
def im0:Im:=⟨0,0,[],[],[]⟩
def cst (n:Int) (x:Int):List Int:=List.replicate n.toNat x
def newI (a:NewA):Im:=if a.Ok then ⟨a.w,a.h,cst (a.w*a.h) a.r,cst (a.w*a.h) a.g,cst (a.w*a.h) a.b⟩else im0
def imN (i:Im) (x:Nat->Xf.Loc):List (Xf.Loc×Chunk):=[(x 0,.ints .i64 i.R),(x 1,.ints .i64 i.G),(x 2,.ints .i64 i.B)]
def lx (p:Prop) [Decidable p] (x:Nat->Xf.Loc) (k:Nat):Xf.Loc:=if p then x k else nilLoc
def fs135:FS where
 A:=NewA
 args:=fun a=>[.int .i64 a.w,.int .i64 a.h,.int .i64 a.r,.int .i64 a.g,.int .i64 a.b]
 res:=fun a x=>.tup [imV (newI a) (lx a.Ok x 0) (lx a.Ok x 1) (lx a.Ok x 2) 0,.int .i64 (if a.Ok then 0 else 2)]
 new:=fun a x=>imN (newI a) (lx a.Ok x)
def inv135:List SV->Look->Option (NewA×List Nat)
 | [.int .i64 w,.int .i64 h,.int .i64 r,.int .i64 g,.int .i64 b],_=>some (⟨w,h,r,g,b⟩,[])
 | _,_=>none
attribute [push_cast] inv135 imN
def I135 (w h r g b:Int) (L0 L1 L2 L3 L5:Xf.Loc) (i:Nat):List Ent×Mem:=
 (mkS 50 [(2,.int .i64 r),(3,.int .i64 g),(4,.int .i64 b),(10,.ptr 10 L0 0 0 0),(12,.ptr 15 L5 0 0 0),(39,.int .i64 (w*h)),(40,.int .i64 i)],
  mkM 30 [(10,.mine,L0,.cells [.int .i64 0,.int .i64 0,nilSV,nilSV,nilSV]),(11,.mine,L1,.ints .i64 (fillTo (w*h).toNat i r 0)),(12,.mine,L2,.ints .i64 (fillTo (w*h).toNat i g 0)),
   (13,.mine,L3,.ints .i64 (fillTo (w*h).toNat i b 0)),(15,.mine,L5,.cells [.int .i64 w,.int .i64 h,.sl 11 L1 1 0 (w*h),.sl 12 L2 1 0 (w*h),.sl 13 L3 1 0 (w*h)])])
def lp135 (w h r g b:Int) (L0 L1 L2 L3 L5:Xf.Loc):LoopS where
 A:=Nat
 I:=I135 w h r g b L0 L1 L2 L3 L5
 R:=fun i=>i<=(w*h).toNat
 mu:=fun i=>(w*h).toNat-i
theorem ok135:FSOk Tryz.prog 135 fs135:=by
 refine hd_ (fk_ Tryz.func135) fun a hp=>?_
 obtain⟨w,h,r,g,b⟩:=a
 change Tri Tryz.prog 135 [.int .i64 w,.int .i64 h,.int .i64 r,.int .i64 g,.int .i64 b] [] (postF fs135 ⟨w,h,r,g,b⟩)
 refine tri_evS (hyp (l:=[(102,ent102),(103,ent103)]) (lp:=[(105,sidesF),(154,valF)]) ⟨e102,e103,trivial⟩ ⟨p105,p154,trivial⟩) Tryz.func135 comp135 (rs:=[.cell 10 (some 5),.tmp 11]) (by rfl) Tryz.ntmps135 30 ?_
 simp -implicitDefEqProofs only[push_cast,zz,seval,ir135,fs102]
 intro X
 refine⟨fun hn=>?_,fun hy X1=>?_⟩
 ·have e:¬ (⟨w,h,r,g,b⟩:NewA).Ok:=by unfold NewA.Ok;simp only;intro ⟨h1,h2,h3,h4⟩;simp[h1,h2,h3,h4]at hn
  refine postF.mk' (fun _=>default) [none,none,none] ?_
  simp -implicitDefEqProofs only[push_cast,zz,seval,fs135,newI,im0,lx,e,List.length_nil,Int.natCast_zero,if_false]
 ·simp only[not_or,Classical.not_not]at hy
  obtain⟨⟨⟨h1,h2⟩,h3⟩,h4⟩:=hy
  have e:(⟨w,h,r,g,b⟩:NewA).Ok:=⟨h1,h2,h3,h4⟩
  have hm:=h1.bd
  refine⟨h1,by omega,by omega,?_⟩
  refine evS_loop _ _ _ (lp135 w h r g b (X 0 10) (X1 2 11) (X1 2 12) (X1 2 13) (X1 3 15)) (0:Nat) (Nat.zero_le _) ?_ ?_
  ·change Sub _ _ (I135 w h r g b (X 0 10) (X1 2 11) (X1 2 12) (X1 2 13) (X1 3 15) 0).1 (I135 w h r g b (X 0 10) (X1 2 11) (X1 2 12) (X1 2 13) (X1 3 15) 0).2
   simp -implicitDefEqProofs only[push_cast,zz,seval,I135,fillTo_zero,zs]
   exact Sub.refl _ _
  ·intro (i:Nat) (hi:i<=(w*h).toNat)
   change evS _ _ _ _ (I135 w h r g b (X 0 10) (X1 2 11) (X1 2 12) (X1 2 13) (X1 3 15) i).1 (I135 w h r g b (X 0 10) (X1 2 11) (X1 2 12) (X1 2 13) (X1 3 15) i).2
   simp -implicitDefEqProofs only[push_cast,zz,seval,I135,b135_1,r135_2,fs103]
   refine⟨fun hl=>?_,fun hl=>?_⟩
   ·have hl':i<(w*h).toNat:=by omega
    simp only[fillTo_length hi]
    refine⟨by omega,by omega,by omega,by omega,by omega,by omega,by omega,by omega,by omega,lpK_mk (i+1:Nat) hl' (show(w*h).toNat-(i+1)<(w*h).toNat-i by omega) ?_⟩
    change Sub _ _ (I135 w h r g b (X 0 10) (X1 2 11) (X1 2 12) (X1 2 13) (X1 3 15) (i+1)).1 (I135 w h r g b (X 0 10) (X1 2 11) (X1 2 12) (X1 2 13) (X1 3 15) (i+1)).2
    simp -implicitDefEqProofs only[push_cast,zz,seval,I135,Int.toNat_natCast,fillTo_set hl']
    exact Sub.refl _ _
   ·obtain rfl:i=(w*h).toNat:=by omega
    refine postF.mk' (locs [X1 2 11,X1 2 12,X1 2 13]) [some 11,some 12,some 13] ?_
    simp -implicitDefEqProofs only[push_cast,zz,seval,fs135,newI,lx,e,cst,if_true,fillTo_all,List.length_replicate,Int.toNat_of_nonneg hm.1]
def ent135:Entry:=spOf fs135 inv135
theorem e135:EntryOk Tryz.prog 135 ent135:=entry_of ok135 inv135
@[push_cast] theorem ent135_app (us:List SV) (look:Look) (x:Nat->Xf.Loc) (k:Nat):ent135 us look x k=spOf fs135 inv135 us look x k:=rfl
def odR (d a b c r:Int):List Int:=(if r<a then [0]else [])++((if 0<=r-d/\r-d<b then [1]else [])++(if 0<=r-d/\r-d<c then [2]else []))
def odN (d a b c:Int):Nat->List Int
 | 0=>[]
 | n+1=>odN d a b c n++odR d a b c n
def odE (d a b c:Int) (r:Int):Prop:=¬ r<a/\¬ r-d<max b c
theorem odR_nil {d a b c r:Int} (h:odE d a b c r):odR d a b c r=[]:=by
 obtain⟨h1,h2⟩:=h
 unfold odR
 rw[if_neg h1,if_neg (by omega),if_neg (by omega)];rfl
theorem odN_end {d a b c:Int} {n:Nat} (h:odE d a b c n):∀ k,odN d a b c (n+k)=odN d a b c n
 | 0=>rfl
 | k+1=>by
  rw[<-Nat.add_assoc,odN,odN_end h k,odR_nil (by obtain⟨h1,h2⟩:=h;constructor<;>omega),List.append_nil]
theorem odN_len (d a b c:Int):∀ n,(odN d a b c n).length<=3*n
 | 0=>Nat.le_refl _
 | n+1=>by
  have:=odN_len d a b c n
  have h:(odR d a b c n).length<=3:=by unfold odR;split<;>split<;>split<;>decide
  rw[odN,List.length_append];omega
def ordP (d a b c:Int):List Int:=odN d a b c 51
theorem ord_end {d a b c:Int} {n:Nat} (h:odE d a b c n) (hn:n<=51):odN d a b c n=ordP d a b c:=by
 have:=odN_end h (51-n)
 rw[show n+(51-n)=51 by omega]at this
 exact this.symm
structure OdA where
 wv:Int
 lv:Int
 kd:Int
 gr:Bool
 hf:Bool
 d:Int
 a:Int
 b:Int
 c:Int
def invOd:List SV->Look->Option (OdA×List Nat)
 | [.agg [.int .i64 wv,.int .i64 lv,.int .i64 kd,.bool gr,.bool hf,.int .i64 d],.agg [.int .i64 a,.int .i64 b,.int .i64 c]],_=>some (⟨wv,lv,kd,gr,hf,d,a,b,c⟩,[])
 | _,_=>none
attribute [push_cast] invOd
def odOk (d a b c:Int):Prop:=0<=d/\d<=25/\0<=a/\a<=25/\0<=b/\b<=25/\0<=c/\c<=25
def fs64:FS where
 A:=OdA
 args:=fun a=>[.agg [.int .i64 a.wv,.int .i64 a.lv,.int .i64 a.kd,.bool a.gr,.bool a.hf,.int .i64 a.d],.agg [.int .i64 a.a,.int .i64 a.b,.int .i64 a.c]]
 pre:=fun a=>odOk a.d a.a a.b a.c
 res:=fun a x=>.sl 0 (x 0) 1 0 (ordP a.d a.a a.b a.c).length
 new:=fun a x=>[(x 0,.ints .i64 (ordP a.d a.a a.b a.c))]
def b55_2:IR:=
 .seq (.seq (r_ [m_ 34 7,c_ 35 .leq 34 2] [34]) (.cond (.t 35) (.skip) (.exit 2))) (.seq (.block 3 (.seq (r_ [m_ 38 6,f_ 39 2 5,l_ 40 39,b_ 41 .sub 38 40,m_ 8 41] [35,38,39,40,41]) (.seq (r_ [m_ 42 8,c_ 43 .geq 42 0,m_ 44 43,p_ 44 (m_ 45 8),p_ 44 (m_ 46 7),p_ 44 (o_ 47 (.idxP (.t 3) (.t 46) 3 1)),p_ 44 (l_ 48 47),p_ 44 (b_ 49 .lss 45 48),K_ 50 44 49] [8,42,43,44,45,46,47,48,49]) (.cond (.t 50) (r_ [m_ 51 5,m_ 52 7,o_ 53 (.bslice 14 [.t 52]),o_ 54 (.app 15 1 8 (.t 51) (.t 53)),m_ 5 54] [50,51,52,53,54]) (.skip))))) (r_ [m_ 36 7,a_ 37 36 1,m_ 7 37] [36,37,50]))
def r55_3:IR:=
 r_ [m_ 25 6,a_ 26 25 1,m_ 6 26] [7,25,26]
def b55_1:IR:=
 .seq (.seq (r_ [m_ 9 6,o_ 10 (.idxP (.t 3) (Z_ 0) 3 1),l_ 11 10,b_ 12 .lss 9 11,m_ 13 12,q_ 13 (m_ 14 6),q_ 13 (f_ 15 2 5),q_ 13 (l_ 16 15),q_ 13 (b_ 17 .sub 14 16),q_ 13 (o_ 18 (.idxP (.t 3) (Z_ 1) 3 1)),q_ 13 (l_ 19 18),q_ 13 (o_ 20 (.idxP (.t 3) (Z_ 2) 3 1)),q_ 13 (l_ 21 20),q_ 13 (o_ 22 (.mx (.t 19) (.t 21))),q_ 13 (b_ 23 .lss 17 22),k_ 24 13 23] [9,10,11,12,13,14,15,16,17,18,19,20,21,22,23]) (.cond (.t 24) (.skip) (.exit 0))) (.seq (.block 1 (.seq (.seq (r_ [m_ 27 6,o_ 28 (.idxP (.t 3) (Z_ 0) 3 1),l_ 29 28,b_ 30 .lss 27 29] [24,27,28,29]) (.cond (.t 30) (r_ [m_ 31 5,o_ 32 (.bslice 12 [Z_ 0]),o_ 33 (.app 13 1 8 (.t 31) (.t 32)),m_ 5 33] [30,31,32,33]) (.skip))) (.seq (r_ [z_ 7 1] [30]) (.block 2 (.loop b55_2))))) (r55_3))
def r55_4:IR:=
 .seq (r_ [m_ 55 5,m_ 4 55] [2,3,5,6,55]) (.ret)
def ir55:IR:=
 .seq (r_ [o_ 2 (.box 10 (.t 0)),o_ 3 (.box 11 (.t 1)),o_ 4 (.mov (.k nilSV))] [0,1,4]) (.seq (r_ [o_ 5 (.mov (.k nilSV))] []) (.seq (.seq (r_ [z_ 6 0] []) (.block 0 (.loop b55_1))) (r55_4)))
def kp55_2:List Nat:=[2,3,5,6,7]
def kl55_2:List Nat:=[14,15]
attribute [push_cast] kp55_2 kl55_2
def kp55_1:List Nat:=[2,3,5,6]
def kl55_1:List Nat:=[12,13,14,15]
attribute [push_cast] kp55_1 kl55_1
set_option maxRecDepth 4000 in
theorem comp55:(Tryz.f55.body.bind fun c=>compC tab isP chkAll ir55 c)=some ir55:=by kernel_rfl
def odI (d a b c r:Int):Nat->List Int
 | 0=>if r<a then [0]else []
 | 1=>(if r<a then [0]else [])++(if 0<=r-d/\r-d<b then [1]else [])
 | _=>((if r<a then [0]else [])++(if 0<=r-d/\r-d<b then [1]else []))++(if 0<=r-d/\r-d<c then [2]else [])
theorem odI_2 (d a b c r:Int):odI d a b c r 2=odR d a b c r:=List.append_assoc _ _ _
theorem ifl_len (P:Prop) [Decidable P] (x:Int):(if P then [x]else []).length<=1:=by split<;>simp
theorem odI_len (d a b c r:Int):∀ k,(odI d a b c r k).length<=3
 | 0=>Nat.le_trans (ifl_len _ _) (by decide)
 | 1=>by
  have h1:=ifl_len (r<a) 0
  have h2:=ifl_len (0<=r-d/\r-d<b) 1
  show List.length (_++_)<=3
  rw[List.length_append];omega
 | k+2=>by
  have h1:=ifl_len (r<a) 0
  have h2:=ifl_len (0<=r-d/\r-d<b) 1
  have h3:=ifl_len (0<=r-d/\r-d<c) 2
  show List.length ((_++_)++_)<=3
  rw[List.length_append,List.length_append];omega
theorem evS_subP {sp:Sp} {spP:SpP} {T:KT} {b:IR} {S:List Xf.Item} {sl sl0:List Ent} {m m0:Mem} (hs:Sub sl m sl0 m0) (h:evS sp spP T (.code (.loop b)::S) sl0 m0):evS sp spP T (.code (.loop b)::S) sl m:=by
 obtain⟨α,I,R,μ,⟨x,h0,hx⟩,h⟩:=h
 exact⟨α,I,R,μ,⟨x,h0,fun b1 w0 W a w hh=>hx b1 w0 W a w (hs b1 w0 W a w hh)⟩,h⟩
set_option maxHeartbeats 1000000 in
theorem ok55:FSOk Tryz.prog 55 fs64:=by
 refine hd_ (fk_ Tryz.func55) fun a hp=>?_
 obtain⟨wv,lv,kd,gr,hf,d,a,b,c⟩:=a
 obtain⟨d0,d1,a0,a1,b0,b1,c0,c1⟩:0<=d/\d<=25/\0<=a/\a<=25/\0<=b/\b<=25/\0<=c/\c<=25:=hp
 change Tri Tryz.prog 55 [.agg [.int .i64 wv,.int .i64 lv,.int .i64 kd,.bool gr,.bool hf,.int .i64 d],.agg [.int .i64 a,.int .i64 b,.int .i64 c]] [] (postF fs64 ⟨wv,lv,kd,gr,hf,d,a,b,c⟩)
 refine tri_evS (hyp (l:=[]) (lp:=[]) trivial trivial) Tryz.func55 comp55 (rs:=[.tmp 4]) (by rfl) Tryz.ntmps55 16 ?_
 simp -implicitDefEqProofs only[push_cast,zz,seval,ir55]
 intro X
 repeat refine om_ ?_
 have hll:∀ (l:List Int) (x:Int),((l++[x]).length:Int)=l.length+1:=fun l x=>by simp
 refine evS_loopU (A:=Nat×Xf.Loc) kp55_1 kl55_1 (fun y=>[(5,.sl 15 y.2 1 0 (odN d a b c y.1).length),(6,.int .i64 y.1)]) (fun y=>[(15,.mine,y.2,.ints .i64 (odN d a b c y.1))]) (fun y=>y.1<=51) (fun y=>51-y.1) (0,nilLoc) (Nat.zero_le _) (Sub.of (mkG 16 [(10,10),(11,11)]) ?_) ?_
 ·simp -implicitDefEqProofs only[push_cast,zz,seval,odN]
 intro ⟨r,M⟩ hr K hK
 have hr:r<=51:=hr
 have hlen:=odN_len d a b c r
 by_cases hs:odE d a b c r
 ·have h1:¬ (r:Int)<a:=hs.1
  have h2:¬ (r:Int)-d<max b c:=hs.2
  have h51:=ord_end hs hr
  clear hK
  obtain⟨l,hl⟩:∃ l,ordP d a b c=l:=⟨_,rfl⟩
  rw[hl]at h51
  simp -implicitDefEqProofs only[push_cast,zz,seval,b55_1,r55_4,h1,h2,h51]
  repeat refine om_ ?_
  refine postF.mk' (fun _=>M) [some 15] ?_
  simp -implicitDefEqProofs only[push_cast,zz,seval,fs64,hl]
 ·have hr':r<51:=by
   refine Nat.lt_of_not_le fun h=>hs ⟨by omega,by omega⟩
  have hg:¬ (r:Int)<a->(r:Int)-d<max b c:=fun h=>by
   by_cases g:(r:Int)-d<max b c
   ·exact g
   ·exact absurd ⟨h,g⟩ hs
  have hn:odN d a b c (r+1)=odN d a b c r++odI d a b c r 2:=by rw[odI_2];rfl
  have main:∀ M0:Xf.Loc,evS (spList []) (spPList []) (retK [RV.tmp 4] (postF fs64 ⟨wv,lv,kd,gr,hf,d,a,b,c⟩)) [Xf.Item.code (IR.loop b55_2),Xf.Item.blk 2,Xf.Item.blk 1,Xf.Item.code r55_3,Xf.Item.lp K,Xf.Item.blk 0,Xf.Item.code r55_4]
    (upS (List.replicate 56 none) [(2,.ptr 10 (X 0 10) 0 0 0),(3,.ptr 11 (X 1 11) 0 0 0),(5,.sl 15 M0 1 0 ((odN d a b c r++odI d a b c r 0).length:Nat)),(6,.int .i64 r),(7,.int .i64 1)])
    (List.replicate 10 none++[some (.mine,X 0 10,.cells [.int .i64 wv,.int .i64 lv,.int .i64 kd,.bool gr,.bool hf,.int .i64 d]),some (.mine,X 1 11,.cells [.int .i64 a,.int .i64 b,.int .i64 c]),none,none,none,some (.mine,M0,.ints .i64 (odN d a b c r++odI d a b c r 0))]):=by
   intro M0
   refine evS_loopU (A:=Nat×Xf.Loc) kp55_2 kl55_2 (fun y=>[(5,.sl 15 y.2 1 0 ((odN d a b c r++odI d a b c r y.1).length:Nat)),(7,.int .i64 (y.1+1))]) (fun y=>[(15,.mine,y.2,.ints .i64 (odN d a b c r++odI d a b c r y.1))]) (fun y=>y.1<=2) (fun y=>2-y.1) (0,M0) (Nat.zero_le _) (Sub.pt ?_) ?_
   ·simp -implicitDefEqProofs only[push_cast,zz,seval]
   intro ⟨k,M1⟩ hk K2 hK2
   have hk:k<=2:=hk
   have hl0:=odI_len d a b c r k
   have hlk:(odN d a b c r++odI d a b c r k).length<=160:=by rw[List.length_append];omega
   obtain rfl | rfl | rfl:k=0∨k=1∨k=2:=by omega
   rotate_left
   rotate_left
   ·clear hK2
    simp -implicitDefEqProofs only[push_cast,zz,seval,b55_2,r55_3]
    repeat refine om_ ?_
    refine hK (r+1,M1) (show r+1<=51 by omega) (show 51-(r+1)<51-r by omega) _ _ (Sub.pt ?_)
    simp -implicitDefEqProofs only[push_cast,zz,seval,hn]
   by_cases hd:0<=(r:Int)-d
   ·by_cases hb:(r:Int)-d<b
    ·have hk:odI d a b c r 1=odI d a b c r 0++[1]:=by show _++(if 0<=(r:Int)-d/\(r:Int)-d<b then [(1:Int)]else [])=_;rw[if_pos (show(0<=(r:Int)-d/\(r:Int)-d<b) by omega)];rfl
     simp -implicitDefEqProofs only[push_cast,zz,seval,b55_2,hd,hb,hll]
     repeat refine om_ ?_
     intro X2
     repeat refine om_ ?_
     refine hK2 (1,X2 3 15) (show 1<=2 by decide) (show 2-1<2-0 by decide) _ _ (Sub.pt ?_)
     simp -implicitDefEqProofs only[push_cast,zz,seval,hk,<-List.append_assoc,hll]
    ·have hk:odI d a b c r 1=odI d a b c r 0:=by show _++(if 0<=(r:Int)-d/\(r:Int)-d<b then [(1:Int)]else [])=_;rw[if_neg (show ¬ (0<=(r:Int)-d/\(r:Int)-d<b) by omega)];exact List.append_nil _
     simp -implicitDefEqProofs only[push_cast,zz,seval,b55_2,hd,hb,hll]
     repeat refine om_ ?_
     refine hK2 (1,M1) (show 1<=2 by decide) (show 2-1<2-0 by decide) _ _ (Sub.pt ?_)
     simp -implicitDefEqProofs only[push_cast,zz,seval,hk]
   ·have hk:odI d a b c r 1=odI d a b c r 0:=by show _++(if 0<=(r:Int)-d/\(r:Int)-d<b then [(1:Int)]else [])=_;rw[if_neg (show ¬ (0<=(r:Int)-d/\(r:Int)-d<b) by omega)];exact List.append_nil _
    simp -implicitDefEqProofs only[push_cast,zz,seval,b55_2,hd,hll]
    repeat refine om_ ?_
    refine hK2 (1,M1) (show 1<=2 by decide) (show 2-1<2-0 by decide) _ _ (Sub.pt ?_)
    simp -implicitDefEqProofs only[push_cast,zz,seval,hk]
   by_cases hd:0<=(r:Int)-d
   ·by_cases hb:(r:Int)-d<c
    ·have hk:odI d a b c r 2=odI d a b c r 1++[2]:=by show _++(if 0<=(r:Int)-d/\(r:Int)-d<c then [(2:Int)]else [])=_;rw[if_pos (show(0<=(r:Int)-d/\(r:Int)-d<c) by omega)];rfl
     simp -implicitDefEqProofs only[push_cast,zz,seval,b55_2,hd,hb,hll]
     repeat refine om_ ?_
     intro X2
     repeat refine om_ ?_
     refine hK2 (2,X2 3 15) (show 2<=2 by decide) (show 2-2<2-1 by decide) _ _ (Sub.pt ?_)
     simp -implicitDefEqProofs only[push_cast,zz,seval,hk,<-List.append_assoc,hll]
    ·have hk:odI d a b c r 2=odI d a b c r 1:=by show _++(if 0<=(r:Int)-d/\(r:Int)-d<c then [(2:Int)]else [])=_;rw[if_neg (show ¬ (0<=(r:Int)-d/\(r:Int)-d<c) by omega)];exact List.append_nil _
     simp -implicitDefEqProofs only[push_cast,zz,seval,b55_2,hd,hb,hll]
     repeat refine om_ ?_
     refine hK2 (2,M1) (show 2<=2 by decide) (show 2-2<2-1 by decide) _ _ (Sub.pt ?_)
     simp -implicitDefEqProofs only[push_cast,zz,seval,hk]
   ·have hk:odI d a b c r 2=odI d a b c r 1:=by show _++(if 0<=(r:Int)-d/\(r:Int)-d<c then [(2:Int)]else [])=_;rw[if_neg (show ¬ (0<=(r:Int)-d/\(r:Int)-d<c) by omega)];exact List.append_nil _
    simp -implicitDefEqProofs only[push_cast,zz,seval,b55_2,hd,hll]
    repeat refine om_ ?_
    refine hK2 (2,M1) (show 2<=2 by decide) (show 2-2<2-1 by decide) _ _ (Sub.pt ?_)
    simp -implicitDefEqProofs only[push_cast,zz,seval,hk]
  by_cases ha:(r:Int)<a
  ·have hi0:odI d a b c r 0=[0]:=if_pos ha
   simp -implicitDefEqProofs only[push_cast,zz,seval,b55_1,ha,hll]
   intro X1
   repeat refine om_ ?_
   refine evS_subP (Sub.of (mkG 16 [(10,10),(11,11),(15,13)]) ?_) (main (X1 2 13))
   simp -implicitDefEqProofs only[push_cast,zz,seval,hi0,hll]
  ·have hi0:odI d a b c r 0=[]:=if_neg ha
   have hg':=hg ha
   simp -implicitDefEqProofs only[push_cast,zz,seval,b55_1,ha,hg']
   repeat refine om_ ?_
   refine evS_subP (Sub.of (mkG 16 [(10,10),(11,11),(15,15)]) ?_) (main M)
   simp -implicitDefEqProofs only[push_cast,zz,seval,hi0,List.append_nil]
def ent55:Entry:=spOf fs64 invOd
theorem e55:EntryOk Tryz.prog 55 ent55:=entry_of ok55 invOd
@[push_cast] theorem ent55_a u l x k:ent55 u l x k=spOf fs64 invOd u l x k:=rfl
def ir17:IR:=
 .seq (r_ [o_ 1 (.box 10 (.t 0)),o_ 2 (.mov (.k (.bool false)))] [0,2]) (.seq (r_ [f_ 3 1 0,l_ 4 3,c_ 5 .eql 4 0,m_ 6 5,q_ 6 (f_ 7 1 0),q_ 6 (l_ 8 7),q_ 6 (c_ 9 .eql 8 1),k_ 10 6 9,m_ 11 10,p_ 11 (f_ 12 1 1),p_ 11 (l_ 13 12),p_ 11 (c_ 14 .geq 13 0),K_ 15 11 14,m_ 16 15,p_ 16 (f_ 17 1 1),p_ 16 (l_ 18 17),p_ 16 (c_ 19 .leq 18 6),K_ 20 16 19,m_ 21 20,p_ 21 (f_ 22 1 2),p_ 21 (l_ 23 22),p_ 21 (c_ 24 .eql 23 0),p_ 21 (m_ 25 24),q_ 25 (f_ 26 1 2),q_ 25 (l_ 27 26),q_ 25 (c_ 28 .eql 27 1),p_ 21 (k_ 29 25 28),K_ 30 21 29,m_ 31 30,p_ 31 (f_ 32 1 5),p_ 31 (l_ 33 32),p_ 31 (c_ 34 .geq 33 0),K_ 35 31 34,m_ 36 35,p_ 36 (f_ 37 1 5),p_ 36 (l_ 38 37),p_ 36 (c_ 39 .leq 38 25),K_ 40 36 39,m_ 2 40] [1,3,4,5,6,7,8,9,10,11,12,13,14,15,16,17,18,19,20,21,22,23,24,25,26,27,28,29,30,31,32,33,34,35,36,37,38,39,40]) (.ret))
set_option maxRecDepth 4000 in
theorem comp17:(Tryz.f17.body.bind fun c=>compC tab isP chkAll ir17 c)=some ir17:=by kernel_rfl
def ir18:IR:=
 .seq (r_ [o_ 1 (.box 10 (.t 0)),o_ 2 (.mov (.k (.bool false)))] [0,2]) (.seq (r_ [f_ 3 1 0,l_ 4 3,c_ 5 .geq 4 0,m_ 6 5,p_ 6 (f_ 7 1 0),p_ 6 (l_ 8 7),p_ 6 (c_ 9 .leq 8 1),K_ 10 6 9,m_ 11 10,p_ 11 (f_ 12 1 2),p_ 11 (l_ 13 12),p_ 11 (c_ 14 .geq 13 0),K_ 15 11 14,m_ 16 15,p_ 16 (f_ 17 1 2),p_ 16 (l_ 18 17),p_ 16 (c_ 19 .leq 18 1),K_ 20 16 19,m_ 21 20,p_ 21 (f_ 22 1 1),p_ 21 (l_ 23 22),p_ 21 (c_ 24 .geq 23 0),K_ 25 21 24,m_ 26 25,p_ 26 (f_ 27 1 1),p_ 26 (l_ 28 27),p_ 26 (c_ 29 .leq 28 6),K_ 30 26 29,m_ 31 30,p_ 31 (f_ 32 1 5),p_ 31 (l_ 33 32),p_ 31 (c_ 34 .geq 33 0),K_ 35 31 34,m_ 36 35,p_ 36 (f_ 37 1 5),p_ 36 (l_ 38 37),p_ 36 (c_ 39 .leq 38 25),K_ 40 36 39,m_ 2 40] [1,3,4,5,6,7,8,9,10,11,12,13,14,15,16,17,18,19,20,21,22,23,24,25,26,27,28,29,30,31,32,33,34,35,36,37,38,39,40]) (.ret))
set_option maxRecDepth 4000 in
theorem comp18:(Tryz.f18.body.bind fun c=>compC tab isP chkAll ir18 c)=some ir18:=by kernel_rfl
structure SyA where
 wv:Int
 lv:Int
 kd:Int
 gr:Bool
 hf:Bool
 d:Int
def SyA.sv (a:SyA):SV:=.agg [.int .i64 a.wv,.int .i64 a.lv,.int .i64 a.kd,.bool a.gr,.bool a.hf,.int .i64 a.d]
attribute [push_cast] SyA.sv
def syOk (a:SyA):Prop:=(a.wv=0∨a.wv=1)/\0<=a.lv/\a.lv<=6/\(a.kd=0∨a.kd=1)/\0<=a.d/\a.d<=25
instance syOk_dec (a:SyA):Decidable (syOk a):=by unfold syOk;infer_instance
def invSy:List SV->Look->Option (SyA×List Nat)
 | [.agg [.int .i64 wv,.int .i64 lv,.int .i64 kd,.bool gr,.bool hf,.int .i64 d]],_=>some (⟨wv,lv,kd,gr,hf,d⟩,[])
 | _,_=>none
attribute [push_cast] invSy
def fs17:FS where
 A:=SyA
 args:=fun a=>[a.sv]
 res:=fun a _=>.bool (decide (syOk a))
theorem ok17:FSOk Tryz.prog 17 fs17:=by
 refine hd_ (fk_ Tryz.func17) fun a hp=>?_
 obtain⟨wv,lv,kd,gr,hf,d⟩:=a
 change Tri Tryz.prog 17 [.agg [.int .i64 wv,.int .i64 lv,.int .i64 kd,.bool gr,.bool hf,.int .i64 d]] [] (postF fs17 ⟨wv,lv,kd,gr,hf,d⟩)
 refine tri_evS (hyp (l:=[]) (lp:=[]) trivial trivial) Tryz.func17 comp17 (rs:=[.tmp 2]) (by rfl) Tryz.ntmps17 11 ?_
 simp -implicitDefEqProofs only[push_cast,zz,seval,ir17]
 intro X
 have hd:decide (syOk ⟨wv,lv,kd,gr,hf,d⟩)=decide ((wv=0∨wv=1)/\0<=lv/\lv<=6/\(kd=0∨kd=1)/\0<=d/\d<=25):=decide_eq_decide.2 Iff.rfl
 refine⟨fun h=>⟨h.1,h.2.1,h.2.2,fun hk=>⟨h.1,h.2.1,h.2.2,hk⟩⟩,?_⟩
 refine postF.mk' (fun _=>default) [] ?_
 simp -implicitDefEqProofs only[push_cast,zz,seval,fs17,hd]
def ent17:Entry:=spOf fs17 invSy
theorem e17:EntryOk Tryz.prog 17 ent17:=entry_of ok17 invSy
@[push_cast] theorem ent17_a u l x k:ent17 u l x k=spOf fs17 invSy u l x k:=rfl
theorem ok18:FSOk Tryz.prog 18 fs17:=by
 refine hd_ (fk_ Tryz.func18) fun a hp=>?_
 obtain⟨wv,lv,kd,gr,hf,d⟩:=a
 change Tri Tryz.prog 18 [.agg [.int .i64 wv,.int .i64 lv,.int .i64 kd,.bool gr,.bool hf,.int .i64 d]] [] (postF fs17 ⟨wv,lv,kd,gr,hf,d⟩)
 refine tri_evS (hyp (l:=[]) (lp:=[]) trivial trivial) Tryz.func18 comp18 (rs:=[.tmp 2]) (by rfl) Tryz.ntmps18 11 ?_
 simp -implicitDefEqProofs only[push_cast,zz,seval,ir18]
 intro X
 have hd:decide (syOk ⟨wv,lv,kd,gr,hf,d⟩)=decide (0<=wv/\wv<=1/\0<=kd/\kd<=1/\0<=lv/\lv<=6/\0<=d/\d<=25):=decide_eq_decide.2 (by unfold syOk;simp only;omega)
 refine postF.mk' (fun _=>default) [] ?_
 simp -implicitDefEqProofs only[push_cast,zz,seval,fs17,hd]
def ent18:Entry:=spOf fs17 invSy
theorem e18:EntryOk Tryz.prog 18 ent18:=entry_of ok18 invSy
@[push_cast] theorem ent18_a u l x k:ent18 u l x k=spOf fs17 invSy u l x k:=rfl
def odV (a:OdA):Prop:=syOk ⟨a.wv,a.lv,a.kd,a.gr,a.hf,a.d⟩/\(0<=a.a/\a.a<=25)/\(0<=a.b/\a.b<=25)/\(0<=a.c/\a.c<=25)/\(a.gr=true->a.b=0/\a.c=0)
instance odV_dec (a:OdA):Decidable (odV a):=by unfold odV;infer_instance
theorem odV.ok {a:OdA} (h:odV a):odOk a.d a.a a.b a.c:=by
 obtain⟨⟨_,_,_,_,h1,h2⟩,⟨h3,h4⟩,⟨h5,h6⟩,⟨h7,h8⟩,_⟩:=h
 exact⟨h1,h2,h3,h4,h5,h6,h7,h8⟩
def szL (n:Int):List Int:=if n<128 then [n]else [n / 128+128,n % 128]
def gtK (b:List Int) (p:Int):Nat->Int->Int->Int×Int×Int
 | 0,_,_=>(0,0,3)
 | f+1,k,n=>
  if (b.length:Int)<=p+k then (0,0,6)
  else if rd b (p+k)<128 then (if 2147483647<n*128+rd b (p+k) % 128∨(0<k/\rd b p=128)then (0,0,3)else (n*128+rd b (p+k) % 128,p+k+1,0))
  else gtK b p f (k+1) (n*128+rd b (p+k) % 128)
def gtP (b:List Int) (p:Int):Int×Int×Int:=if p<0∨(b.length:Int)<p then (0,0,2)else gtK b p 5 0 0
def gtOk (b:List Int) (r:Int×Int×Int):Prop:=0<=r.1/\r.1<=2147483647/\0<=r.2.1/\r.2.1<=b.length/\0<=r.2.2/\r.2.2<=6/\(r.2.2≠0->r.1=0/\r.2.1=0)
theorem gtOk_err (b:List Int) {e:Int} (h:0<=e) (h2:e<=6):gtOk b (0,0,e):=⟨Int.le_refl _,by simp,Int.le_refl _,Int.natCast_nonneg _,h,h2,fun _=>⟨rfl,rfl⟩⟩
theorem gtK_ok (b:List Int) {p:Int} (hp:0<=p):∀ (f:Nat) (k n:Int),0<=k->0<=n->gtOk b (gtK b p f k n)
 | 0,k,n,_,_=>gtOk_err b (by decide) (by decide)
 | f+1,k,n,hk,hn=>by
  unfold gtK
  have h0:0<=rd b (p+k) % 128:=Int.emod_nonneg _ (by decide)
  split
  ·exact gtOk_err b (by decide) (by decide)
  ·split
   ·split
    ·exact gtOk_err b (by decide) (by decide)
    ·rename_i h1 h2 h3
     exact⟨by simp only;omega,by simp only;omega,by simp only;omega,by simp only;omega,by simp,by simp,fun h=>absurd rfl h⟩
   ·exact gtK_ok b hp f (k+1) _ (by omega) (by omega)
theorem gtP_ok (b:List Int) (p:Int):gtOk b (gtP b p):=by
 unfold gtP
 split
 ·exact gtOk_err b (by decide) (by decide)
 ·exact gtK_ok b (by omega) 5 0 0 (by decide) (by decide)
theorem szL_len (n:Int):1<=(szL n).length/\(szL n).length<=2:=by
 unfold szL
 split
 ·exact⟨by simp,by simp⟩
 ·exact⟨by simp,by simp⟩
def byB (b:List Int):Prop:=∀ x∈b,0<=x/\x<256
structure SzA where
 n:Int
def invSz:List SV->Look->Option (SzA×List Nat)
 | [.int .i64 n],_=>some (⟨n⟩,[])
 | _,_=>none
attribute [push_cast] invSz
def fs119:FS where
 A:=SzA
 args:=fun a=>[.int .i64 a.n]
 pre:=fun a=>0<=a.n/\a.n<16384
 res:=fun a x=>.tup [.sl 0 (x 0) 1 0 (szL a.n).length,.int .i64 0]
 new:=fun a x=>[(x 0,.ints .u8 (szL a.n))]
structure GtA where
 L:Xf.Loc
 b:List Int
 p:Int
def invGt:List SV->Look->Option (GtA×List Nat)
 | [.sl c _ 1 0 _,.int .i64 p],look=>match rowI (lkZ look (.ints .u8 []) c)with
  | some (L,.u8,b)=>some (⟨L,b,p⟩,[c])
  | _=>none
 | _,_=>none
attribute [push_cast] invGt
def fs142:FS where
 A:=GtA
 args:=fun a=>[.sl 0 a.L 1 0 a.b.length,.int .i64 a.p]
 mem:=fun a=>[some (.ro,a.L,.ints .u8 a.b)]
 pre:=fun a=>a.b.length<=140737488355328/\byB a.b
 res:=fun a _=>.tup [.int .i64 (gtP a.b a.p).1,.int .i64 (gtP a.b a.p).2.1,.int .i64 (gtP a.b a.p).2.2]
def csz (b:List Int) (m p e:Int):Int×Int×Int:=
 if e=0 then ((gtP b p).1,(gtP b p).2.1,if (gtP b p).2.2=0 then (if (gtP b p).1<=m then 0 else 3)else (gtP b p).2.2)else (0,p,e)
def cby (b:List Int) (m p e:Int):Int×Int×Int:=
 if e=0 then (if p<b.length then (rd b p,p+1,if rd b p<=m then 0 else 3)else (0,p,6))else (0,p,e)
def cuOk (b:List Int) (m:Int) (r:Int×Int×Int):Prop:=0<=r.1/\0<=r.2.1/\r.2.1<=b.length/\0<=r.2.2/\r.2.2<=6/\r.1<=2147483647/\(r.2.2=0->r.1<=m)
theorem csz_ok {b:List Int} {m p e:Int} (p0:0<=p) (p1:p<=b.length) (e0:0<=e) (e1:e<=6):cuOk b m (csz b m p e):=by
 obtain⟨h1,h2,h3,h4,h5,h6,h7⟩:=gtP_ok b p
 unfold csz
 split
 ·refine⟨h1,h3,h4,?_,?_,h2,?_⟩
  ·simp only;split
   ·split<;>decide
   ·exact h5
  ·simp only;split
   ·split<;>decide
   ·exact h6
  ·simp only;split
   ·split
    ·exact fun _=>by assumption
    ·exact fun h=>absurd h (by decide)
   ·exact fun h=>absurd h (by assumption)
 ·exact⟨Int.le_refl _,p0,p1,e0,e1,by simp,fun h=>absurd h (by assumption)⟩
theorem rd_byte {b:List Int} (hb:byB b) (p:Int):0<=rd b p/\rd b p<256:=by
 unfold rd
 rw[List.getD_eq_getElem?_getD]
 rcases Nat.lt_or_ge p.toNat b.length with h | h
 ·rw[List.getElem?_eq_getElem h]
  exact hb _ (List.getElem_mem h)
 ·rw[List.getElem?_eq_none h]
  exact⟨Int.le_refl _,show(0:Int)<256 by decide⟩
theorem cby_ok {b:List Int} {m p e:Int} (hb:byB b) (p0:0<=p) (p1:p<=b.length) (e0:0<=e) (e1:e<=6):cuOk b m (cby b m p e)/\(cby b m p e).1<256:=by
 obtain⟨h1,h2⟩:=rd_byte hb p
 unfold cby
 split
 ·split
  ·refine⟨⟨h1,by simp only;omega,by simp only;omega,?_,?_,by simp only;omega,?_⟩,h2⟩
   ·simp only;split<;>decide
   ·simp only;split<;>decide
   ·simp only;split
    ·exact fun _=>by assumption
    ·exact fun h=>absurd h (by decide)
  ·exact⟨⟨Int.le_refl _,p0,p1,by simp,by simp,by simp,fun h=>absurd h (by simp)⟩,by simp⟩
 ·exact⟨⟨Int.le_refl _,p0,p1,e0,e1,by simp,fun h=>absurd h (by assumption)⟩,by simp⟩
def hz1 (b:List Int):=csz b 2147483647 0 0
def hz2 (b:List Int):=csz b 2147483647 (hz1 b).2.1 (hz1 b).2.2
def hz3 (b:List Int):=cby b 15 (hz2 b).2.1 (hz2 b).2.2
def hz4 (b:List Int):=cby b 6 (hz3 b).2.1 (hz3 b).2.2
def hz5 (b:List Int):=csz b 25 (hz4 b).2.1 (hz4 b).2.2
def hz6 (b:List Int):=csz b 25 (hz5 b).2.1 (hz5 b).2.2
def hgr (b:List Int):Bool:=decide ((hz3 b).1 / 4 % 2=1)
def hz7 (b:List Int):=if hgr b=true then (0,(hz6 b).2.1,(hz6 b).2.2)else csz b 25 (hz6 b).2.1 (hz6 b).2.2
def hz8 (b:List Int):=if hgr b=true then (0,(hz7 b).2.1,(hz7 b).2.2)else csz b 25 (hz7 b).2.1 (hz7 b).2.2
def hdE (b:List Int):Int:=if (hz8 b).2.2=0 then (if (hz8 b).2.1=b.length then 0 else 3)else (hz8 b).2.2
structure HdR where
 w:Int
 h:Int
 s:SyA
 a:Int
 b:Int
 c:Int
def hd0:HdR:=⟨0,0,⟨0,0,0,false,false,0⟩,0,0,0⟩
def hdP (b:List Int):HdR:=if hdE b=0 then ⟨(hz1 b).1,(hz2 b).1,⟨(hz3 b).1 % 2,(hz4 b).1,(hz3 b).1 / 2 % 2,hgr b,decide ((hz3 b).1 / 8 % 2=1),(hz5 b).1⟩,(hz6 b).1,(hz7 b).1,(hz8 b).1⟩else hd0
theorem h_ok {b:List Int} (hb:byB b):cuOk b 2147483647 (hz1 b)/\cuOk b 2147483647 (hz2 b)/\(cuOk b 15 (hz3 b)/\(hz3 b).1<256)/\(cuOk b 6 (hz4 b)/\(hz4 b).1<256)/\cuOk b 25 (hz5 b)/\cuOk b 25 (hz6 b)/\cuOk b 25 (hz7 b)/\cuOk b 25 (hz8 b):=by
 have r1:cuOk b 2147483647 (hz1 b):=csz_ok (by decide) (by omega) (by decide) (by decide)
 have r2:cuOk b 2147483647 (hz2 b):=csz_ok r1.2.1 r1.2.2.1 r1.2.2.2.1 r1.2.2.2.2.1
 have r3:cuOk b 15 (hz3 b)/\(hz3 b).1<256:=cby_ok hb r2.2.1 r2.2.2.1 r2.2.2.2.1 r2.2.2.2.2.1
 have r4:cuOk b 6 (hz4 b)/\(hz4 b).1<256:=cby_ok hb r3.1.2.1 r3.1.2.2.1 r3.1.2.2.2.1 r3.1.2.2.2.2.1
 have r5:cuOk b 25 (hz5 b):=csz_ok r4.1.2.1 r4.1.2.2.1 r4.1.2.2.2.1 r4.1.2.2.2.2.1
 have r6:cuOk b 25 (hz6 b):=csz_ok r5.2.1 r5.2.2.1 r5.2.2.2.1 r5.2.2.2.2.1
 have r7:cuOk b 25 (hz7 b):=by
  unfold hz7
  split
  ·exact⟨Int.le_refl _,r6.2.1,r6.2.2.1,r6.2.2.2.1,r6.2.2.2.2.1,by simp,fun _=>by simp⟩
  ·exact csz_ok r6.2.1 r6.2.2.1 r6.2.2.2.1 r6.2.2.2.2.1
 have r8:cuOk b 25 (hz8 b):=by
  unfold hz8
  split
  ·exact⟨Int.le_refl _,r7.2.1,r7.2.2.1,r7.2.2.2.1,r7.2.2.2.2.1,by simp,fun _=>by simp⟩
  ·exact csz_ok r7.2.1 r7.2.2.1 r7.2.2.2.1 r7.2.2.2.2.1
 exact⟨r1,r2,r3,r4,r5,r6,r7,r8⟩
theorem csz_e {b:List Int} {m p e:Int} (h:(csz b m p e).2.2=0):e=0:=by
 unfold csz at h
 split at h
 ·assumption
 ·exact h
theorem cby_e {b:List Int} {m p e:Int} (h:(cby b m p e).2.2=0):e=0:=by
 unfold cby at h
 split at h
 ·assumption
 ·exact h
theorem hd_es {b:List Int} (h:hdE b=0):(hz1 b).2.2=0/\(hz2 b).2.2=0/\(hz3 b).2.2=0/\(hz4 b).2.2=0/\(hz5 b).2.2=0/\(hz6 b).2.2=0/\(hz7 b).2.2=0/\(hz8 b).2.2=0/\(hz8 b).2.1=b.length:=by
 have e8:(hz8 b).2.2=0/\(hz8 b).2.1=b.length:=by
  unfold hdE at h
  split at h
  ·rename_i h0
   split at h
   ·rename_i h9
    exact⟨h0,h9⟩
   ·cases h
  ·rename_i h0
   exact absurd h h0
 have e7:(hz7 b).2.2=0:=by
  have:=e8.1
  unfold hz8 at this
  split at this
  ·exact this
  ·exact csz_e this
 have e6:(hz6 b).2.2=0:=by
  have:=e7
  unfold hz7 at this
  split at this
  ·exact this
  ·exact csz_e this
 have e5:(hz5 b).2.2=0:=csz_e e6
 have e4:(hz4 b).2.2=0:=csz_e e5
 have e3:(hz3 b).2.2=0:=cby_e e4
 have e2:(hz2 b).2.2=0:=cby_e e3
 have e1:(hz1 b).2.2=0:=csz_e e2
 exact⟨e1,e2,e3,e4,e5,e6,e7,e8.1,e8.2⟩
def hdOk (r:HdR):Prop:=0<=r.w/\0<=r.h/\r.w<=2147483647/\r.h<=2147483647/\odV ⟨r.s.wv,r.s.lv,r.s.kd,r.s.gr,r.s.hf,r.s.d,r.a,r.b,r.c⟩
theorem hdP_ok {b:List Int} (hb:byB b):hdOk (hdP b):=by
 obtain⟨r1,r2,⟨r3,_⟩,⟨r4,_⟩,r5,r6,r7,r8⟩:=h_ok hb
 unfold hdP
 split
 ·rename_i he
  obtain⟨e1,e2,e3,e4,e5,e6,e7,e8,_⟩:=hd_es he
  refine⟨r1.1,r2.1,r1.2.2.2.2.2.1,r2.2.2.2.2.2.1,⟨?_,r4.1,r4.2.2.2.2.2.2 e4,?_,r5.1,r5.2.2.2.2.2.2 e5⟩,⟨r6.1,r6.2.2.2.2.2.2 e6⟩,⟨r7.1,r7.2.2.2.2.2.2 e7⟩,⟨r8.1,r8.2.2.2.2.2.2 e8⟩,fun hg=>?_⟩
  ·simp only;omega
  ·simp only;omega
  ·simp only at hg ⊢
   unfold hz8 hz7
   rw[hg]
   exact⟨rfl,rfl⟩
 ·refine⟨by decide,by decide,by decide,by decide,⟨.inl rfl,by decide,by decide,.inl rfl,by decide,by decide⟩,⟨by decide,by decide⟩,⟨by decide,by decide⟩,⟨by decide,by decide⟩,fun h=>by cases h⟩
def b119_1:IR:=
 .seq (.seq (r_ [m_ 17 0,c_ 18 .gtr 17 0] [17]) (.cond (.t 18) (.skip) (.exit 0))) (.seq (.block 1 (r_ [m_ 21 0,c_ 22 .rem 21 128,o_ 23 (.cvt 0 .u8 (.t 22)),o_ 24 (.bin 0 .add (.t 23) (.k (.int .u8 128))),o_ 25 (.bslice 11 [.t 24]),m_ 26 4,o_ 27 (.app 12 1 1 (.t 25) (.t 26)),m_ 4 27] [18,21,22,23,24,25,26,27])) (r_ [m_ 19 0,c_ 20 .quo 19 128,m_ 0 20] [19,20]))
def r119_2:IR:=
 .seq (r_ [m_ 28 4,m_ 2 28,z_ 3 0] [0,4,28]) (.ret)
def ir119:IR:=
 .seq (r_ [o_ 2 (.mov (.k nilSV)),z_ 3 0] [2,3]) (.seq (.seq (r_ [m_ 5 0,c_ 6 .lss 5 0,m_ 7 6,q_ 7 (m_ 8 0),q_ 7 (c_ 9 .gtr 8 2147483647),k_ 10 7 9] [5,6,7,8,9]) (.cond (.t 10) (.seq (r_ [o_ 2 (.mov (.k nilSV)),z_ 3 2] [0,10]) (.ret)) (.skip))) (.seq (r_ [m_ 11 0,c_ 12 .rem 11 128,o_ 13 (.cvt 0 .u8 (.t 12)),o_ 14 (.bslice 10 [.t 13]),m_ 4 14] [2,3,10,11,12,13,14]) (.seq (.seq (r_ [m_ 15 0,c_ 16 .quo 15 128,m_ 0 16] [15,16]) (.block 0 (.loop b119_1))) (r119_2))))
def kp119_1:List Nat:=[0,4]
def kl119_1:List Nat:=[11,12]
attribute [push_cast] kp119_1 kl119_1
set_option maxRecDepth 4000 in
theorem comp119:(Tryz.f119.body.bind fun c=>compC tab isP chkAll ir119 c)=some ir119:=by kernel_rfl
def b142_1:IR:=
 .seq (r_ [c_ 18 .lss 17 5] []) (.seq (.cond (.t 18) (.skip) (.exit 0)) (.seq (.block 1 (.seq (r_ [m_ 19 17,m_ 7 19] [18,19]) (.seq (.seq (r_ [m_ 20 1,m_ 21 7,b_ 22 .add 20 21,m_ 23 0,h_ 24 23,b_ 25 .geq 22 24] [20,21,22,23,24]) (.cond (.t 25) (.seq (r_ [z_ 4 0,z_ 5 0,z_ 6 6] [0,1,7,17,25]) (.ret)) (.skip))) (.seq (r_ [m_ 26 0,m_ 27 1,m_ 28 7,b_ 29 .add 27 28,i_ 30 26 29 1,L_ 31 30,o_ 32 (.cvt 0 .i64 (.t 31)),m_ 8 32] [5,6,25,26,27,28,29,30,31,32]) (.seq (r_ [m_ 33 4,c_ 34 .mul 33 128,m_ 35 8,c_ 36 .rem 35 128,b_ 37 .add 34 36,m_ 4 37] [33,34,35,36,37]) (.seq (r_ [m_ 38 8,c_ 39 .lss 38 128] [8,38]) (.cond (.t 39) (.seq (.seq (r_ [m_ 40 4,c_ 41 .gtr 40 2147483647,m_ 42 41,q_ 42 (m_ 43 7),q_ 42 (c_ 44 .gtr 43 0),q_ 42 (m_ 45 44),p_ 45 (m_ 46 0),p_ 45 (m_ 47 1),p_ 45 (i_ 48 46 47 1),p_ 45 (L_ 49 48),p_ 45 (o_ 50 (.bin 0 .eql (.t 49) (.k (.int .u8 128)))),q_ 42 (K_ 51 45 50),k_ 52 42 51] [0,17,39,40,41,42,43,44,45,46,47,48,49,50,51]) (.cond (.t 52) (.seq (r_ [z_ 4 0,z_ 5 0,z_ 6 3] [1,7,52]) (.ret)) (.skip))) (.seq (r_ [m_ 53 4,m_ 54 1,m_ 55 7,b_ 56 .add 54 55,a_ 57 56 1,m_ 4 53,m_ 5 57,z_ 6 0] [1,7,52,53,54,55,56,57]) (.ret))) (.skip)))))))) (r_ [a_ 58 17 1,m_ 17 58] [5,6,7,39,58])))
def r142_2:IR:=
 .seq (r_ [z_ 4 0,z_ 5 0,z_ 6 3] [0,1,17]) (.ret)
def ir142:IR:=
 .seq (r_ [z_ 4 0,z_ 5 0,z_ 6 0] [5,6]) (.seq (.seq (r_ [m_ 9 1,c_ 10 .lss 9 0,m_ 11 10,q_ 11 (m_ 12 1),q_ 11 (m_ 13 0),q_ 11 (h_ 14 13),q_ 11 (b_ 15 .gtr 12 14),k_ 16 11 15] [9,10,11,12,13,14,15]) (.cond (.t 16) (.seq (r_ [z_ 4 0,z_ 5 0,z_ 6 2] [0,1,16]) (.ret)) (.skip))) (.seq (.seq (r_ [z_ 17 0] [5,6,16]) (.block 0 (.loop b142_1))) (r142_2)))
def kp142_1:List Nat:=[0,1,4,17]
def kl142_1:List Nat:=[]
attribute [push_cast] kp142_1 kl142_1
set_option maxRecDepth 4000 in
theorem comp142:(Tryz.f142.body.bind fun c=>compC tab isP chkAll ir142 c)=some ir142:=by kernel_rfl
set_option maxHeartbeats 1000000 in
theorem ok119:FSOk Tryz.prog 119 fs119:=by
 refine hd_ (fk_ Tryz.func119) fun a hp=>?_
 obtain⟨n⟩:=a
 obtain⟨h0,h1⟩:0<=n/\n<16384:=hp
 change Tri Tryz.prog 119 [.int .i64 n] [] (postF fs119 ⟨n⟩)
 refine tri_evS (hyp (l:=[]) (lp:=[]) trivial trivial) Tryz.func119 comp119 (rs:=[.tmp 2,.tmp 3]) (by rfl) Tryz.ntmps119 13 ?_
 have w1:IntKind.u8.wrap (n % 128)=n % 128:=inR_wrap (k:=.u8) ⟨by omega,by omega⟩
 have c1:¬ n<0:=by omega
 have c2:¬ 2147483647<n:=by omega
 simp -implicitDefEqProofs only[push_cast,zz,seval,ir119,w1,c1,c2]
 intro X
 repeat refine om_ ?_
 refine evS_loopU (A:=Int×List Int×Xf.Loc) kp119_1 kl119_1 (fun y=>[(0,.int .i64 y.1),(4,.sl 10 y.2.2 1 0 y.2.1.length)]) (fun y=>[(10,.mine,y.2.2,.ints .u8 y.2.1)]) (fun y=>(y.1=n / 128/\y.2.1=[n % 128])∨(y.1=0/\y.2.1=szL n)) (fun y=>y.1.toNat) (n / 128,[n % 128],X 3 10) (.inl ⟨rfl,rfl⟩) (Sub.pt ?_) ?_
 ·simp -implicitDefEqProofs only[push_cast,zz,seval]
 intro ⟨m,l,M⟩ (hy:(m=n / 128/\l=[n % 128])∨(m=0/\l=szL n)) K hK
 by_cases hm:0<m
 ·have hy2:m=n / 128/\l=[n % 128]:=by
   rcases hy with h | h
   ·exact h
   ·omega
  obtain⟨rfl,rfl⟩:=hy2
  have hs:szL n=[n / 128+128,n % 128]:=if_neg (by omega)
  have w2:IntKind.u8.wrap (n / 128 % 128)=n / 128 % 128:=inR_wrap (k:=.u8) ⟨by omega,by omega⟩
  have e1:n / 128 % 128=n / 128:=by omega
  simp -implicitDefEqProofs only[push_cast,zz,seval,b119_1,hm,w2,e1]
  repeat refine om_ ?_
  intro X1
  repeat refine om_ ?_
  refine hK (n / 128 / 128,szL n,X1 6 12) (.inr ⟨by simp only;omega,rfl⟩) (show(n / 128 / 128).toNat<(n / 128).toNat by omega) _ _ (Sub.of (mkG 13 [(10,12)]) ?_)
  simp -implicitDefEqProofs only[push_cast,zz,seval,hs]
 ·have hl:l=szL n:=by
   rcases hy with ⟨h,g⟩ | ⟨_,g⟩
   ·rw[g]
    unfold szL
    rw[if_pos (by omega)]
    exact congrArg (fun x=>[x]) (by omega)
   ·exact g
  subst hl
  clear hK
  simp -implicitDefEqProofs only[push_cast,zz,seval,b119_1,r119_2,hm]
  refine postF.mk' (fun _=>M) [some 10] ?_
  simp -implicitDefEqProofs only[push_cast,zz,seval,fs119]
def ent119:Entry:=spOf fs119 invSz
theorem e119:EntryOk Tryz.prog 119 ent119:=entry_of ok119 invSz
@[push_cast] theorem ent119_a u l x k:ent119 u l x k=spOf fs119 invSz u l x k:=rfl
theorem gtK_step (b:List Int) (p:Int) {k:Nat} (hk:k<5) (n:Int):gtK b p (5-k) k n=if (b.length:Int)<=p+k then (0,0,6)else if rd b (p+k)<128 then (if 2147483647<n*128+rd b (p+k) % 128∨(0<(k:Int)/\rd b p=128)then (0,0,3)else (n*128+rd b (p+k) % 128,p+k+1,0))else gtK b p (5-(k+1)) ((k+1:Nat):Int) (n*128+rd b (p+k) % 128):=by
 have e:5-k=(5-(k+1))+1:=by omega
 rw[e,gtK]
 push_cast
set_option maxHeartbeats 1000000 in
theorem ok142:FSOk Tryz.prog 142 fs142:=by
 refine hd_ (fk_ Tryz.func142) fun a hp=>?_
 obtain⟨L,b,p⟩:=a
 obtain⟨hl,hb⟩:b.length<=140737488355328/\byB b:=hp
 change Tri Tryz.prog 142 [.sl 0 L 1 0 b.length,.int .i64 p] [some (.ro,L,.ints .u8 b)] (postF fs142 ⟨L,b,p⟩)
 refine tri_evS (hyp (l:=[]) (lp:=[]) trivial trivial) Tryz.func142 comp142 (rs:=[.tmp 4,.tmp 5,.tmp 6]) (by rfl) Tryz.ntmps142 10 ?_
 obtain⟨R,hR⟩:∃ R,gtP b p=R:=⟨_,rfl⟩
 have mc:∀ n:Int,128*n=n*128:=fun n=>Int.mul_comm _ _
 by_cases hp0:p<0
 ·obtain rfl:(0,0,2)=R:=by rw[<-hR];exact(if_pos (.inl hp0)).symm
  simp -implicitDefEqProofs only[push_cast,zz,seval,ir142,hp0]
  refine postF.mk' (fun _=>default) [some 0] ?_
  simp -implicitDefEqProofs only[push_cast,zz,seval,fs142,hR]
 by_cases hp1:(b.length:Int)<p
 ·obtain rfl:(0,0,2)=R:=by rw[<-hR];exact(if_pos (.inr hp1)).symm
  simp -implicitDefEqProofs only[push_cast,zz,seval,ir142,hp0,hp1]
  refine postF.mk' (fun _=>default) [some 0] ?_
  simp -implicitDefEqProofs only[push_cast,zz,seval,fs142,hR]
 have hg:gtK b p 5 0 0=R:=by rw[<-hR];exact(if_neg (by omega)).symm
 simp -implicitDefEqProofs only[push_cast,zz,seval,ir142,hp0,hp1]
 refine evS_loopU (A:=Nat×Int) kp142_1 kl142_1 (fun y=>[(4,.int .i64 y.2),(17,.int .i64 y.1)]) (fun _=>[]) (fun y=>y.1<=5/\0<=y.2/\y.2<128^y.1/\gtK b p (5-y.1) y.1 y.2=R) (fun y=>5-y.1) (0,0) ⟨by decide,by decide,by decide,hg⟩ (Sub.pt ?_) ?_
 ·simp -implicitDefEqProofs only[push_cast,zz,seval]
 intro ⟨k,n⟩ ⟨(hk:k<=5),(hn:0<=n),(hB:n<128^k),(hq:gtK b p (5-k) k n=R)⟩ K hK
 by_cases hk5:k=5
 ·subst hk5
  obtain rfl:(0,0,3)=R:=hq
  clear hK
  simp -implicitDefEqProofs only[push_cast,zz,seval,b142_1,r142_2]
  refine postF.mk' (fun _=>default) [some 0] ?_
  simp -implicitDefEqProofs only[push_cast,zz,seval,fs142,hR]
 have hk':k<5:=by omega
 have hki:(k:Int)<5:=by omega
 have hP:(128:Int)^k<=268435456:=by
  have:=Nat.pow_le_pow_right (n:=128) (by decide) (show k<=4 by omega)
  have h2:((128^k:Nat):Int)<=((128^4:Nat):Int):=by omega
  simpa using h2
 rw[gtK_step b p hk']at hq
 by_cases h1:(b.length:Int)<=p+k
 ·rw[if_pos h1]at hq
  subst hq
  simp -implicitDefEqProofs only[push_cast,zz,seval,b142_1,hki,h1]
  repeat refine om_ ?_
  refine postF.mk' (fun _=>default) [some 0] ?_
  simp -implicitDefEqProofs only[push_cast,zz,seval,fs142,hR]
 rw[if_neg h1]at hq
 have hc:=rd_byte hb (p+k)
 obtain⟨c,hcc⟩:∃ c,rd b (p+k)=c:=⟨_,rfl⟩
 have h1':p+k<(b.length:Int):=by omega
 rw[hcc]at hc hq
 have w1:IntKind.i64.wrap c=c:=inR_wrap (k:=.i64) ⟨by omega,by omega⟩
 by_cases h2:c<128
 ·rw[if_pos h2]at hq
  by_cases h3:2147483647<n*128+c % 128
  ·rw[if_pos (.inl h3)]at hq
   subst hq
   simp -implicitDefEqProofs only[push_cast,zz,seval,b142_1,hki,h1,hcc,h2,h3,mc]
   repeat refine om_ ?_
   refine postF.mk' (fun _=>default) [some 0] ?_
   simp -implicitDefEqProofs only[push_cast,zz,seval,fs142,hR]
  by_cases h4:0<(k:Int)
  ·by_cases h5:rd b p=128
   ·rw[if_pos (.inr ⟨h4,h5⟩)]at hq
    subst hq
    simp -implicitDefEqProofs only[push_cast,zz,seval,b142_1,hki,h1,hcc,h2,h3,h4,h5,mc]
    repeat refine om_ ?_
    refine postF.mk' (fun _=>default) [some 0] ?_
    simp -implicitDefEqProofs only[push_cast,zz,seval,fs142,hR]
   ·rw[if_neg (fun h=>h.elim h3 fun g=>h5 g.2)]at hq
    subst hq
    simp -implicitDefEqProofs only[push_cast,zz,seval,b142_1,hki,h1,hcc,h2,h3,h4,h5,mc]
    repeat refine om_ ?_
    refine postF.mk' (fun _=>default) [some 0] ?_
    simp -implicitDefEqProofs only[push_cast,zz,seval,fs142,hR]
  ·rw[if_neg (fun h=>h.elim h3 fun g=>h4 g.1)]at hq
   subst hq
   simp -implicitDefEqProofs only[push_cast,zz,seval,b142_1,hki,h1,hcc,h2,h3,h4,mc]
   repeat refine om_ ?_
   refine postF.mk' (fun _=>default) [some 0] ?_
   simp -implicitDefEqProofs only[push_cast,zz,seval,fs142,hR]
 ·rw[if_neg h2]at hq
  simp -implicitDefEqProofs only[push_cast,zz,seval,b142_1,hki,h1,hcc,h2,mc]
  repeat refine om_ ?_
  refine hK (k+1,n*128+c % 128) ⟨by simp only;omega,by simp only;omega,by simp only;rw[Int.pow_succ];omega,hq⟩ (show 5-(k+1)<5-k by omega) _ _ (Sub.pt ?_)
  simp -implicitDefEqProofs only[push_cast,zz,seval]
def ent142:Entry:=spOf fs142 invGt
theorem e142:EntryOk Tryz.prog 142 ent142:=entry_of ok142 invGt
@[push_cast] theorem ent142_a u l x k:ent142 u l x k=spOf fs142 invGt u l x k:=rfl
def ir77:IR:=
 .seq (r_ [m_ 6 0,n_ 7 6,f_ 8 7 2,l_ 9 8,c_ 10 .eql 9 0,m_ 11 10,p_ 11 (m_ 12 1),p_ 11 (o_ 13 (.not (.t 12))),K_ 14 11 13] [1,6,7,8,9,10,11,12,13]) (.cond (.t 14) (r_ [m_ 15 0,m_ 16 2,n_ 17 15,f_ 18 17 2,s_ 1 .i64 18 16] [0,2,14,15,16,17,18]) (.skip))
set_option maxRecDepth 4000 in
theorem comp77:(Tryz.f77.body.bind fun c=>compC tab isP chkAll ir77 c)=some ir77:=by kernel_rfl
def ir75:IR:=
 .seq (r_ [z_ 4 0] [4]) (.seq (.seq (r_ [m_ 8 0,n_ 9 8,f_ 10 9 2,l_ 11 10,c_ 12 .neq 11 0] [8,9,10,11]) (.cond (.t 12) (.seq (r_ [z_ 4 0] [0,1,12]) (.ret)) (.skip))) (.seq (R_ [m_ 14 0,n_ 15 14,f_ 16 15 0,l_ 17 16,m_ 18 0,n_ 19 18,f_ 20 19 1,l_ 21 20,o_ 22 (.call (some 4) 10 142 [.t 17,.t 21]),m_ 13 22,e_ 23 13 0,e_ 24 13 1,e_ 25 13 2,m_ 5 23,m_ 6 24,m_ 7 25] [4,12,13,14,15,16,17,18,19,20,21,22,23,24,25]) (.seq (r_ [m_ 26 0,m_ 27 7,c_ 28 .eql 27 0,m_ 29 7,o_ 30 (.call none 14 77 [.t 26,.t 28,.t 29])] [7,26,27,28,29,30]) (.seq (r_ [m_ 31 0,m_ 32 6,n_ 33 31,f_ 34 33 1,s_ 1 .i64 34 32] [6,31,32,33,34]) (.seq (r_ [m_ 35 0,m_ 36 5,m_ 37 1,b_ 38 .leq 36 37,o_ 39 (.call none 18 77 [.t 35,.t 38,Z_ 3])] [0,1,35,36,37,38,39]) (.seq (r_ [m_ 40 5,m_ 4 40] [5,40]) (.ret)))))))
set_option maxRecDepth 4000 in
theorem comp75:(Tryz.f75.body.bind fun c=>compC tab isP chkAll ir75 c)=some ir75:=by kernel_rfl
def ir76:IR:=
 .seq (r_ [z_ 4 0] [4]) (.seq (R_ [m_ 6 0,m_ 7 0,n_ 8 7,f_ 9 8 1,l_ 10 9,m_ 11 0,n_ 12 11,f_ 13 12 0,l_ 14 13,h_ 15 14,b_ 16 .lss 10 15,o_ 17 (.call none 10 77 [.t 6,.t 16,Z_ 6])] [6,7,8,9,10,11,12,13,14,15,16,17]) (.seq (.seq (r_ [m_ 18 0,n_ 19 18,f_ 20 19 2,l_ 21 20,c_ 22 .neq 21 0] [18,19,20,21]) (.cond (.t 22) (.seq (r_ [z_ 4 0] [0,1,22]) (.ret)) (.skip))) (.seq (r_ [m_ 23 0,n_ 24 23,f_ 25 24 1,l_ 26 25,a_ 27 26 1,n_ 28 23,f_ 29 28 1,s_ 1 .i64 29 27] [4,22,23,24,25,26,27,28,29]) (.seq (R_ [m_ 30 0,n_ 31 30,f_ 32 31 0,l_ 33 32,m_ 34 0,n_ 35 34,f_ 36 35 1,l_ 37 36,c_ 38 .sub 37 1,i_ 39 33 38 1,L_ 40 39,o_ 41 (.cvt 0 .i64 (.t 40)),m_ 5 41] [30,31,32,33,34,35,36,37,38,39,40,41]) (.seq (r_ [m_ 42 0,m_ 43 5,m_ 44 1,b_ 45 .leq 43 44,o_ 46 (.call none 14 77 [.t 42,.t 45,Z_ 3])] [0,1,42,43,44,45,46]) (.seq (r_ [m_ 47 5,m_ 4 47] [5,47]) (.ret)))))))
set_option maxRecDepth 4000 in
theorem comp76:(Tryz.f76.body.bind fun c=>compC tab isP chkAll ir76 c)=some ir76:=by kernel_rfl
def cuV (LB:Xf.Loc) (n:Nat) (p e:Int):List SV:=[.sl 1 LB 1 0 n,.int .i64 p,.int .i64 e]
structure CkA where
 L:Xf.Loc
 LB:Xf.Loc
 b:List Int
 p:Int
 e:Int
 ok:Bool
 er:Int
def invCk:List SV->Look->Option (CkA×List Nat)
 | [.ptr c _ 0 0 0,.bool ok,.int .i64 er],look=>match rowC (look c)with
  | some (L,[.sl d LB 1 0 _,.int .i64 p,.int .i64 e])=>match rowI (look d)with
   | some (_,.u8,b)=>some (⟨L,LB,b,p,e,ok,er⟩,[c,d])
   | _=>none
  | _=>none
 | _,_=>none
attribute [push_cast] invCk
def fs77:FS where
 A:=CkA
 args:=fun a=>[.ptr 0 a.L 0 0 0,.bool a.ok,.int .i64 a.er]
 mem:=fun a=>[some (.lent,a.L,.cells (cuV a.LB a.b.length a.p a.e)),some (.ro,a.LB,.ints .u8 a.b)]
 res:=fun a _=>.tup []
 out:=fun a _=>[some (some (.cells (cuV a.LB a.b.length a.p (if a.e=0/\a.ok=false then a.er else a.e))))]
theorem ok77:FSOk Tryz.prog 77 fs77:=by
 refine hd_ (fk_ Tryz.func77) fun a hp=>?_
 obtain⟨L,LB,b,p,e,ok,er⟩:=a
 change Tri Tryz.prog 77 [.ptr 0 L 0 0 0,.bool ok,.int .i64 er] [some (.lent,L,.cells [.sl 1 LB 1 0 b.length,.int .i64 p,.int .i64 e]),some (.ro,LB,.ints .u8 b)] (postF fs77 ⟨L,LB,b,p,e,ok,er⟩)
 refine tri_evS (hyp (l:=[]) (lp:=[]) trivial trivial) Tryz.func77 comp77 (rs:=[]) (by rfl) Tryz.ntmps77 10 ?_
 by_cases he:e=0
 ·subst he
  cases ok with
  | true=>
   simp -implicitDefEqProofs only[push_cast,zz,seval,ir77]
   repeat refine om_ ?_
   refine postF.mk' (fun _=>default) [some 0,some 1] ?_
   simp -implicitDefEqProofs only[push_cast,zz,seval,fs77,cuV]
  | false=>
   simp -implicitDefEqProofs only[push_cast,zz,seval,ir77]
   repeat refine om_ ?_
   refine postF.mk' (fun _=>default) [some 0,some 1] ?_
   simp -implicitDefEqProofs only[push_cast,zz,seval,fs77,cuV]
 ·simp -implicitDefEqProofs only[push_cast,zz,seval,ir77,he]
  repeat refine om_ ?_
  refine postF.mk' (fun _=>default) [some 0,some 1] ?_
  simp -implicitDefEqProofs only[push_cast,zz,seval,fs77,cuV,he,false_and,if_false]
def ent77:Entry:=spOf fs77 invCk
theorem e77:EntryOk Tryz.prog 77 ent77:=entry_of ok77 invCk
@[push_cast] theorem ent77_a u l x k:ent77 u l x k=spOf fs77 invCk u l x k:=rfl
structure CuA where
 L:Xf.Loc
 LB:Xf.Loc
 b:List Int
 p:Int
 e:Int
 m:Int
def invCu:List SV->Look->Option (CuA×List Nat)
 | [.ptr c _ 0 0 0,.int .i64 m],look=>match rowC (look c)with
  | some (L,[.sl d LB 1 0 _,.int .i64 p,.int .i64 e])=>match rowI (look d)with
   | some (_,.u8,b)=>some (⟨L,LB,b,p,e,m⟩,[c,d])
   | _=>none
  | _=>none
 | _,_=>none
attribute [push_cast] invCu
def CuA.pre (a:CuA):Prop:=a.b.length<=140737488355328/\byB a.b/\0<=a.p/\a.p<=a.b.length
def fs75:FS where
 A:=CuA
 args:=fun a=>[.ptr 0 a.L 0 0 0,.int .i64 a.m]
 mem:=fun a=>[some (.lent,a.L,.cells (cuV a.LB a.b.length a.p a.e)),some (.ro,a.LB,.ints .u8 a.b)]
 pre:=fun a=>a.pre
 res:=fun a _=>.int .i64 (csz a.b a.m a.p a.e).1
 out:=fun a _=>[some (some (.cells (cuV a.LB a.b.length (csz a.b a.m a.p a.e).2.1 (csz a.b a.m a.p a.e).2.2)))]
set_option maxHeartbeats 1000000 in
theorem ok75:FSOk Tryz.prog 75 fs75:=by
 refine hd_ (fk_ Tryz.func75) fun a hp=>?_
 obtain⟨L,LB,b,p,e,m⟩:=a
 obtain⟨hl,hb,p0,p1⟩:b.length<=140737488355328/\byB b/\0<=p/\p<=b.length:=hp
 change Tri Tryz.prog 75 [.ptr 0 L 0 0 0,.int .i64 m] [some (.lent,L,.cells [.sl 1 LB 1 0 b.length,.int .i64 p,.int .i64 e]),some (.ro,LB,.ints .u8 b)] (postF fs75 ⟨L,LB,b,p,e,m⟩)
 refine tri_evS (hyp (l:=[(142,ent142),(77,ent77)]) (lp:=[]) ⟨e142,e77,trivial⟩ trivial) Tryz.func75 comp75 (rs:=[.tmp 4]) (by rfl) Tryz.ntmps75 22 ?_
 have hg:=gtP_ok b p
 by_cases he:e=0
 ·subst he
  have hc:csz b m p 0=((gtP b p).1,(gtP b p).2.1,if (gtP b p).2.2=0 then (if (gtP b p).1<=m then 0 else 3)else (gtP b p).2.2):=if_pos rfl
  obtain⟨⟨n,q,er⟩,hR⟩:∃ R,gtP b p=R:=⟨_,rfl⟩
  rw[hR]at hg hc
  simp only at hc
  obtain⟨g1,g2,g3,g4,g5,g6,g7⟩:=hg
  simp only at g1 g2 g3 g4 g5 g6 g7
  by_cases h0:er=0
  ·subst h0
   by_cases h1:n<=m
   ·rw[if_pos rfl,if_pos h1]at hc
    simp -implicitDefEqProofs only[push_cast,zz,seval,ir75,fs142,fs77,cuV,hl,hb,hR,h1]
    repeat refine om_ ?_
    refine postF.mk' (fun _=>default) [some 0,some 1] ?_
    simp -implicitDefEqProofs only[push_cast,zz,seval,fs75,cuV,hc]
   ·rw[if_pos rfl,if_neg h1]at hc
    simp -implicitDefEqProofs only[push_cast,zz,seval,ir75,fs142,fs77,cuV,hl,hb,hR,h1]
    repeat refine om_ ?_
    refine postF.mk' (fun _=>default) [some 0,some 1] ?_
    simp -implicitDefEqProofs only[push_cast,zz,seval,fs75,cuV,hc]
  ·rw[if_neg h0]at hc
   simp -implicitDefEqProofs only[push_cast,zz,seval,ir75,fs142,fs77,cuV,hl,hb,hR,h0]
   repeat refine om_ ?_
   refine postF.mk' (fun _=>default) [some 0,some 1] ?_
   simp -implicitDefEqProofs only[push_cast,zz,seval,fs75,cuV,hc,false_and,if_false]
 ·have hc:csz b m p e=(0,p,e):=if_neg he
  simp -implicitDefEqProofs only[push_cast,zz,seval,ir75,he]
  repeat refine om_ ?_
  refine postF.mk' (fun _=>default) [some 0,some 1] ?_
  simp -implicitDefEqProofs only[push_cast,zz,seval,fs75,cuV,hc]
def ent75:Entry:=spOf fs75 invCu
theorem e75:EntryOk Tryz.prog 75 ent75:=entry_of ok75 invCu
@[push_cast] theorem ent75_a u l x k:ent75 u l x k=spOf fs75 invCu u l x k:=rfl
def fs76:FS where
 A:=CuA
 args:=fun a=>[.ptr 0 a.L 0 0 0,.int .i64 a.m]
 mem:=fun a=>[some (.lent,a.L,.cells (cuV a.LB a.b.length a.p a.e)),some (.ro,a.LB,.ints .u8 a.b)]
 pre:=fun a=>a.pre
 res:=fun a _=>.int .i64 (cby a.b a.m a.p a.e).1
 out:=fun a _=>[some (some (.cells (cuV a.LB a.b.length (cby a.b a.m a.p a.e).2.1 (cby a.b a.m a.p a.e).2.2)))]
set_option maxHeartbeats 1000000 in
theorem ok76:FSOk Tryz.prog 76 fs76:=by
 refine hd_ (fk_ Tryz.func76) fun a hp=>?_
 obtain⟨L,LB,b,p,e,m⟩:=a
 obtain⟨hl,hb,p0,p1⟩:b.length<=140737488355328/\byB b/\0<=p/\p<=b.length:=hp
 change Tri Tryz.prog 76 [.ptr 0 L 0 0 0,.int .i64 m] [some (.lent,L,.cells [.sl 1 LB 1 0 b.length,.int .i64 p,.int .i64 e]),some (.ro,LB,.ints .u8 b)] (postF fs76 ⟨L,LB,b,p,e,m⟩)
 refine tri_evS (hyp (l:=[(77,ent77)]) (lp:=[]) ⟨e77,trivial⟩ trivial) Tryz.func76 comp76 (rs:=[.tmp 4]) (by rfl) Tryz.ntmps76 18 ?_
 have hr:=rd_byte hb p
 obtain⟨n,hn⟩:∃ n,rd b p=n:=⟨_,rfl⟩
 have hps:p+1-1=p:=by omega
 have hc:cby b m p e=if e=0 then (if p<b.length then (rd b p,p+1,if rd b p<=m then 0 else 3)else (0,p,6))else (0,p,e):=rfl
 rw[hn]at hr hc
 by_cases he:e=0
 ·subst he
  rw[if_pos rfl]at hc
  by_cases h0:p<b.length
  ·rw[if_pos h0]at hc
   by_cases h1:n<=m
   ·rw[if_pos h1]at hc
    simp -implicitDefEqProofs only[push_cast,zz,seval,ir76,fs77,cuV,hl,hps,hn,h0,h1]
    repeat refine om_ ?_
    refine postF.mk' (fun _=>default) [some 0,some 1] ?_
    simp -implicitDefEqProofs only[push_cast,zz,seval,fs76,cuV,hc]
   ·rw[if_neg h1]at hc
    simp -implicitDefEqProofs only[push_cast,zz,seval,ir76,fs77,cuV,hl,hps,hn,h0,h1]
    repeat refine om_ ?_
    refine postF.mk' (fun _=>default) [some 0,some 1] ?_
    simp -implicitDefEqProofs only[push_cast,zz,seval,fs76,cuV,hc]
  ·rw[if_neg h0]at hc
   simp -implicitDefEqProofs only[push_cast,zz,seval,ir76,fs77,cuV,hl,h0]
   repeat refine om_ ?_
   refine postF.mk' (fun _=>default) [some 0,some 1] ?_
   simp -implicitDefEqProofs only[push_cast,zz,seval,fs76,cuV,hc]
 ·rw[if_neg he]at hc
  by_cases h0:p<b.length
  ·simp -implicitDefEqProofs only[push_cast,zz,seval,ir76,fs77,cuV,hl,he,h0]
   repeat refine om_ ?_
   refine postF.mk' (fun _=>default) [some 0,some 1] ?_
   simp -implicitDefEqProofs only[push_cast,zz,seval,fs76,cuV,hc]
  ·simp -implicitDefEqProofs only[push_cast,zz,seval,ir76,fs77,cuV,hl,he,h0]
   repeat refine om_ ?_
   refine postF.mk' (fun _=>default) [some 0,some 1] ?_
   simp -implicitDefEqProofs only[push_cast,zz,seval,fs76,cuV,hc]
def ent76:Entry:=spOf fs76 invCu
theorem e76:EntryOk Tryz.prog 76 ent76:=entry_of ok76 invCu
@[push_cast] theorem ent76_a u l x k:ent76 u l x k=spOf fs76 invCu u l x k:=rfl
def ir24:IR:=
 .seq (r_ [z_ 2 0,z_ 3 0,o_ 4 (.alloc 10 [y_,y_,y_,.bool false,.bool false,y_]),o_ 5 (.allocI 11 .i64 3),z_ 6 0] [2,3,6]) (.seq (r_ [m_ 13 0,o_ 14 (.build [nilSV,y_,y_] [(0,1,.t 13)]),o_ 15 (.box 12 (.t 14)),m_ 7 15] [13,14,15]) (.seq (r_ [m_ 16 7,o_ 17 (.call none 13 75 [.t 16,Z_ 2147483647]),m_ 18 7,o_ 19 (.call none 17 75 [.t 18,Z_ 2147483647]),m_ 8 17,m_ 9 19] [16,17,18,19]) (.seq (r_ [m_ 20 7,o_ 21 (.call none 21 76 [.t 20,Z_ 15]),m_ 10 21] [20,21]) (.seq (r_ [m_ 22 10,c_ 23 .and 22 1,m_ 24 10,o_ 25 (.bin 0 .shr (.t 24) (.k (.int .u64 1))),c_ 26 .and 25 1,m_ 27 10,c_ 28 .and 27 4,c_ 29 .neq 28 0,m_ 30 10,c_ 31 .and 30 8,c_ 32 .neq 31 0,o_ 33 (.build [y_,y_,y_,.bool false,.bool false,y_] [(0,1,.t 23),(2,1,.t 26),(3,1,.t 29),(4,1,.t 32)]),o_ 11 (.alloc 25 [y_,y_,y_,.bool false,.bool false,y_]),s_ 6 .i64 11 33] [10,22,23,24,25,26,27,28,29,30,31,32,33]) (.seq (r_ [m_ 34 7,o_ 35 (.call none 26 76 [.t 34,Z_ 6]),f_ 36 11 1,s_ 1 .i64 36 35] [34,35,36]) (.seq (r_ [m_ 37 7,o_ 38 (.call none 30 75 [.t 37,Z_ 25]),f_ 39 11 5,s_ 1 .i64 39 38] [37,38,39]) (.seq (r_ [o_ 12 (.allocI 34 .i64 3)] []) (.seq (r_ [m_ 40 7,o_ 41 (.call none 35 75 [.t 40,Z_ 25]),o_ 42 (.idxP (.t 12) (Z_ 0) 3 1),S_ 1 .i64 42 41] [40,41,42]) (.seq (.seq (r_ [f_ 43 11 3,l_ 44 43,o_ 45 (.not (.t 44))] [43,44]) (.cond (.t 45) (r_ [m_ 46 7,o_ 47 (.call none 39 75 [.t 46,Z_ 25]),m_ 48 7,o_ 49 (.call none 43 75 [.t 48,Z_ 25]),o_ 50 (.idxP (.t 12) (Z_ 1) 3 1),S_ 1 .i64 50 47,o_ 51 (.idxP (.t 12) (Z_ 2) 3 1),S_ 1 .i64 51 49] [45,46,47,48,49,50,51]) (.skip))) (.seq (r_ [m_ 52 7,m_ 53 7,n_ 54 53,f_ 55 54 1,l_ 56 55,m_ 57 0,h_ 58 57,b_ 59 .eql 56 58,o_ 60 (.call none 47 77 [.t 52,.t 59,Z_ 3])] [0,45,52,53,54,55,56,57,58,59,60]) (.seq (.seq (r_ [m_ 61 7,n_ 62 61,f_ 63 62 2,l_ 64 63,c_ 65 .neq 64 0] [61,62,63,64]) (.cond (.t 65) (.seq (R_ [o_ 66 (.build [y_,y_,y_,.bool false,.bool false,y_] []),o_ 67 (.build [y_,y_,y_] []),m_ 68 7,n_ 69 68,f_ 70 69 2,⟨some 71,none,⟨[10],[]⟩,.ld false none 0 0 (.t 70)⟩,z_ 2 0,z_ 3 0,⟨none,none,⟨[],[10]⟩,.sto false 6 .i64 (.t 4) (.t 66)⟩,S_ 3 .i64 5 67,m_ 6 71] [7,8,9,11,12,65,66,67,68,69,70,71]) (.ret)) (.skip))) (.seq (R_ [m_ 72 8,m_ 73 9,o_ 74 (.ld false (some 6) 0 0 (.t 11)),o_ 75 (.ld true (some 3) 0 0 (.t 12)),m_ 2 72,m_ 3 73,s_ 6 .i64 4 74,S_ 3 .i64 5 75,z_ 6 0] [7,8,9,11,12,65,72,73,74,75]) (.ret)))))))))))))
set_option maxRecDepth 4000 in
theorem comp24:(Tryz.f24.body.bind fun c=>compC tab isP chkAll ir24 c)=some ir24:=by kernel_rfl
theorem anq_tab:∀ m:Fin 256,bitop .and .i64 ((m.val:Nat):Int) 1=((m.val % 2:Nat):Int)/\bitop .and .i64 ((m.val:Nat):Int) 4=((m.val / 4 % 2*4:Nat):Int)/\bitop .and .i64 ((m.val:Nat):Int) 8=((m.val / 8 % 2*8:Nat):Int):=by decide +kernel
theorem anq_1 {n:Int} (h0:0<=n) (h1:n<256):bitop .and .i64 n 1=n % 2:=by
 have:=(anq_tab ⟨n.toNat,by omega⟩).1
 simp only at this
 rw[show((n.toNat:Nat):Int)=n by omega]at this
 omega
theorem anq_4 {n:Int} (h0:0<=n) (h1:n<256):bitop .and .i64 n 4=n / 4 % 2*4:=by
 have:=(anq_tab ⟨n.toNat,by omega⟩).2.1
 simp only at this
 rw[show((n.toNat:Nat):Int)=n by omega]at this
 omega
theorem anq_8 {n:Int} (h0:0<=n) (h1:n<256):bitop .and .i64 n 8=n / 8 % 2*8:=by
 have:=(anq_tab ⟨n.toNat,by omega⟩).2.2
 simp only at this
 rw[show((n.toNat:Nat):Int)=n by omega]at this
 omega
structure HdA where
 L:Xf.Loc
 b:List Int
def invHd:List SV->Look->Option (HdA×List Nat)
 | [.sl c _ 1 0 _],look=>match rowI (lkZ look (.ints .u8 []) c)with
  | some (L,.u8,b)=>some (⟨L,b⟩,[c])
  | _=>none
 | _,_=>none
attribute [push_cast] invHd
def fs24:FS where
 A:=HdA
 args:=fun a=>[.sl 0 a.L 1 0 a.b.length]
 mem:=fun a=>[some (.ro,a.L,.ints .u8 a.b)]
 pre:=fun a=>a.b.length<=140737488355328/\byB a.b
 res:=fun a _=>.tup [.int .i64 (hdP a.b).w,.int .i64 (hdP a.b).h,(hdP a.b).s.sv,.agg [.int .i64 (hdP a.b).a,.int .i64 (hdP a.b).b,.int .i64 (hdP a.b).c],.int .i64 (hdE a.b)]
theorem dec_4 (x:Int) (h:x=0∨x=1):(!decide (x*4=0))=decide (x=1):=by rcases h with rfl | rfl<;>rfl
theorem dec_8 (x:Int) (h:x=0∨x=1):(!decide (x*8=0))=decide (x=1):=by rcases h with rfl | rfl<;>rfl
set_option maxRecDepth 4000 in
set_option maxHeartbeats 2000000 in
theorem ok24:FSOk Tryz.prog 24 fs24:=by
 refine hd_ (fk_ Tryz.func24) fun a hp=>?_
 obtain⟨L,b⟩:=a
 obtain⟨hl,hb⟩:b.length<=140737488355328/\byB b:=hp
 change Tri Tryz.prog 24 [.sl 0 L 1 0 b.length] [some (.ro,L,.ints .u8 b)] (postF fs24 ⟨L,b⟩)
 refine tri_evS (hyp (l:=[(75,ent75),(76,ent76),(77,ent77)]) (lp:=[]) ⟨e75,e76,e77,trivial⟩ trivial) Tryz.func24 comp24 (rs:=[.tmp 2,.tmp 3,.cell 4 (some 6),.cell 5 (some 3),.tmp 6]) (by rfl) Tryz.ntmps24 51 ?_
 obtain⟨H,hH⟩:∃ H,hdP b=H:=⟨_,rfl⟩
 obtain⟨E,hE⟩:∃ H,hdE b=H:=⟨_,rfl⟩
 have dH:H=if hdE b=0 then ⟨(hz1 b).1,(hz2 b).1,⟨(hz3 b).1 % 2,(hz4 b).1,(hz3 b).1 / 2 % 2,hgr b,decide ((hz3 b).1 / 8 % 2=1),(hz5 b).1⟩,(hz6 b).1,(hz7 b).1,(hz8 b).1⟩else hd0:=hH.symm
 have dE:E=if (hz8 b).2.2=0 then (if (hz8 b).2.1=b.length then 0 else 3)else (hz8 b).2.2:=hE.symm
 rw[hE]at dH
 obtain⟨r1,r2,⟨r3,r3'⟩,⟨r4,r4'⟩,r5,r6,r7,r8⟩:=h_ok hb
 have d1:csz b 2147483647 0 0=hz1 b:=rfl
 have d2:csz b 2147483647 (hz1 b).2.1 (hz1 b).2.2=hz2 b:=rfl
 have d3:cby b 15 (hz2 b).2.1 (hz2 b).2.2=hz3 b:=rfl
 have d4:cby b 6 (hz3 b).2.1 (hz3 b).2.2=hz4 b:=rfl
 have d5:csz b 25 (hz4 b).2.1 (hz4 b).2.2=hz5 b:=rfl
 have d6:csz b 25 (hz5 b).2.1 (hz5 b).2.2=hz6 b:=rfl
 have d7:hz7 b=if hgr b=true then (0,(hz6 b).2.1,(hz6 b).2.2)else csz b 25 (hz6 b).2.1 (hz6 b).2.2:=rfl
 have d8:hz8 b=if hgr b=true then (0,(hz7 b).2.1,(hz7 b).2.2)else csz b 25 (hz7 b).2.1 (hz7 b).2.2:=rfl
 have dg:hgr b=decide ((hz3 b).1 / 4 % 2=1):=rfl
 obtain⟨G,hG⟩:∃ G,hgr b=G:=⟨_,rfl⟩
 rw[hG]at dH d7 d8 dg
 obtain⟨⟨n1,p1,e1⟩,q1⟩:∃ r,hz1 b=r:=⟨_,rfl⟩
 obtain⟨⟨n2,p2,e2⟩,q2⟩:∃ r,hz2 b=r:=⟨_,rfl⟩
 obtain⟨⟨n3,p3,e3⟩,q3⟩:∃ r,hz3 b=r:=⟨_,rfl⟩
 obtain⟨⟨n4,p4,e4⟩,q4⟩:∃ r,hz4 b=r:=⟨_,rfl⟩
 obtain⟨⟨n5,p5,e5⟩,q5⟩:∃ r,hz5 b=r:=⟨_,rfl⟩
 obtain⟨⟨n6,p6,e6⟩,q6⟩:∃ r,hz6 b=r:=⟨_,rfl⟩
 obtain⟨⟨n7,p7,e7⟩,q7⟩:∃ r,hz7 b=r:=⟨_,rfl⟩
 obtain⟨⟨n8,p8,e8⟩,q8⟩:∃ r,hz8 b=r:=⟨_,rfl⟩
 rw[q1]at r1 d1 d2 dH
 rw[q2]at r2 d2 d3 dH
 rw[q3]at r3 r3' d3 d4 dH dg
 rw[q4]at r4 r4' d4 d5 dH
 rw[q5]at r5 d5 d6 dH
 rw[q6]at r6 d6 d7 dH
 rw[q7]at r7 d7 d8 dH
 rw[q8]at r8 d8 dH dE
 clear q1 q2 q3 q4 q5 q6 q7 q8 hG
 simp only at d2 d3 d4 d5 d6 d7 d8 dg dH dE r3'
 have P0:∀ L LB e m,CuA.pre ⟨L,LB,b,0,e,m⟩:=fun _ _ _ _=>⟨hl,hb,Int.le_refl _,Int.natCast_nonneg _⟩
 have P1:∀ L LB e m,CuA.pre ⟨L,LB,b,p1,e,m⟩:=fun _ _ _ _=>⟨hl,hb,r1.2.1,r1.2.2.1⟩
 have P2:∀ L LB e m,CuA.pre ⟨L,LB,b,p2,e,m⟩:=fun _ _ _ _=>⟨hl,hb,r2.2.1,r2.2.2.1⟩
 have P3:∀ L LB e m,CuA.pre ⟨L,LB,b,p3,e,m⟩:=fun _ _ _ _=>⟨hl,hb,r3.2.1,r3.2.2.1⟩
 have P4:∀ L LB e m,CuA.pre ⟨L,LB,b,p4,e,m⟩:=fun _ _ _ _=>⟨hl,hb,r4.2.1,r4.2.2.1⟩
 have P5:∀ L LB e m,CuA.pre ⟨L,LB,b,p5,e,m⟩:=fun _ _ _ _=>⟨hl,hb,r5.2.1,r5.2.2.1⟩
 have P6:∀ L LB e m,CuA.pre ⟨L,LB,b,p6,e,m⟩:=fun _ _ _ _=>⟨hl,hb,r6.2.1,r6.2.2.1⟩
 have P7:∀ L LB e m,CuA.pre ⟨L,LB,b,p7,e,m⟩:=fun _ _ _ _=>⟨hl,hb,r7.2.1,r7.2.2.1⟩
 have n30:0<=n3:=r3.1
 have a1:=anq_1 n30 r3'
 have a2:=anq_1 (n:=n3 / 2) (by omega) (by omega)
 have a4:=anq_4 n30 r3'
 have a8:=anq_8 n30 r3'
 have g4:=dec_4 (n3 / 4 % 2) (by omega)
 have g8:=dec_8 (n3 / 8 % 2) (by omega)
 rw[<-dg]at g4
 obtain⟨F,hF⟩:∃ F,decide (n3 / 8 % 2=1)=F:=⟨_,rfl⟩
 rw[hF]at g8 dH
 obtain⟨x1,hx1⟩:∃ x,n3 / 4 % 2*4=x:=⟨_,rfl⟩
 obtain⟨x2,hx2⟩:∃ x,n3 / 8 % 2*8=x:=⟨_,rfl⟩
 rw[hx1]at a4 g4
 rw[hx2]at a8 g8
 have s3:∀ x y z w:Int,([x,y,z].set 0 w=[w,y,z]/\[x,y,z].set 1 w=[x,w,z])/\[x,y,z].set 2 w=[x,y,w]:=fun _ _ _ _=>⟨⟨rfl,rfl⟩,rfl⟩
 have t3:∀ x y z w:Int,([x,y,z].getD 0 w=x/\[x,y,z].getD 1 w=y)/\[x,y,z].getD 2 w=z:=fun _ _ _ _=>⟨⟨rfl,rfl⟩,rfl⟩
 cases G with
 | true=>
  rw[if_pos rfl]at d7 d8
  obtain⟨rfl,rfl,rfl⟩:n7=0/\p7=p6/\e7=e6:=by
   have:=d7
   simp only[Prod.mk.injEq]at this
   exact this
  obtain⟨rfl,rfl,rfl⟩:n8=0/\p8=p7/\e8=e7:=by
   have:=d8
   simp only[Prod.mk.injEq]at this
   exact this
  by_cases he:e8=0
  ·subst he
   rw[if_pos rfl]at dE
   by_cases hp:p8=b.length
   ·rw[if_pos hp]at dE
    subst dE
    rw[if_pos rfl]at dH
    subst dH
    simp -implicitDefEqProofs only[push_cast,zz,seval,ir24,fs75,fs76,fs77,cuV,P0,P1,P2,P3,P4,P5,P6,P7,d1,d2,d3,d4,d5,d6,a1,a2,a4,a8,g4,g8,s3,t3,hp]
    intro X X1 X2
    repeat refine om_ ?_
    intro X3
    repeat refine om_ ?_
    refine postF.mk' (fun _=>default) [some 0] ?_
    simp -implicitDefEqProofs only[push_cast,zz,seval,fs24,SyA.sv,hH,hE]
   ·rw[if_neg hp]at dE
    subst dE
    rw[if_neg (by decide)]at dH
    subst dH
    simp -implicitDefEqProofs only[push_cast,zz,seval,ir24,fs75,fs76,fs77,cuV,P0,P1,P2,P3,P4,P5,P6,P7,d1,d2,d3,d4,d5,d6,a1,a2,a4,a8,g4,g8,s3,t3,hp]
    intro X X1 X2
    repeat refine om_ ?_
    intro X3
    repeat refine om_ ?_
    refine postF.mk' (fun _=>default) [some 0] ?_
    simp -implicitDefEqProofs only[push_cast,zz,seval,fs24,SyA.sv,hH,hE,hd0]
  ·rw[if_neg he]at dE
   subst dE
   rw[if_neg he]at dH
   subst dH
   simp -implicitDefEqProofs only[push_cast,zz,seval,ir24,fs75,fs76,fs77,cuV,P0,P1,P2,P3,P4,P5,P6,P7,d1,d2,d3,d4,d5,d6,a1,a2,a4,a8,g4,g8,s3,t3,he,false_and,if_false]
   intro X X1 X2
   repeat refine om_ ?_
   intro X3
   repeat refine om_ ?_
   refine postF.mk' (fun _=>default) [some 0] ?_
   simp -implicitDefEqProofs only[push_cast,zz,seval,fs24,SyA.sv,hH,hE,hd0]
 | false=>
  rw[if_neg (by decide)]at d7 d8
  replace d7:=d7.symm
  replace d8:=d8.symm
  by_cases he:e8=0
  ·subst he
   rw[if_pos rfl]at dE
   by_cases hp:p8=b.length
   ·rw[if_pos hp]at dE
    subst dE
    rw[if_pos rfl]at dH
    subst dH
    simp -implicitDefEqProofs only[push_cast,zz,seval,ir24,fs75,fs76,fs77,cuV,P0,P1,P2,P3,P4,P5,P6,P7,d1,d2,d3,d4,d5,d6,d7,d8,a1,a2,a4,a8,g4,g8,s3,t3,hp]
    intro X X1 X2
    repeat refine om_ ?_
    intro X3
    repeat refine om_ ?_
    refine postF.mk' (fun _=>default) [some 0] ?_
    simp -implicitDefEqProofs only[push_cast,zz,seval,fs24,SyA.sv,hH,hE]
   ·rw[if_neg hp]at dE
    subst dE
    rw[if_neg (by decide)]at dH
    subst dH
    simp -implicitDefEqProofs only[push_cast,zz,seval,ir24,fs75,fs76,fs77,cuV,P0,P1,P2,P3,P4,P5,P6,P7,d1,d2,d3,d4,d5,d6,d7,d8,a1,a2,a4,a8,g4,g8,s3,t3,hp]
    intro X X1 X2
    repeat refine om_ ?_
    intro X3
    repeat refine om_ ?_
    refine postF.mk' (fun _=>default) [some 0] ?_
    simp -implicitDefEqProofs only[push_cast,zz,seval,fs24,SyA.sv,hH,hE,hd0]
  ·rw[if_neg he]at dE
   subst dE
   rw[if_neg he]at dH
   subst dH
   simp -implicitDefEqProofs only[push_cast,zz,seval,ir24,fs75,fs76,fs77,cuV,P0,P1,P2,P3,P4,P5,P6,P7,d1,d2,d3,d4,d5,d6,d7,d8,a1,a2,a4,a8,g4,g8,s3,t3,he,false_and,if_false]
   intro X X1 X2
   repeat refine om_ ?_
   intro X3
   repeat refine om_ ?_
   refine postF.mk' (fun _=>default) [some 0] ?_
   simp -implicitDefEqProofs only[push_cast,zz,seval,fs24,SyA.sv,hH,hE,hd0]
def ent24:Entry:=spOf fs24 invHd
theorem e24:EntryOk Tryz.prog 24 ent24:=entry_of ok24 invHd
@[push_cast] theorem ent24_a u l x k:ent24 u l x k=spOf fs24 invHd u l x k:=rfl
def ir118:IR:=
 .seq (r_ [m_ 6 0,o_ 7 (.call (some 4) 10 119 [.t 6]),m_ 5 7,e_ 8 5 0,e_ 9 5 1,m_ 3 8,m_ 4 9] [0,4,5,6,7,8,9]) (r_ [l_ 10 1,m_ 11 3,o_ 12 (.app 14 1 1 (.t 10) (.t 11)),s_ 1 .u8 1 12] [1,3,10,11,12])
set_option maxRecDepth 4000 in
theorem comp118:(Tryz.f118.body.bind fun c=>compC tab isP chkAll ir118 c)=some ir118:=by kernel_rfl
structure H1A where
 n:Int
 L:Xf.Loc
 o:Option (Xf.Loc×List Int)
def invH1:List SV->Look->Option (H1A×List Nat)
 | [.int .i64 n,.ptr c _ 0 0 0],look=>match rowC (look c)with
  | some (L,[.sl d _ 1 0 _])=>bif d==4096 then some (⟨n,L,none⟩,[c])else match rowI (look d)with
   | some (LO,.u8,l)=>some (⟨n,L,some (LO,l)⟩,[c,d])
   | _=>none
  | _=>none
 | _,_=>none
attribute [push_cast] invH1
def H1A.mem (a:H1A):Mem:=match a.o with
 | none=>[some (.lent,a.L,.cells [nilSV])]
 | some (LO,l)=>[some (.lent,a.L,.cells [.sl 1 LO 1 0 l.length]),some (.lent,LO,.ints .u8 l)]
def H1A.l (a:H1A):List Int:=match a.o with
 | none=>[]
 | some (_,l)=>l
def H1A.out (a:H1A) (x:Nat->Xf.Loc):List (Option (Option Chunk)):=match a.o with
 | none=>[some (some (.cells [.sl 1 (x 0) 1 0 (szL a.n).length]))]
 | some (LO,l)=>[some (some (.cells [.sl 2 (x 0) 1 0 (l++szL a.n).length])),some none]
def H1A.new (a:H1A) (x:Nat->Xf.Loc):List (Xf.Loc×Chunk):=match a.o with
 | none=>[(x 0,.ints .u8 (szL a.n))]
 | some (LO,l)=>[(x 0,.ints .u8 (l++szL a.n))]
attribute [push_cast] H1A.mem H1A.out H1A.new
def fs118:FS where
 A:=H1A
 args:=fun a=>[.int .i64 a.n,.ptr 0 a.L 0 0 0]
 mem:=fun a=>a.mem
 pre:=fun a=>0<=a.n/\a.n<16384/\a.l.length<=1000
 res:=fun a _=>.tup []
 out:=fun a x=>a.out x
 new:=fun a x=>a.new x
 newGot:=true
set_option maxHeartbeats 1000000 in
theorem ok118:FSOk Tryz.prog 118 fs118:=by
 refine⟨fk_ Tryz.func118,fun a=>?_,fun a hp=>?_⟩
 ·obtain⟨n,L,o⟩:=a
  cases o<;>exact⟨by simp[fs118,H1A.mem,push_cast,noMine,argOwn,Chunk.frArg],by simp[fs118,H1A.mem,H1A.out,push_cast,outOk,Chunk.ext],fun x=>.inl (by simp[fs118,H1A.new,H1A.out,push_cast,frNew,frOut,Chunk.fr])⟩
 obtain⟨n,L,o⟩:=a
 obtain⟨h0,h1,h2⟩:=hp
 simp only at h0 h1
 have hs:=szL_len n
 obtain⟨z,hz⟩:∃ z,szL n=z:=⟨_,rfl⟩
 rw[hz]at hs
 cases o with
 | none=>
  change Tri Tryz.prog 118 [.int .i64 n,.ptr 0 L 0 0 0] [some (.lent,L,.cells [nilSV])] (postF fs118 _)
  refine tri_evS (hyp (l:=[(119,ent119)]) (lp:=[]) ⟨e119,trivial⟩ trivial) Tryz.func118 comp118 (rs:=[]) (by rfl) Tryz.ntmps118 15 ?_
  simp -implicitDefEqProofs only[push_cast,zz,seval,ir118,fs119,h0,h1,hz]
  intro X
  repeat refine om_ ?_
  intro X1
  repeat refine om_ ?_
  refine postF.mk' (fun _=>X1 2 14) [some 0,some 14] ?_
  simp -implicitDefEqProofs only[push_cast,zz,seval,fs118,hz]
 | some q=>
  obtain⟨LO,l⟩:=q
  have h2:l.length<=1000:=h2
  change Tri Tryz.prog 118 [.int .i64 n,.ptr 0 L 0 0 0] [some (.lent,L,.cells [.sl 1 LO 1 0 l.length]),some (.lent,LO,.ints .u8 l)] (postF fs118 _)
  refine tri_evS (hyp (l:=[(119,ent119)]) (lp:=[]) ⟨e119,trivial⟩ trivial) Tryz.func118 comp118 (rs:=[]) (by rfl) Tryz.ntmps118 15 ?_
  simp -implicitDefEqProofs only[push_cast,zz,seval,ir118,fs119,h0,h1,hz]
  intro X
  repeat refine om_ ?_
  intro X1
  repeat refine om_ ?_
  refine postF.mk' (fun _=>X1 2 14) [some 0,none,some 14] ?_
  simp -implicitDefEqProofs only[push_cast,zz,seval,fs118,hz,List.length_append]
def ent118:Entry:=spOf fs118 invH1
theorem e118:EntryOk Tryz.prog 118 ent118:=entry_of ok118 invH1
@[push_cast] theorem ent118_a u l x k:ent118 u l x k=spOf fs118 invH1 u l x k:=rfl
theorem allVal_rd {xs:List Int}:AllVal xs↔∀ j:Nat,j<xs.length->ValOk (rd xs j):=by
 unfold AllVal
 constructor
 ·intro h j hj;rw[rd_lt xs j hj];exact h _ (List.getElem_mem hj)
 ·intro h x hx
  obtain⟨j,hj,rfl⟩:=List.getElem_of_mem hx
  have:=h j hj
  rwa [rd_lt xs j hj]at this
def b20_1:IR:=
 .seq (.seq (r_ [m_ 47 5,f_ 48 2 2,l_ 49 48,h_ 50 49,b_ 51 .lss 47 50] [47,48,49,50]) (.cond (.t 51) (.skip) (.exit 0))) (.seq (.block 1 (.seq (R_ [f_ 54 2 2,l_ 55 54,m_ 56 5,i_ 57 55 56 1,L_ 58 57,f_ 59 3 2,l_ 60 59,m_ 61 5,i_ 62 60 61 1,L_ 63 62,b_ 64 .neq 58 63] [51,54,55,56,57,58,59,60,61,62,63]) (.cond (.t 64) (.seq (r_ [o_ 4 (.mov (.k (.bool false)))] [2,3,5,64]) (.ret)) (.skip)))) (r_ [m_ 52 5,a_ 53 52 1,m_ 5 53] [4,52,53,64]))
def b20_2:IR:=
 .seq (.seq (r_ [m_ 65 6,f_ 66 2 3,l_ 67 66,h_ 68 67,b_ 69 .lss 65 68] [65,66,67,68]) (.cond (.t 69) (.skip) (.exit 2))) (.seq (.block 3 (.seq (R_ [f_ 72 2 3,l_ 73 72,m_ 74 6,i_ 75 73 74 1,L_ 76 75,f_ 77 3 3,l_ 78 77,m_ 79 6,i_ 80 78 79 1,L_ 81 80,b_ 82 .neq 76 81] [69,72,73,74,75,76,77,78,79,80,81]) (.cond (.t 82) (.seq (r_ [o_ 4 (.mov (.k (.bool false)))] [2,3,6,82]) (.ret)) (.skip)))) (r_ [m_ 70 6,a_ 71 70 1,m_ 6 71] [4,70,71,82]))
def b20_3:IR:=
 .seq (.seq (r_ [m_ 83 7,f_ 84 2 4,l_ 85 84,h_ 86 85,b_ 87 .lss 83 86] [83,84,85,86]) (.cond (.t 87) (.skip) (.exit 4))) (.seq (.block 5 (.seq (R_ [f_ 90 2 4,l_ 91 90,m_ 92 7,i_ 93 91 92 1,L_ 94 93,f_ 95 3 4,l_ 96 95,m_ 97 7,i_ 98 96 97 1,L_ 99 98,b_ 100 .neq 94 99] [87,90,91,92,93,94,95,96,97,98,99]) (.cond (.t 100) (.seq (r_ [o_ 4 (.mov (.k (.bool false)))] [2,3,7,100]) (.ret)) (.skip)))) (r_ [m_ 88 7,a_ 89 88 1,m_ 7 89] [4,88,89,100]))
def r20_4:IR:=
 .seq (r_ [o_ 4 (.mov (.k (.bool true)))] [2,3,7]) (.ret)
def r20_5:IR:=
 .seq (.seq (r_ [z_ 7 0] [6]) (.block 4 (.loop b20_3))) (r20_4)
def r20_6:IR:=
 .seq (.seq (r_ [z_ 6 0] [5]) (.block 2 (.loop b20_2))) (r20_5)
def ir20:IR:=
 .seq (r_ [o_ 2 (.box 10 (.t 0)),o_ 3 (.box 11 (.t 1)),o_ 4 (.mov (.k (.bool false)))] [0,1,4]) (.seq (.seq (r_ [f_ 8 2 0,l_ 9 8,f_ 10 3 0,l_ 11 10,b_ 12 .neq 9 11,m_ 13 12,q_ 13 (f_ 14 2 1),q_ 13 (l_ 15 14),q_ 13 (f_ 16 3 1),q_ 13 (l_ 17 16),q_ 13 (b_ 18 .neq 15 17),k_ 19 13 18,m_ 20 19,q_ 20 (f_ 21 2 2),q_ 20 (l_ 22 21),q_ 20 (h_ 23 22),q_ 20 (f_ 24 3 2),q_ 20 (l_ 25 24),q_ 20 (h_ 26 25),q_ 20 (b_ 27 .neq 23 26),k_ 28 20 27,m_ 29 28,q_ 29 (f_ 30 2 3),q_ 29 (l_ 31 30),q_ 29 (h_ 32 31),q_ 29 (f_ 33 3 3),q_ 29 (l_ 34 33),q_ 29 (h_ 35 34),q_ 29 (b_ 36 .neq 32 35),k_ 37 29 36,m_ 38 37,q_ 38 (f_ 39 2 4),q_ 38 (l_ 40 39),q_ 38 (h_ 41 40),q_ 38 (f_ 42 3 4),q_ 38 (l_ 43 42),q_ 38 (h_ 44 43),q_ 38 (b_ 45 .neq 41 44),k_ 46 38 45] [8,9,10,11,12,13,14,15,16,17,18,19,20,21,22,23,24,25,26,27,28,29,30,31,32,33,34,35,36,37,38,39,40,41,42,43,44,45]) (.cond (.t 46) (.seq (r_ [o_ 4 (.mov (.k (.bool false)))] [2,3,46]) (.ret)) (.skip))) (.seq (.seq (r_ [z_ 5 0] [4,46]) (.block 0 (.loop b20_1))) (r20_6)))
set_option maxRecDepth 4000 in
theorem comp20:(Tryz.f20.body.bind fun c=>compC tab isP chkAll ir20 c)=some ir20:=by kernel_rfl
def Im.Eq (a b:Im):Prop:=a.w=b.w/\a.h=b.h/\a.R=b.R/\a.G=b.G/\a.B=b.B
instance (a b:Im):Decidable (a.Eq b):=by unfold Im.Eq;infer_instance
theorem Im.Eq.refl (a:Im):a.Eq a:=⟨rfl,rfl,rfl,rfl,rfl⟩
structure Im2 where
 a:ImA
 b:ImA
def fs20:FS where
 A:=Im2
 args:=fun a=>[imV a.a.i a.a.L1 a.a.L2 a.a.L3 0,imV a.b.i a.b.L1 a.b.L2 a.b.L3 3]
 mem:=fun a=>[some (.ro,a.a.L1,.ints .i64 a.a.i.R),some (.ro,a.a.L2,.ints .i64 a.a.i.G),some (.ro,a.a.L3,.ints .i64 a.a.i.B),some (.ro,a.b.L1,.ints .i64 a.b.i.R),some (.ro,a.b.L2,.ints .i64 a.b.i.G),some (.ro,a.b.L3,.ints .i64 a.b.i.B)]
 pre:=fun a=>a.a.i.small/\a.b.i.small
 res:=fun a _=>.bool (decide (a.a.i.Eq a.b.i))
def inv20:List SV->Look->Option (Im2×List Nat)
 | [v,u],look=>match getI look v,getI look u with
  | some (a,g),some (b,g')=>some (⟨a,b⟩,g++g')
  | _,_=>none
 | _,_=>none
attribute [push_cast] inv20
def M20 (w h w' h':Int) (R G B R' G' B':List Int) (L1 L2 L3 M1 M2 M3 L0 L0':Xf.Loc):Mem:=
 mkM 18 [(0,.ro,L1,.ints .i64 R),(1,.ro,L2,.ints .i64 G),(2,.ro,L3,.ints .i64 B),(3,.ro,M1,.ints .i64 R'),(4,.ro,M2,.ints .i64 G'),(5,.ro,M3,.ints .i64 B'),
  (10,.mine,L0,.cells [.int .i64 w,.int .i64 h,.sl 0 L1 1 0 R.length,.sl 1 L2 1 0 G.length,.sl 2 L3 1 0 B.length]),(11,.mine,L0',.cells [.int .i64 w',.int .i64 h',.sl 3 M1 1 0 R'.length,.sl 4 M2 1 0 G'.length,.sl 5 M3 1 0 B'.length])]
def lp20 (t:Nat) (xs ys:List Int) (m:Mem) (L0 L0':Xf.Loc):LoopS where
 A:=Nat
 I:=fun i=>(mkS 101 [(2,.ptr 10 L0 0 0 0),(3,.ptr 11 L0' 0 0 0),(t,.int .i64 i)],m)
 R:=fun i=>i<=xs.length/\∀ j,j<i->rd xs (j:Nat)=rd ys (j:Nat)
 mu:=fun i=>xs.length-i
theorem ok20:FSOk Tryz.prog 20 fs20:=by
 refine hd_ (fk_ Tryz.func20) fun a hp=>?_
 obtain⟨⟨⟨w,h,R,G,B⟩,L1,L2,L3⟩,⟨⟨w',h',R',G',B'⟩,M1,M2,M3⟩⟩:=a
 obtain⟨⟨s1,s2,s3⟩,s4,s5,s6⟩:=hp
 simp only at s1 s2 s3 s4 s5 s6
 change Tri Tryz.prog 20 [imV ⟨w,h,R,G,B⟩ L1 L2 L3 0,imV ⟨w',h',R',G',B'⟩ M1 M2 M3 3] [some (.ro,L1,.ints .i64 R),some (.ro,L2,.ints .i64 G),some (.ro,L3,.ints .i64 B),some (.ro,M1,.ints .i64 R'),some (.ro,M2,.ints .i64 G'),some (.ro,M3,.ints .i64 B')] (postF fs20 ⟨⟨⟨w,h,R,G,B⟩,L1,L2,L3⟩,⟨⟨w',h',R',G',B'⟩,M1,M2,M3⟩⟩)
 refine tri_evS (hyp (l:=[]) (lp:=[]) trivial trivial) Tryz.func20 comp20 (rs:=[.tmp 4]) (by rfl) Tryz.ntmps20 12 ?_
 simp -implicitDefEqProofs only[push_cast,zz,seval,ir20]
 intro X
 refine⟨fun hn=>?_,fun hy=>?_⟩
 ·have e:¬ (⟨w,h,R,G,B⟩:Im).Eq ⟨w',h',R',G',B'⟩:=fun H=>by
   obtain⟨a,b,c,d,f⟩:=H
   simp only at a b c d f
   subst a b c d f
   simp at hn
  refine postF.mk' (fun _=>default) [some 0,some 1,some 2,some 3,some 4,some 5] ?_
  simp -implicitDefEqProofs only[push_cast,zz,seval,fs20,e,decide_false]
 obtain⟨q1,q2,q3,q4,q5⟩:w=w'/\h=h'/\R.length=R'.length/\G.length=G'.length/\B.length=B'.length:=by omega
 refine evS_loop _ _ _ (lp20 5 R R' (M20 w h w' h' R G B R' G' B' L1 L2 L3 M1 M2 M3 (X 0 10) (X 1 11)) (X 0 10) (X 1 11)) (0:Nat) ⟨Nat.zero_le _,fun j hj=>absurd hj (Nat.not_lt_zero _)⟩ ?_ ?_
 ·change Sub _ _ ((lp20 5 R R' (M20 w h w' h' R G B R' G' B' L1 L2 L3 M1 M2 M3 (X 0 10) (X 1 11)) (X 0 10) (X 1 11)).I (0:Nat)).1 ((lp20 5 R R' (M20 w h w' h' R G B R' G' B' L1 L2 L3 M1 M2 M3 (X 0 10) (X 1 11)) (X 0 10) (X 1 11)).I (0:Nat)).2
  refine Sub.of (mkG 18 [(0,0),(1,1),(2,2),(3,3),(4,4),(5,5),(10,10),(11,11)]) ?_
  simp -implicitDefEqProofs only[push_cast,zz,seval,lp20,M20]
 intro (i:Nat) ⟨(hi:i<=R.length),(hj:∀ j,j<i->rd R (j:Nat)=rd R' (j:Nat))⟩
 change evS _ _ _ _ (mkS 101 [(2,.ptr 10 (X 0 10) 0 0 0),(3,.ptr 11 (X 1 11) 0 0 0),(5,.int .i64 i)]) (M20 w h w' h' R G B R' G' B' L1 L2 L3 M1 M2 M3 (X 0 10) (X 1 11))
 simp -implicitDefEqProofs only[push_cast,zz,seval,M20,b20_1,r20_6]
 refine⟨fun hl=>⟨by omega,by omega,by omega,by omega,by omega,by omega,by omega,by omega,fun hb=>?_,fun hg=>⟨by omega,by omega,?_⟩⟩,fun hl=>?_⟩
 ·have e:¬ (⟨w,h,R,G,B⟩:Im).Eq ⟨w',h',R',G',B'⟩:=fun H=>by
   obtain⟨a,b,c,d,f⟩:=H
   simp only at a b c d f
   subst a b c d f
   simp at hb
  refine postF.mk' (fun _=>default) [some 0,some 1,some 2,some 3,some 4,some 5] ?_
  simp -implicitDefEqProofs only[push_cast,zz,seval,fs20,e,decide_false]
 ·refine lpK_mk (i+1:Nat) ⟨by omega,fun j h=>?_⟩ (show R.length-(i+1)<R.length-i by omega) ?_
  ·by_cases e:j=i
   ·subst e;exact hg
   ·exact hj j (by omega)
  ·change Sub _ _ ((lp20 5 R R' (M20 w h w' h' R G B R' G' B' L1 L2 L3 M1 M2 M3 (X 0 10) (X 1 11)) (X 0 10) (X 1 11)).I (i+1:Nat)).1 ((lp20 5 R R' (M20 w h w' h' R G B R' G' B' L1 L2 L3 M1 M2 M3 (X 0 10) (X 1 11)) (X 0 10) (X 1 11)).I (i+1:Nat)).2
   simp -implicitDefEqProofs only[push_cast,zz,seval,lp20,M20]
   exact Sub.refl _ _
 have eqR:R=R':=eq_of_rd q3 fun j h=>hj j (by omega)
 clear hj
 refine evS_loop _ _ _ (lp20 6 G G' (M20 w h w' h' R G B R' G' B' L1 L2 L3 M1 M2 M3 (X 0 10) (X 1 11)) (X 0 10) (X 1 11)) (0:Nat) ⟨Nat.zero_le _,fun j hj=>absurd hj (Nat.not_lt_zero _)⟩ ?_ ?_
 ·change Sub _ _ ((lp20 6 G G' (M20 w h w' h' R G B R' G' B' L1 L2 L3 M1 M2 M3 (X 0 10) (X 1 11)) (X 0 10) (X 1 11)).I (0:Nat)).1 ((lp20 6 G G' (M20 w h w' h' R G B R' G' B' L1 L2 L3 M1 M2 M3 (X 0 10) (X 1 11)) (X 0 10) (X 1 11)).I (0:Nat)).2
  refine Sub.of (mkG 18 [(0,0),(1,1),(2,2),(3,3),(4,4),(5,5),(10,10),(11,11)]) ?_
  simp -implicitDefEqProofs only[push_cast,zz,seval,lp20,M20]
 intro (i:Nat) ⟨(hi:i<=G.length),(hj:∀ j,j<i->rd G (j:Nat)=rd G' (j:Nat))⟩
 change evS _ _ _ _ (mkS 101 [(2,.ptr 10 (X 0 10) 0 0 0),(3,.ptr 11 (X 1 11) 0 0 0),(6,.int .i64 i)]) (M20 w h w' h' R G B R' G' B' L1 L2 L3 M1 M2 M3 (X 0 10) (X 1 11))
 simp -implicitDefEqProofs only[push_cast,zz,seval,M20,b20_2,r20_5]
 refine⟨fun hl=>⟨by omega,by omega,by omega,by omega,by omega,by omega,by omega,by omega,fun hb=>?_,fun hg=>⟨by omega,by omega,?_⟩⟩,fun hl=>?_⟩
 ·have e:¬ (⟨w,h,R,G,B⟩:Im).Eq ⟨w',h',R',G',B'⟩:=fun H=>by
   obtain⟨a,b,c,d,f⟩:=H
   simp only at a b c d f
   subst a b c d f
   simp at hb
  refine postF.mk' (fun _=>default) [some 0,some 1,some 2,some 3,some 4,some 5] ?_
  simp -implicitDefEqProofs only[push_cast,zz,seval,fs20,e,decide_false]
 ·refine lpK_mk (i+1:Nat) ⟨by omega,fun j h=>?_⟩ (show G.length-(i+1)<G.length-i by omega) ?_
  ·by_cases e:j=i
   ·subst e;exact hg
   ·exact hj j (by omega)
  ·change Sub _ _ ((lp20 6 G G' (M20 w h w' h' R G B R' G' B' L1 L2 L3 M1 M2 M3 (X 0 10) (X 1 11)) (X 0 10) (X 1 11)).I (i+1:Nat)).1 ((lp20 6 G G' (M20 w h w' h' R G B R' G' B' L1 L2 L3 M1 M2 M3 (X 0 10) (X 1 11)) (X 0 10) (X 1 11)).I (i+1:Nat)).2
   simp -implicitDefEqProofs only[push_cast,zz,seval,lp20,M20]
   exact Sub.refl _ _
 have eqG:G=G':=eq_of_rd q4 fun j h=>hj j (by omega)
 clear hj
 refine evS_loop _ _ _ (lp20 7 B B' (M20 w h w' h' R G B R' G' B' L1 L2 L3 M1 M2 M3 (X 0 10) (X 1 11)) (X 0 10) (X 1 11)) (0:Nat) ⟨Nat.zero_le _,fun j hj=>absurd hj (Nat.not_lt_zero _)⟩ ?_ ?_
 ·change Sub _ _ ((lp20 7 B B' (M20 w h w' h' R G B R' G' B' L1 L2 L3 M1 M2 M3 (X 0 10) (X 1 11)) (X 0 10) (X 1 11)).I (0:Nat)).1 ((lp20 7 B B' (M20 w h w' h' R G B R' G' B' L1 L2 L3 M1 M2 M3 (X 0 10) (X 1 11)) (X 0 10) (X 1 11)).I (0:Nat)).2
  refine Sub.of (mkG 18 [(0,0),(1,1),(2,2),(3,3),(4,4),(5,5),(10,10),(11,11)]) ?_
  simp -implicitDefEqProofs only[push_cast,zz,seval,lp20,M20]
 intro (i:Nat) ⟨(hi:i<=B.length),(hj:∀ j,j<i->rd B (j:Nat)=rd B' (j:Nat))⟩
 change evS _ _ _ _ (mkS 101 [(2,.ptr 10 (X 0 10) 0 0 0),(3,.ptr 11 (X 1 11) 0 0 0),(7,.int .i64 i)]) (M20 w h w' h' R G B R' G' B' L1 L2 L3 M1 M2 M3 (X 0 10) (X 1 11))
 simp -implicitDefEqProofs only[push_cast,zz,seval,M20,b20_3,r20_4]
 refine⟨fun hl=>⟨by omega,by omega,by omega,by omega,by omega,by omega,by omega,by omega,fun hb=>?_,fun hg=>⟨by omega,by omega,?_⟩⟩,fun hl=>?_⟩
 ·have e:¬ (⟨w,h,R,G,B⟩:Im).Eq ⟨w',h',R',G',B'⟩:=fun H=>by
   obtain⟨a,b,c,d,f⟩:=H
   simp only at a b c d f
   subst a b c d f
   simp at hb
  refine postF.mk' (fun _=>default) [some 0,some 1,some 2,some 3,some 4,some 5] ?_
  simp -implicitDefEqProofs only[push_cast,zz,seval,fs20,e,decide_false]
 ·refine lpK_mk (i+1:Nat) ⟨by omega,fun j h=>?_⟩ (show B.length-(i+1)<B.length-i by omega) ?_
  ·by_cases e:j=i
   ·subst e;exact hg
   ·exact hj j (by omega)
  ·change Sub _ _ ((lp20 7 B B' (M20 w h w' h' R G B R' G' B' L1 L2 L3 M1 M2 M3 (X 0 10) (X 1 11)) (X 0 10) (X 1 11)).I (i+1:Nat)).1 ((lp20 7 B B' (M20 w h w' h' R G B R' G' B' L1 L2 L3 M1 M2 M3 (X 0 10) (X 1 11)) (X 0 10) (X 1 11)).I (i+1:Nat)).2
   simp -implicitDefEqProofs only[push_cast,zz,seval,lp20,M20]
   exact Sub.refl _ _
 have eqB:B=B':=eq_of_rd q5 fun j h=>hj j (by omega)
 clear hj
 have e:(⟨w,h,R,G,B⟩:Im).Eq ⟨w',h',R',G',B'⟩:=⟨q1,q2,eqR,eqG,eqB⟩
 refine postF.mk' (fun _=>default) [some 0,some 1,some 2,some 3,some 4,some 5] ?_
 simp -implicitDefEqProofs only[push_cast,zz,seval,fs20,e,decide_true]
def ent20:Entry:=spOf fs20 inv20
theorem e20:EntryOk Tryz.prog 20 ent20:=entry_of ok20 inv20
@[push_cast] theorem ent20_app (us:List SV) (look:Look) (x:Nat->Xf.Loc) (k:Nat):ent20 us look x k=spOf fs20 inv20 us look x k:=rfl
structure FaA where
 L1:Xf.Loc
 xs:List Int
 L2:Xf.Loc
 ys:List Int
def ir120:IR:=
 .seq (r_ [o_ 4 (.mov (.k (.int .u8 0)))] [4]) (.seq (.seq (r_ [m_ 5 0] [0]) (.cond (.t 5) (.seq (r_ [m_ 6 1,o_ 7 (.cvt 0 .u8 (.t 6)),m_ 4 7] [1,5,6,7]) (.ret)) (.skip))) (.seq (r_ [o_ 4 (.mov (.k (.int .u8 0)))] [1,5]) (.ret)))
set_option maxRecDepth 4000 in
theorem comp120:(Tryz.f120.body.bind fun c=>compC tab isP chkAll ir120 c)=some ir120:=by kernel_rfl
structure FlA where
 on:Bool
 n:Int
def invFl:List SV->Look->Option (FlA×List Nat)
 | [.bool b,.int .i64 n],_=>some (⟨b,n⟩,[])
 | _,_=>none
attribute [push_cast] invFl
def fs120:FS where
 A:=FlA
 args:=fun a=>[.bool a.on,.int .i64 a.n]
 pre:=fun a=>0<=a.n/\a.n<256
 res:=fun a _=>.int .u8 (if a.on=true then a.n else 0)
theorem ok120:FSOk Tryz.prog 120 fs120:=by
 refine hd_ (fk_ Tryz.func120) fun a hp=>?_
 obtain⟨on,n⟩:=a
 obtain⟨h0,h1⟩:0<=n/\n<256:=hp
 have hw:IntKind.u8.wrap n=n:=inR_wrap (k:=.u8) ⟨by omega,by omega⟩
 change Tri Tryz.prog 120 [.bool on,.int .i64 n] [] (postF fs120 ⟨on,n⟩)
 refine tri_evS (hyp (l:=[]) (lp:=[]) trivial trivial) Tryz.func120 comp120 (rs:=[.tmp 4]) (by rfl) Tryz.ntmps120 10 ?_
 cases on with
 | true=>
  simp -implicitDefEqProofs only[push_cast,zz,seval,ir120,hw]
  repeat refine om_ ?_
  refine postF.mk' (fun _=>default) [] ?_
  simp -implicitDefEqProofs only[push_cast,zz,seval,fs120]
 | false=>
  simp -implicitDefEqProofs only[push_cast,zz,seval,ir120]
  repeat refine om_ ?_
  refine postF.mk' (fun _=>default) [] ?_
  simp -implicitDefEqProofs only[push_cast,zz,seval,fs120]
def ent120:Entry:=spOf fs120 invFl
theorem e120:EntryOk Tryz.prog 120 ent120:=entry_of ok120 invFl
@[push_cast] theorem ent120_a u l x k:ent120 u l x k=spOf fs120 invFl u l x k:=rfl
def b54_1:IR:=
 .seq (r_ [c_ 47 .lss 46 3] []) (.seq (.cond (.t 47) (.skip) (.exit 0)) (.seq (.block 1 (.seq (r_ [m_ 48 46,o_ 49 (.idxV (.t 45) (.t 46) 3),m_ 11 48,m_ 12 49] [47,48,49]) (.seq (r_ [m_ 50 11,c_ 51 .eql 50 0,m_ 52 51,q_ 52 (f_ 53 6 3),q_ 52 (l_ 54 53),q_ 52 (o_ 55 (.not (.t 54))),k_ 56 52 55] [11,50,51,52,53,54,55]) (.cond (.t 56) (r_ [m_ 57 10,m_ 58 12,o_ 59 (.callv none 35 (.t 57) [.t 58])] [12,56,57,58,59]) (.skip))))) (r_ [a_ 60 46 1,m_ 46 60] [12,56,60])))
def r54_2:IR:=
 .seq (r_ [l_ 61 9,m_ 8 61] [6,9,10,45,46,61]) (.ret)
def ir54:IR:=
 .seq (r_ [o_ 6 (.box 10 (.t 2)),o_ 7 (.box 11 (.t 3)),o_ 8 (.mov (.k nilSV))] [2,3,8]) (.seq (r_ [o_ 9 (.alloc 12 [nilSV])] []) (.seq (r_ [o_ 13 (.mkf 118 [.t 9]),m_ 10 13] [13]) (.seq (r_ [m_ 14 10,m_ 15 0,o_ 16 (.callv none 13 (.t 14) [.t 15])] [0,14,15,16]) (.seq (r_ [m_ 17 10,m_ 18 1,o_ 19 (.callv none 17 (.t 17) [.t 18])] [1,17,18,19]) (.seq (R_ [⟨some 20,none,⟨[21,22,23,24,25,26,27,28,29],[]⟩,.ld false none 0 0 (.t 9)⟩,f_ 21 6 0,⟨some 22,none,⟨[21,22,23,24,25,26,27,28],[]⟩,.ld false none 0 0 (.t 21)⟩,f_ 23 6 2,⟨some 24,none,⟨[21,22,23,24,25,26,27,28],[]⟩,.ld false none 0 0 (.t 23)⟩,o_ 25 (.bin 0 .mul (Z_ 2) (.t 24)),b_ 26 .add 22 25,o_ 27 (.cvt 0 .u8 (.t 26)),f_ 28 6 3,l_ 29 28,o_ 30 (.call (some 4) 21 120 [.t 29,Z_ 4]),b_ 31 .add 27 30,f_ 32 6 4,⟨some 33,none,⟨[21,22,23,24],[]⟩,.ld false none 0 0 (.t 32)⟩,o_ 34 (.call (some 4) 25 120 [.t 33,Z_ 8]),b_ 35 .add 31 34,f_ 36 6 1,⟨some 37,none,⟨[21,22,23,24,25,26,27,28],[]⟩,.ld false none 0 0 (.t 36)⟩,o_ 38 (.cvt 0 .u8 (.t 37)),o_ 39 (.bslice 29 [.t 35,.t 38]),o_ 40 (.app 30 1 1 (.t 20) (.t 39)),s_ 1 .u8 9 40] [20,21,22,23,24,25,26,27,28,29,30,31,32,33,34,35,36,37,38,39,40]) (.seq (r_ [m_ 41 10,f_ 42 6 5,l_ 43 42,o_ 44 (.callv none 31 (.t 41) [.t 43])] [41,42,43,44]) (.seq (.seq (r_ [o_ 45 (.ld false (some 3) 0 0 (.t 7)),z_ 46 0] [7]) (.block 0 (.loop b54_1))) (r54_2))))))))
def kp54_1:List Nat:=[6,9,10,45,46]
def kl54_1:List Nat:=[35,36,37,38]
attribute [push_cast] kp54_1 kl54_1
set_option maxRecDepth 4000 in
theorem comp54:(Tryz.f54.body.bind fun c=>compC tab isP chkAll ir54 c)=some ir54:=by kernel_rfl
structure WhA where
 w:Int
 h:Int
 s:SyA
 a:Int
 b:Int
 c:Int
def fgP (s:SyA):Int:=s.wv+2*s.kd+(if s.gr=true then 4 else 0)+(if s.hf=true then 8 else 0)
def wr0 (x:WhA):List Int:=((szL x.w++szL x.h)++[fgP x.s,x.s.lv])++szL x.s.d
def wr1 (x:WhA):List Int:=wr0 x++szL x.a
def wr2 (x:WhA):List Int:=if x.s.gr=true then wr1 x else wr1 x++szL x.b
def wr3 (x:WhA):List Int:=if x.s.gr=true then wr2 x else wr2 x++szL x.c
def wrK (x:WhA):Nat->List Int
 | 0=>wr0 x
 | 1=>wr1 x
 | 2=>wr2 x
 | _=>wr3 x
def wrH (x:WhA):List Int:=wrK x 3
def whOk (x:WhA):Prop:=0<=x.w/\x.w<16384/\0<=x.h/\x.h<16384/\syOk x.s/\0<=x.a/\x.a<=25/\0<=x.b/\x.b<=25/\0<=x.c/\x.c<=25
def invWh:List SV->Look->Option (WhA×List Nat)
 | [.int .i64 w,.int .i64 h,.agg [.int .i64 wv,.int .i64 lv,.int .i64 kd,.bool gr,.bool hf,.int .i64 d],.agg [.int .i64 a,.int .i64 b,.int .i64 c]],_=>some (⟨w,h,⟨wv,lv,kd,gr,hf,d⟩,a,b,c⟩,[])
 | _,_=>none
attribute [push_cast] invWh
def fs54:FS where
 A:=WhA
 args:=fun a=>[.int .i64 a.w,.int .i64 a.h,a.s.sv,.agg [.int .i64 a.a,.int .i64 a.b,.int .i64 a.c]]
 pre:=fun a=>whOk a
 res:=fun a x=>.sl 0 (x 0) 1 0 (wrH a).length
 new:=fun a x=>[(x 0,.ints .u8 (wrH a))]
theorem wrK_len (x:WhA):∀ k,k<=3->(wrK x k).length<=8+2*k:=by
 have z:=fun n=>szL_len n
 have h0:(wrK x 0).length<=8:=by
  have:=z x.w
  have:=z x.h
  have:=z x.s.d
  show(wr0 x).length<=8
  unfold wr0
  simp only[List.length_append,List.length_cons,List.length_nil]
  omega
 have h1:(wrK x 1).length<=10:=by
  have:=z x.a
  have e:wrK x 1=wrK x 0++szL x.a:=rfl
  rw[e,List.length_append];omega
 have h2:(wrK x 2).length<=12:=by
  have:=z x.b
  have e:wrK x 2=if x.s.gr=true then wrK x 1 else wrK x 1++szL x.b:=rfl
  rw[e];split
  ·omega
  ·rw[List.length_append];omega
 have h3:(wrK x 3).length<=14:=by
  have:=z x.c
  have e:wrK x 3=if x.s.gr=true then wrK x 2 else wrK x 2++szL x.c:=rfl
  rw[e];split
  ·omega
  ·rw[List.length_append];omega
 intro k hk
 obtain rfl | rfl | rfl | rfl:k=0∨k=1∨k=2∨k=3:=by omega
 ·exact h0
 ·exact h1
 ·exact h2
 ·exact h3
set_option maxHeartbeats 1000000 in
theorem ok54:FSOk Tryz.prog 54 fs54:=by
 refine hd_ (fk_ Tryz.func54) fun a hp=>?_
 obtain⟨w,h,⟨wv,lv,kd,gr,hf,d⟩,a,b,c⟩:=a
 obtain⟨u1,u2,u3,u4,⟨s1,s2,s3,s4,s5,s6⟩,u5,u6,u7,u8,u9,u10⟩:=id hp
 simp only at u1 u2 u3 u4 u5 u6 u7 u8 u9 u10 s1 s2 s3 s4 s5 s6
 change Tri Tryz.prog 54 [.int .i64 w,.int .i64 h,.agg [.int .i64 wv,.int .i64 lv,.int .i64 kd,.bool gr,.bool hf,.int .i64 d],.agg [.int .i64 a,.int .i64 b,.int .i64 c]] [] (postF fs54 _)
 refine tri_evS (hyp (l:=[(118,ent118),(120,ent120)]) (lp:=[]) ⟨e118,e120,trivial⟩ trivial) Tryz.func54 comp54 (rs:=[.tmp 8]) (by rfl) Tryz.ntmps54 39 ?_
 have z:=fun n=>szL_len n
 have w1:IntKind.u8.wrap (wv+2*kd)=wv+2*kd:=inR_wrap (k:=.u8) ⟨by omega,by omega⟩
 have w2:IntKind.u8.wrap lv=lv:=inR_wrap (k:=.u8) ⟨by omega,by omega⟩
 have e0:wrK ⟨w,h,⟨wv,lv,kd,gr,hf,d⟩,a,b,c⟩ 0=((szL w++szL h)++[fgP ⟨wv,lv,kd,gr,hf,d⟩,lv])++szL d:=rfl
 have ef:fgP ⟨wv,lv,kd,gr,hf,d⟩=wv+2*kd+(if gr=true then 4 else 0)+(if hf=true then 8 else 0):=rfl
 have r0:rd [a,b,c] 0=a:=rfl
 have r1:rd [a,b,c] 1=b:=rfl
 have r2:rd [a,b,c] 2=c:=rfl
 have q1:=z w
 have q2:=z h
 have q3:=z d
 obtain⟨x1,h1⟩:∃ z,szL w=z:=⟨_,rfl⟩
 obtain⟨x2,h2⟩:∃ z,szL h=z:=⟨_,rfl⟩
 obtain⟨x3,h3⟩:∃ z,szL d=z:=⟨_,rfl⟩
 rw[h1]at q1 e0
 rw[h2]at q2 e0
 rw[h3]at q3 e0
 have l1:x1.length<=1000:=by omega
 have l2:(x1++x2).length<=1000:=by rw[List.length_append];omega
 obtain⟨f1,hf1⟩:∃ f,(if gr=true then (4:Int)else 0)=f:=⟨_,rfl⟩
 obtain⟨f2,hf2⟩:∃ f,(if hf=true then (8:Int)else 0)=f:=⟨_,rfl⟩
 have b1:0<=f1/\f1<=4:=by rw[<-hf1];split<;>simp
 have b2:0<=f2/\f2<=8:=by rw[<-hf2];split<;>simp
 rw[hf1,hf2]at ef
 have k2:∀ v w:Int,((x1++x2++[v,w]).length:Int)=(x1++x2).length+2:=fun v w=>by simp only[List.length_append,List.length_cons,List.length_nil];omega
 have k3:∀ v w:Int,(x1++x2++[v,w]).length<=1000:=fun v w=>by simp only[List.length_append,List.length_cons,List.length_nil];omega
 have k4:((x1++x2).length:Int)+2<=140737488355328:=by omega
 have k5:∀ k,k<=3->(wrK ⟨w,h,⟨wv,lv,kd,gr,hf,d⟩,a,b,c⟩ k).length<=1000:=fun k hk=>by have:=wrK_len ⟨w,h,⟨wv,lv,kd,gr,hf,d⟩,a,b,c⟩ k hk;omega
 have g1:wrK ⟨w,h,⟨wv,lv,kd,gr,hf,d⟩,a,b,c⟩ 1=wrK ⟨w,h,⟨wv,lv,kd,gr,hf,d⟩,a,b,c⟩ 0++szL a:=rfl
 have g2:wrK ⟨w,h,⟨wv,lv,kd,gr,hf,d⟩,a,b,c⟩ 2=if gr=true then wrK ⟨w,h,⟨wv,lv,kd,gr,hf,d⟩,a,b,c⟩ 1 else wrK ⟨w,h,⟨wv,lv,kd,gr,hf,d⟩,a,b,c⟩ 1++szL b:=rfl
 have g3:wrK ⟨w,h,⟨wv,lv,kd,gr,hf,d⟩,a,b,c⟩ 3=if gr=true then wrK ⟨w,h,⟨wv,lv,kd,gr,hf,d⟩,a,b,c⟩ 2 else wrK ⟨w,h,⟨wv,lv,kd,gr,hf,d⟩,a,b,c⟩ 2++szL c:=rfl
 have g4:wrH ⟨w,h,⟨wv,lv,kd,gr,hf,d⟩,a,b,c⟩=wrK ⟨w,h,⟨wv,lv,kd,gr,hf,d⟩,a,b,c⟩ 3:=rfl
 have ha:a<16384:=by omega
 have hb:b<16384:=by omega
 have hc:c<16384:=by omega
 have hd:d<16384:=by omega
 rw[ef]at e0
 simp -implicitDefEqProofs only[push_cast,zz,seval,ir54,fs118,H1A.l,u1,u2,u3,u4,s5,s6,h1,h2,h3,w1,w2,fs120,hf1,hf2,k2,k3,hd]
 intro X X1
 repeat refine om_ ?_
 intro X2
 repeat refine om_ ?_
 intro X3
 repeat refine om_ ?_
 obtain⟨Z,hZ⟩:∃ Z,(⟨w,h,⟨wv,lv,kd,gr,hf,d⟩,a,b,c⟩:WhA)=Z:=⟨_,rfl⟩
 rw[hZ]at e0 g1 g2 g3 g4 k5
 rw[hZ,<-e0]
 refine evS_loopU (A:=Nat×Xf.Loc) kp54_1 kl54_1 (fun y=>[(46,.int .i64 y.1)]) (fun y=>[(12,.mine,X1 0 12,.cells [.sl 31 y.2 1 0 (wrK Z y.1).length]),(31,.mine,y.2,.ints .u8 (wrK Z y.1))]) (fun y=>y.1<=3) (fun y=>3-y.1) (0,X3 3 31) (Nat.zero_le _) (Sub.pt ?_) ?_
 ·simp -implicitDefEqProofs only[push_cast,zz,seval]
 intro ⟨k,M⟩ hk K hK
 have hk:k<=3:=hk
 have hlk:=k5 k hk
 obtain rfl | rfl | rfl | rfl:k=0∨k=1∨k=2∨k=3:=by omega
 ·simp -implicitDefEqProofs only[push_cast,zz,seval,b54_1,fs118,H1A.l,u5,ha,r0,hlk]
  intro X4
  repeat refine om_ ?_
  refine hK (1,X4 2 35) (show 1<=3 by decide) (show 3-1<3-0 by decide) _ _ (Sub.of (mkG 39 [(10,10),(11,11),(12,12),(29,29),(31,35)]) ?_)
  simp -implicitDefEqProofs only[push_cast,zz,seval,g1]
 ·cases gr with
  | true=>
   rw[if_pos rfl]at g2
   simp -implicitDefEqProofs only[push_cast,zz,seval,b54_1]
   repeat refine om_ ?_
   refine hK (2,M) (show 2<=3 by decide) (show 3-2<3-1 by decide) _ _ (Sub.pt ?_)
   simp -implicitDefEqProofs only[push_cast,zz,seval,g2]
  | false=>
   rw[if_neg (by decide)]at g2
   simp -implicitDefEqProofs only[push_cast,zz,seval,b54_1,fs118,H1A.l,u7,hb,r1,hlk]
   intro X4
   repeat refine om_ ?_
   refine hK (2,X4 2 35) (show 2<=3 by decide) (show 3-2<3-1 by decide) _ _ (Sub.of (mkG 39 [(10,10),(11,11),(12,12),(29,29),(31,35)]) ?_)
   simp -implicitDefEqProofs only[push_cast,zz,seval,g2]
 ·cases gr with
  | true=>
   rw[if_pos rfl]at g3
   simp -implicitDefEqProofs only[push_cast,zz,seval,b54_1]
   repeat refine om_ ?_
   refine hK (3,M) (show 3<=3 by decide) (show 3-3<3-2 by decide) _ _ (Sub.pt ?_)
   simp -implicitDefEqProofs only[push_cast,zz,seval,g3]
  | false=>
   rw[if_neg (by decide)]at g3
   simp -implicitDefEqProofs only[push_cast,zz,seval,b54_1,fs118,H1A.l,u9,hc,r2,hlk]
   intro X4
   repeat refine om_ ?_
   refine hK (3,X4 2 35) (show 3<=3 by decide) (show 3-3<3-2 by decide) _ _ (Sub.of (mkG 39 [(10,10),(11,11),(12,12),(29,29),(31,35)]) ?_)
   simp -implicitDefEqProofs only[push_cast,zz,seval,g3]
 ·clear hK
  simp -implicitDefEqProofs only[push_cast,zz,seval,b54_1,r54_2]
  repeat refine om_ ?_
  refine postF.mk' (fun _=>M) [some 31] ?_
  simp -implicitDefEqProofs only[push_cast,zz,seval,fs54,g4]
def ent54:Entry:=spOf fs54 invWh
theorem e54:EntryOk Tryz.prog 54 ent54:=entry_of ok54 invWh
@[push_cast] theorem ent54_a u l x k:ent54 u l x k=spOf fs54 invWh u l x k:=rfl
def ir90:IR:=
 .seq (r_ [o_ 4 (.alloc 10 [y_,y_,nilSV])] []) (.seq (r_ [m_ 5 0,m_ 6 1,m_ 7 0,m_ 8 1,b_ 9 .mul 7 8,o_ 10 (.mks 11 (.int .i64 0) 8 (.t 9) (.t 9)),o_ 11 (.build [y_,y_,nilSV] [(0,1,.t 5),(1,1,.t 6),(2,1,.t 10)]),s_ 3 .i64 4 11] [0,1,5,6,7,8,9,10,11]) (.ret))
set_option maxRecDepth 4000 in
theorem comp90:(Tryz.f90.body.bind fun c=>compC tab isP chkAll ir90 c)=some ir90:=by kernel_rfl
def b43_1:IR:=
 .seq (r_ [b_ 32 .lss 31 30] []) (.seq (.cond (.t 32) (.skip) (.exit 0)) (.seq (.block 1 (.seq (r_ [m_ 33 31,m_ 6 33] [32,33]) (.seq (R_ [f_ 34 2 2,l_ 35 34,m_ 36 6,f_ 37 1 2,l_ 38 37,m_ 39 6,i_ 40 38 39 1,L_ 41 40,f_ 42 1 3,l_ 43 42,m_ 44 6,i_ 45 43 44 1,L_ 46 45,o_ 47 (.bin 0 .mul (Z_ 2) (.t 46)),b_ 48 .add 41 47,f_ 49 1 4,l_ 50 49,m_ 51 6,i_ 52 50 51 1,L_ 53 52,b_ 54 .add 48 53,c_ 55 .quo 54 4,i_ 56 35 36 1,S_ 1 .i64 56 55] [34,35,36,37,38,39,40,41,42,43,44,45,46,47,48,49,50,51,52,53,54,55,56]) (.seq (R_ [f_ 57 3 2,l_ 58 57,m_ 59 6,f_ 60 1 4,l_ 61 60,m_ 62 6,i_ 63 61 62 1,L_ 64 63,f_ 65 1 3,l_ 66 65,m_ 67 6,i_ 68 66 67 1,L_ 69 68,b_ 70 .sub 64 69,i_ 71 58 59 1,S_ 1 .i64 71 70] [57,58,59,60,61,62,63,64,65,66,67,68,69,70,71]) (R_ [f_ 72 4 2,l_ 73 72,m_ 74 6,f_ 75 1 2,l_ 76 75,m_ 77 6,i_ 78 76 77 1,L_ 79 78,f_ 80 1 3,l_ 81 80,m_ 82 6,i_ 83 81 82 1,L_ 84 83,b_ 85 .sub 79 84,i_ 86 73 74 1,S_ 1 .i64 86 85] [6,72,73,74,75,76,77,78,79,80,81,82,83,84,85,86]))))) (r_ [a_ 87 31 1,m_ 31 87] [87])))
def r43_2:IR:=
 .seq (R_ [o_ 88 (.ld false (some 3) 0 0 (.t 2)),⟨some 89,none,⟨[11],[]⟩,.ld false (some 3) 0 0 (.t 3)⟩,⟨some 90,none,⟨[11,12],[]⟩,.ld false (some 3) 0 0 (.t 4)⟩,⟨none,none,⟨[],[11]⟩,.sto false 3 .i64 (.t 2) (.t 88)⟩,⟨none,none,⟨[],[12]⟩,.sto false 3 .i64 (.t 3) (.t 89)⟩,s_ 3 .i64 4 90,z_ 5 0] [1,30,31,88,89,90]) (.ret)
def ir43:IR:=
 .seq (r_ [o_ 1 (.box 10 (.t 0)),o_ 2 (.alloc 11 [y_,y_,nilSV]),o_ 3 (.alloc 12 [y_,y_,nilSV]),o_ 4 (.alloc 13 [y_,y_,nilSV]),z_ 5 0] [0,5]) (.seq (.seq (r_ [o_ 7 (.ld false (some 5) 0 0 (.t 1)),o_ 8 (.call (some 4) 14 49 [.t 7]),o_ 9 (.not (.t 8))] [7,8]) (.cond (.t 9) (.seq (R_ [o_ 10 (.ld false (some 3) 0 0 (.t 2)),⟨some 11,none,⟨[11],[]⟩,.ld false (some 3) 0 0 (.t 3)⟩,⟨some 12,none,⟨[11,12],[]⟩,.ld false (some 3) 0 0 (.t 4)⟩,⟨none,none,⟨[],[11]⟩,.sto false 3 .i64 (.t 2) (.t 10)⟩,⟨none,none,⟨[],[12]⟩,.sto false 3 .i64 (.t 3) (.t 11)⟩,s_ 3 .i64 4 12,z_ 5 75] [1,9,10,11,12]) (.ret)) (.skip))) (.seq (R_ [f_ 13 1 0,l_ 14 13,f_ 15 1 1,l_ 16 15,o_ 17 (.call (some 4) 18 90 [.t 14,.t 16]),f_ 18 1 0,⟨some 19,none,⟨[18,19,20,21],[]⟩,.ld false none 0 0 (.t 18)⟩,f_ 20 1 1,⟨some 21,none,⟨[18,19,20,21],[]⟩,.ld false none 0 0 (.t 20)⟩,o_ 22 (.call (some 4) 22 90 [.t 19,.t 21]),f_ 23 1 0,⟨some 24,none,⟨[18,19,20,21,22,23,24,25],[]⟩,.ld false none 0 0 (.t 23)⟩,f_ 25 1 1,⟨some 26,none,⟨[18,19,20,21,22,23,24,25],[]⟩,.ld false none 0 0 (.t 25)⟩,o_ 27 (.call (some 4) 26 90 [.t 24,.t 26]),s_ 3 .i64 2 17,s_ 3 .i64 3 22,s_ 3 .i64 4 27] [5,9,13,14,15,16,17,18,19,20,21,22,23,24,25,26,27]) (.seq (.seq (r_ [f_ 28 1 2,l_ 29 28,h_ 30 29,z_ 31 0] [28,29]) (.block 0 (.loop b43_1))) (r43_2))))
set_option maxRecDepth 4000 in
theorem comp43:(Tryz.f43.body.bind fun c=>compC tab isP chkAll ir43 c)=some ir43:=by kernel_rfl
structure Pl where
 w:Int
 h:Int
 xs:List Int
def plV (p:Pl) (L:Xf.Loc) (c:Nat):SV:=.agg [.int .i64 p.w,.int .i64 p.h,.sl c L 1 0 p.xs.length]
attribute [push_cast] plV
def pl0:Pl:=⟨0,0,[]⟩
def fs90:FS where
 A:=WH
 args:=fun a=>[.int .i64 a.w,.int .i64 a.h]
 pre:=fun a=>SidesOk a.w a.h
 res:=fun a x=>.agg [.int .i64 a.w,.int .i64 a.h,.sl 0 (x 0) 1 0 (a.w*a.h)]
 new:=fun a x=>[(x 0,.ints .i64 (zs (a.w*a.h)))]
theorem ok90:FSOk Tryz.prog 90 fs90:=by
 refine hd_ (fk_ Tryz.func90) fun a hp=>?_
 obtain⟨w,h⟩:=a
 change SidesOk w h at hp
 change Tri Tryz.prog 90 [.int .i64 w,.int .i64 h] [] (postF fs90 ⟨w,h⟩)
 refine tri_evS (hyp (l:=[]) (lp:=[]) trivial trivial) Tryz.func90 comp90 (rs:=[.cell 4 (some 3)]) (by rfl) Tryz.ntmps90 14 ?_
 simp -implicitDefEqProofs only[push_cast,zz,seval,ir90]
 have hm:=hp.bd
 intro X X1
 refine⟨by omega,by omega,by omega,by omega,by omega,postF.mk' (locs [X1 5 11]) [some 11] ?_⟩
 simp -implicitDefEqProofs only[push_cast,zz,seval,fs90,zs]
def ent90:Entry:=spOf fs90 inv102
theorem e90:EntryOk Tryz.prog 90 ent90:=entry_of ok90 inv102
@[push_cast] theorem ent90_app (us:List SV) (look:Look) (x:Nat->Xf.Loc) (k:Nat):ent90 us look x k=spOf fs90 inv102 us look x k:=rfl
def tY (i:Im):Nat->Int:=fun k=>(rd i.R (k:Nat)+2*rd i.G (k:Nat)+rd i.B (k:Nat)) / 4
def tU (i:Im):Nat->Int:=fun k=>rd i.B (k:Nat)-rd i.G (k:Nat)
def tV (i:Im):Nat->Int:=fun k=>rd i.R (k:Nat)-rd i.G (k:Nat)
def turn (f:Im->Nat->Int) (i:Im):Pl:=if i.Ok then ⟨i.w,i.h,tabl i.R.length (f i)⟩else pl0
def fs43:FS where
 A:=ImA
 args:=fun a=>[imV a.i a.L1 a.L2 a.L3 0]
 mem:=fun a=>imM a.i a.L1 a.L2 a.L3
 pre:=fun a=>a.i.small
 res:=fun a x=>.tup [plV (turn tY a.i) (lx a.i.Ok x 0) 3,plV (turn tU a.i) (lx a.i.Ok x 1) 4,plV (turn tV a.i) (lx a.i.Ok x 2) 5,.int .i64 (if a.i.Ok then 0 else 75)]
 new:=fun a x=>[(lx a.i.Ok x 0,.ints .i64 (turn tY a.i).xs),(lx a.i.Ok x 1,.ints .i64 (turn tU a.i).xs),(lx a.i.Ok x 2,.ints .i64 (turn tV a.i).xs)]
def I43 (i:Im) (L1 L2 L3 L0 M1 M2 M3 N1 N2 N3:Xf.Loc) (k:Nat):List Ent×Mem:=
 (mkS 91 [(1,.ptr 10 L0 0 0 0),(2,.ptr 11 M1 0 0 0),(3,.ptr 12 M2 0 0 0),(4,.ptr 13 M3 0 0 0),(30,.int .i64 i.R.length),(31,.int .i64 k)],
  mkM 35 [(0,.ro,L1,.ints .i64 i.R),(1,.ro,L2,.ints .i64 i.G),(2,.ro,L3,.ints .i64 i.B),(10,.mine,L0,.cells [.int .i64 i.w,.int .i64 i.h,.sl 0 L1 1 0 i.R.length,.sl 1 L2 1 0 i.G.length,.sl 2 L3 1 0 i.B.length]),
   (11,.mine,M1,.cells [.int .i64 i.w,.int .i64 i.h,.sl 18 N1 1 0 (i.w*i.h)]),(12,.mine,M2,.cells [.int .i64 i.w,.int .i64 i.h,.sl 22 N2 1 0 (i.w*i.h)]),(13,.mine,M3,.cells [.int .i64 i.w,.int .i64 i.h,.sl 26 N3 1 0 (i.w*i.h)]),
   (18,.mine,N1,.ints .i64 (prt i.R.length k (tY i))),(22,.mine,N2,.ints .i64 (prt i.R.length k (tU i))),(26,.mine,N3,.ints .i64 (prt i.R.length k (tV i)))])
def lp43 (i:Im) (L1 L2 L3 L0 M1 M2 M3 N1 N2 N3:Xf.Loc):LoopS where
 A:=Nat
 I:=I43 i L1 L2 L3 L0 M1 M2 M3 N1 N2 N3
 R:=fun k=>k<=i.R.length
 mu:=fun k=>i.R.length-k
theorem Im.Ok.val {i:Im} (h:i.Ok):i.G.length=i.R.length/\i.B.length=i.R.length/\∀ k:Nat,k<i.R.length->(0<=rd i.R (k:Nat)/\rd i.R (k:Nat)<=255)/\(0<=rd i.G (k:Nat)/\rd i.G (k:Nat)<=255)/\(0<=rd i.B (k:Nat)/\rd i.B (k:Nat)<=255):=by
 obtain⟨_,⟨a,x⟩,⟨b,y⟩,⟨c,z⟩⟩:=h
 have e1:i.G.length=i.R.length:=by omega
 have e2:i.B.length=i.R.length:=by omega
 exact⟨e1,e2,fun k hk=>⟨allVal_rd.1 x k hk,allVal_rd.1 y k (by omega),allVal_rd.1 z k (by omega)⟩⟩
theorem ok43:FSOk Tryz.prog 43 fs43:=by
 refine hd_ (fk_ Tryz.func43) fun a hp=>?_
 obtain⟨⟨w,h,R,G,B⟩,L1,L2,L3⟩:=a
 change (⟨w,h,R,G,B⟩:Im).small at hp
 change Tri Tryz.prog 43 [imV ⟨w,h,R,G,B⟩ L1 L2 L3 0] (imM ⟨w,h,R,G,B⟩ L1 L2 L3) (postF fs43 ⟨⟨w,h,R,G,B⟩,L1,L2,L3⟩)
 refine tri_evS (hyp (l:=[(49,ent49),(90,ent90)]) (lp:=[]) ⟨e49,e90,trivial⟩ trivial) Tryz.func43 comp43 (rs:=[.cell 2 (some 3),.cell 3 (some 3),.cell 4 (some 3),.tmp 5]) (by rfl) Tryz.ntmps43 32 ?_
 simp -implicitDefEqProofs only[push_cast,zz,seval,ir43,fs49,fs90]
 intro X
 refine⟨hp,fun hn=>?_,fun hy X1=>⟨hy.1,?_⟩⟩
 ·refine postF.mk' (fun _=>default) [some 0,some 1,some 2,none,none,none] ?_
  simp -implicitDefEqProofs only[push_cast,zz,seval,fs43,turn,hn,if_false,lx,pl0]
 have hs:SidesOk w h:=hy.1
 have hm:=hs.bd
 have hl:(R.length:Int)=w*h:=hy.2.1.1
 obtain⟨e1,e2,hv⟩:=hy.val
 simp only at e1 e2 hv
 refine evS_loop _ _ _ (lp43 ⟨w,h,R,G,B⟩ L1 L2 L3 (X 0 10) (X 1 11) (X 2 12) (X 3 13) (X1 4 18) (X1 9 22) (X1 14 26)) (0:Nat) (Nat.zero_le _) ?_ ?_
 ·refine Sub.of (mkG 35 [(0,0),(1,1),(2,2),(10,10),(11,11),(12,12),(13,13),(18,18),(22,22),(26,26)]) ?_
  have ez:(w*h).toNat=R.length:=by omega
  simp -implicitDefEqProofs only[push_cast,zz,seval,lp43,I43,zs,prt_zero,ez]
 intro (k:Nat) (hk:k<=R.length)
 change evS _ _ _ _ (I43 ⟨w,h,R,G,B⟩ L1 L2 L3 (X 0 10) (X 1 11) (X 2 12) (X 3 13) (X1 4 18) (X1 9 22) (X1 14 26) k).1 (I43 ⟨w,h,R,G,B⟩ L1 L2 L3 (X 0 10) (X 1 11) (X 2 12) (X 3 13) (X1 4 18) (X1 9 22) (X1 14 26) k).2
 simp -implicitDefEqProofs only[push_cast,zz,seval,I43,b43_1,r43_2]
 refine⟨fun hk1=>?_,fun hk1=>?_⟩
 ·have hk':k<R.length:=by omega
  obtain⟨v1,v2,v3⟩:=hv k hk'
  have lY:=prt_length hk (tY (⟨w,h,R,G,B⟩:Im))
  have lU:=prt_length hk (tU (⟨w,h,R,G,B⟩:Im))
  have lV:=prt_length hk (tV (⟨w,h,R,G,B⟩:Im))
  repeat (refine⟨by omega,?_⟩)
  refine lpK_mk (k+1:Nat) hk' (show R.length-(k+1)<R.length-k by omega) ?_
  have q1:(prt R.length k (tY (⟨w,h,R,G,B⟩:Im))).set k ((rd R k+2*rd G k+rd B k) / 4)=prt R.length (k+1) (tY (⟨w,h,R,G,B⟩:Im)):=prt_set hk' _
  have q2:(prt R.length k (tU (⟨w,h,R,G,B⟩:Im))).set k (rd B k-rd G k)=prt R.length (k+1) (tU (⟨w,h,R,G,B⟩:Im)):=prt_set hk' _
  have q3:(prt R.length k (tV (⟨w,h,R,G,B⟩:Im))).set k (rd R k-rd G k)=prt R.length (k+1) (tV (⟨w,h,R,G,B⟩:Im)):=prt_set hk' _
  refine Sub.of (mkG 35 [(0,0),(1,1),(2,2),(10,10),(11,11),(12,12),(13,13),(18,18),(22,22),(26,26)]) ?_
  simp -implicitDefEqProofs only[push_cast,zz,seval,lp43,I43,Int.toNat_natCast,q1,q2,q3]
 ·obtain rfl:k=R.length:=by omega
  refine postF.mk' (locs [X1 4 18,X1 9 22,X1 14 26]) [some 0,some 1,some 2,some 18,some 22,some 26] ?_
  simp -implicitDefEqProofs only[push_cast,zz,seval,fs43,turn,hy,if_true,lx,prt_all,tabl_length,hl]
def ent43:Entry:=spOf fs43 inv49
theorem e43:EntryOk Tryz.prog 43 ent43:=entry_of ok43 inv49
@[push_cast] theorem ent43_app (us:List SV) (look:Look) (x:Nat->Xf.Loc) (k:Nat):ent43 us look x k=spOf fs43 inv49 us look x k:=rfl
structure CutA where
 a:ImA
 x:Int
 y:Int
 w:Int
 h:Int
def CutA.In (c:CutA):Prop:=0<=c.x/\0<=c.y/\0<=c.w/\0<=c.h/\c.x+c.w<=c.a.i.w/\c.y+c.h<=c.a.i.h
instance (c:CutA):Decidable c.In:=by unfold CutA.In;infer_instance
def CutA.Ok (c:CutA):Prop:=c.a.i.Ok/\c.In
instance (c:CutA):Decidable c.Ok:=by unfold CutA.Ok;infer_instance
theorem idx_bd {a b W H:Int} (h1:0<=a) (h2:a<H) (h3:0<=b) (h4:b<W):0<=a*W+b/\a*W+b<W*H:=by
 have e1:0<=a*W:=Int.mul_nonneg h1 (by omega)
 have e2:(a+1)*W<=H*W:=Int.mul_le_mul_of_nonneg_right (by omega) (by omega)
 rw[Int.add_mul,Int.one_mul,Int.mul_comm H W]at e2
 omega
theorem dm_bd {k w h:Int} (h0:0<=k) (h1:k<w*h) (hw:0<=w):0<w/\0<=k / w/\k / w<h/\0<=k % w/\k % w<w:=by
 have hw':0<w:=by
  rcases Int.lt_or_eq_of_le hw with h | h
  ·exact h
  ·rw[<-h,Int.zero_mul]at h1;omega
 refine⟨hw',Int.ediv_nonneg h0 hw,?_,Int.emod_nonneg _ (by omega),Int.emod_lt_of_pos _ hw'⟩
 exact Int.ediv_lt_of_lt_mul hw' (by rw[Int.mul_comm];exact h1)
theorem down_eq {a b:Int} (hb:0<b):(a.tmod b<0->a.tdiv b-1=a / b)/\(¬ a.tmod b<0->a.tdiv b=a / b):=by
 rw[Int.tdiv_eq_ediv,Int.tmod_eq_emod]
 have h1:=Int.emod_nonneg a (show b≠0 by omega)
 have h2:=Int.emod_lt_of_pos a hb
 by_cases h:0<=a∨b∣a
 ·simp only[h,if_true];omega
 ·simp only[h,if_false,Int.sign_eq_one_of_pos hb];omega
theorem tdiv_bd (a b:Int):-(a.natAbs:Int)<=a.tdiv b/\a.tdiv b<=a.natAbs:=by
 have h:(a.tdiv b).natAbs<=a.natAbs:=by
  rw[Int.natAbs_tdiv];exact Nat.div_le_self _ _
 omega
def ir195:IR:=
 .seq (r_ [o_ 4 (.mov (.k (.bool false)))] [4]) (.seq (r_ [m_ 5 0,c_ 6 .geq 5 0,m_ 7 6,p_ 7 (m_ 8 1),p_ 7 (c_ 9 .geq 8 0),K_ 10 7 9,m_ 11 10,p_ 11 (m_ 12 0),p_ 11 (c_ 13 .leq 12 200),K_ 14 11 13,m_ 15 14,p_ 15 (m_ 16 1),p_ 15 (c_ 17 .leq 16 200),K_ 18 15 17,m_ 4 18] [0,1,5,6,7,8,9,10,11,12,13,14,15,16,17,18]) (.ret))
set_option maxRecDepth 4000 in
theorem comp195:(Tryz.f195.body.bind fun c=>compC tab isP chkAll ir195 c)=some ir195:=by kernel_rfl
def ir196:IR:=
 .seq (r_ [o_ 4 (.mov (.k (.bool false)))] [4]) (.seq (r_ [m_ 5 0,l_ 6 1,b_ 7 .lss 5 6,m_ 8 7,q_ 8 (m_ 9 0),q_ 8 (l_ 10 2),q_ 8 (b_ 11 .gtr 9 10),k_ 12 8 11,m_ 4 12] [0,1,2,5,6,7,8,9,10,11,12]) (.ret))
set_option maxRecDepth 4000 in
theorem comp196:(Tryz.f196.body.bind fun c=>compC tab isP chkAll ir196 c)=some ir196:=by kernel_rfl
def ir151:IR:=
 .seq (r_ [o_ 3 (.box 10 (.t 0)),o_ 4 (.box 11 (.t 1)),o_ 5 (.box 12 (.t 2)),o_ 6 (.mov (.k (.bool false)))] [0,1,2,6]) (.seq (.seq (r_ [f_ 7 3 0,l_ 8 7,f_ 9 3 1,l_ 10 9,o_ 11 (.callp 195 [.t 8,.t 10]),o_ 12 (.not (.t 11)),m_ 13 12,q_ 13 (f_ 14 3 0),q_ 13 (l_ 15 14),q_ 13 (f_ 16 3 1),q_ 13 (l_ 17 16),q_ 13 (b_ 18 .mul 15 17),q_ 13 (f_ 19 3 2),q_ 13 (l_ 20 19),q_ 13 (h_ 21 20),q_ 13 (b_ 22 .neq 18 21),k_ 23 13 22,m_ 24 23,q_ 24 (f_ 25 3 2),q_ 24 (l_ 26 25),q_ 24 (h_ 27 26),q_ 24 (c_ 28 .gtr 27 8192),k_ 29 24 28] [7,8,9,10,11,12,13,14,15,16,17,18,19,20,21,22,23,24,25,26,27,28]) (.cond (.t 29) (.seq (r_ [o_ 6 (.mov (.k (.bool false)))] [3,4,5,29]) (.ret)) (.skip))) (.seq (r_ [f_ 30 3 2,l_ 31 30,o_ 32 (.mkf 196 [.t 4,.t 5]),o_ 33 (.call (some 4) 13 147 [.t 31,.t 32]),o_ 34 (.not (.t 33)),m_ 6 34] [3,4,5,29,30,31,32,33,34]) (.ret)))
set_option maxRecDepth 4000 in
theorem comp151:(Tryz.f151.body.bind fun c=>compC tab isP chkAll ir151 c)=some ir151:=by kernel_rfl
def ir98:IR:=
 .seq (r_ [o_ 1 (.box 10 (.t 0)),o_ 2 (.mov (.k (.bool false)))] [0,2]) (.seq (r_ [o_ 3 (.ld false (some 3) 0 0 (.t 1)),o_ 4 (.call (some 4) 11 151 [.t 3,Z_ (-16777216),Z_ 16777216]),m_ 2 4] [1,3,4]) (.ret))
set_option maxRecDepth 4000 in
theorem comp98:(Tryz.f98.body.bind fun c=>compC tab isP chkAll ir98 c)=some ir98:=by kernel_rfl
def firstB (p:Int->Bool) (xs:List Int):Int:=if xs.findIdx p<xs.length then xs.findIdx p else -1
theorem firstB_at {p:Int->Bool} {xs:List Int} {i:Nat} (h:i<xs.length) (hb:p (rd xs i)=true) (hj:∀ j,j<i->p (rd xs (j:Nat))=false):firstB p xs=i:=by
 have:xs.findIdx p=i:=by
  rw[List.findIdx_eq h]
  refine⟨by rw[rd_lt xs i h]at hb;exact hb,fun j hji=>?_⟩
  have:=hj j hji
  rw[rd_lt xs j (by omega)]at this
  exact this
 unfold firstB
 rw[this,if_pos h]
theorem firstB_no {p:Int->Bool} {xs:List Int} (hj:∀ j,j<xs.length->p (rd xs (j:Nat))=false):firstB p xs=-1:=by
 unfold firstB
 rw[if_neg]
 intro h
 have:=List.findIdx_getElem (w:=h)
 have h2:=hj _ h
 rw[rd_lt xs _ h,this]at h2
 cases h2
theorem firstB_iff (p:Int->Bool) (xs:List Int):0<=firstB p xs↔∃ n,n∈xs/\p n=true:=by
 unfold firstB
 have h:=List.findIdx_lt_length (xs:=xs) (p:=p)
 by_cases hh:xs.findIdx p<xs.length
 ·rw[if_pos hh]
  exact⟨fun _=>h.1 hh,fun _=>by omega⟩
 ·rw[if_neg hh]
  exact⟨fun h=>by omega,fun H=>absurd (h.2 H) hh⟩
def sides4F:EntryP
 | [.int .i64 w,.int .i64 h]=>some (True,.bool (decide (0<=w/\0<=h/\w<=200/\h<=200)))
 | _=>none
attribute [push_cast] sides4F
theorem p195:EntryPOk Tryz.prog 195 sides4F:=by
 refine⟨fk_ Tryz.func195,fun us p v h hp=>?_⟩
 unfold sides4F at h
 split at h<;>cases h
 refine tri_evS (hyp (l:=[]) (lp:=[]) trivial trivial) Tryz.func195 comp195 (rs:=[.tmp 4]) (by rfl) Tryz.ntmps195 10 ?_
 simp -implicitDefEqProofs only[push_cast,zz,seval,ir195,sides4F]
structure OutA where
 L1:Xf.Loc
 L2:Xf.Loc
 n:Int
 lo:Int
 hi:Int
def outB (lo hi n:Int):Bool:=decide (n<lo∨hi<n)
def fs196:FS where
 A:=OutA
 args:=fun a=>[.int .i64 a.n,.ptr 0 a.L1 0 0 0,.ptr 1 a.L2 0 0 0]
 mem:=fun a=>[some (.ro,a.L1,.cells [.int .i64 a.lo]),some (.ro,a.L2,.cells [.int .i64 a.hi])]
 res:=fun a _=>.bool (outB a.lo a.hi a.n)
def inv196:List SV->Look->Option (OutA×List Nat)
 | [.int .i64 n,.ptr c1 _ 0 0 0,.ptr c2 _ 0 0 0],look=>match rowC (look c1),rowC (look c2)with
  | some (L1,[.int .i64 lo]),some (L2,[.int .i64 hi])=>some (⟨L1,L2,n,lo,hi⟩,[c1,c2])
  | _,_=>none
 | _,_=>none
attribute [push_cast] inv196
theorem ok196:FSOk Tryz.prog 196 fs196:=by
 refine hd_ (fk_ Tryz.func196) fun a hp=>?_
 obtain⟨L1,L2,n,lo,hi⟩:=a
 change Tri Tryz.prog 196 [.int .i64 n,.ptr 0 L1 0 0 0,.ptr 1 L2 0 0 0] [some (.ro,L1,.cells [.int .i64 lo]),some (.ro,L2,.cells [.int .i64 hi])] (postF fs196 ⟨L1,L2,n,lo,hi⟩)
 refine tri_evS (hyp (l:=[]) (lp:=[]) trivial trivial) Tryz.func196 comp196 (rs:=[.tmp 4]) (by rfl) Tryz.ntmps196 10 ?_
 simp -implicitDefEqProofs only[push_cast,zz,seval,ir196]
 refine postF.mk' (fun _=>default) [some 0,some 1] ?_
 simp -implicitDefEqProofs only[push_cast,zz,seval,fs196,outB]
def ent196:Entry:=spOf fs196 inv196
theorem e196:EntryOk Tryz.prog 196 ent196:=entry_of ok196 inv196
@[push_cast] theorem ent196_a u l x k:ent196 u l x k=spOf fs196 inv196 u l x k:=rfl
structure OutR where
 L:Xf.Loc
 xs:List Int
 L1:Xf.Loc
 L2:Xf.Loc
 lo:Int
 hi:Int
def fs194w:FS where
 A:=OutR
 args:=fun a=>[.sl 0 a.L 1 0 a.xs.length,.fn 196 [.ptr 1 a.L1 0 0 0,.ptr 2 a.L2 0 0 0]]
 mem:=fun a=>[some (.ro,a.L,.ints .i64 a.xs),some (.ro,a.L1,.cells [.int .i64 a.lo]),some (.ro,a.L2,.cells [.int .i64 a.hi])]
 pre:=fun a=>a.xs.length<=140737488355328
 res:=fun a _=>.int .i64 (firstB (outB a.lo a.hi) a.xs)
def inv194w:List SV->Look->Option (OutR×List Nat)
 | [.sl c _ 1 0 _,.fn 196 [.ptr c1 _ 0 0 0,.ptr c2 _ 0 0 0]],look=>match rowI (look c),rowC (look c1),rowC (look c2)with
  | some (L,.i64,xs),some (L1,[.int .i64 lo]),some (L2,[.int .i64 hi])=>some (⟨L,xs,L1,L2,lo,hi⟩,[c,c1,c2])
  | _,_,_=>none
 | _,_=>none
attribute [push_cast] inv194w
theorem ok194w:FSOk Tryz.prog 194 fs194w:=by
 refine hd_ (fk_ Tryz.func194) fun a hp=>?_
 obtain⟨L,xs,L1,L2,lo,hi⟩:=a
 change xs.length<=140737488355328 at hp
 change Tri Tryz.prog 194 [.sl 0 L 1 0 xs.length,.fn 196 [.ptr 1 L1 0 0 0,.ptr 2 L2 0 0 0]] [some (.ro,L,.ints .i64 xs),some (.ro,L1,.cells [.int .i64 lo]),some (.ro,L2,.cells [.int .i64 hi])] (postF fs194w ⟨L,xs,L1,L2,lo,hi⟩)
 refine tri_evS (hyp (l:=[(196,ent196)]) (lp:=[]) ⟨e196,trivial⟩ trivial) Tryz.func194 comp194 (rs:=[.tmp 4]) (by rfl) Tryz.ntmps194 14 ?_
 simp -implicitDefEqProofs only[push_cast,zz,seval,ir194]
 refine evS_loopU (A:=Nat) kp194_1 kl194_1 (fun i=>[(8,.int .i64 i)]) (fun _=>[])
  (fun i=>i<=xs.length/\∀ j,j<i->outB lo hi (rd xs (j:Nat))=false) (fun i=>xs.length-i) 0 ⟨by omega,by omega⟩ (Sub.pt ?_) ?_
 ·simp -implicitDefEqProofs only[push_cast,zz,seval]
 intro i ⟨h1,h2⟩ K hK
 simp -implicitDefEqProofs only[push_cast,zz,seval,b194_1,r194_2,fs196]
 refine⟨fun h=>⟨by omega,h,by omega,h,fun hb=>?_,fun hb=>⟨by omega,by omega,?_⟩⟩,fun h=>?_⟩
 ·have e:=firstB_at (by omega) hb h2
  exact postF.mk' (fun _=>default) [some 0,some 1,some 2] (by simp -implicitDefEqProofs only[push_cast,zz,seval,fs194w,e])
 ·refine hK (i+1) ⟨by omega,?_⟩ (show xs.length-(i+1)<xs.length-i by omega) _ _ (Sub.pt ?_)
  ·intro j hj
   by_cases e:j=i
   ·subst e;exact hb
   ·exact h2 j (by omega)
  ·simp -implicitDefEqProofs only[push_cast,zz,seval]
 ·have e:=firstB_no (p:=outB lo hi) (xs:=xs) (fun j hj=>h2 j (by omega))
  exact postF.mk' (fun _=>default) [some 0,some 1,some 2] (by simp -implicitDefEqProofs only[push_cast,zz,seval,fs194w,e])
def ent194w:Entry:=spOf fs194w inv194w
theorem e194w:EntryOk Tryz.prog 194 ent194w:=entry_of ok194w inv194w
@[push_cast] theorem ent194w_app (us:List SV) (look:Look) (x:Nat->Xf.Loc) (k:Nat):ent194w us look x k=spOf fs194w inv194w us look x k:=rfl
def AllIn (lo hi:Int) (xs:List Int):Prop:=∀ n,n∈xs->lo<=n/\n<=hi
instance (lo hi:Int) (xs:List Int):Decidable (AllIn lo hi xs):=by unfold AllIn;infer_instance
theorem allIn_iff {lo hi:Int} {xs:List Int}:(0<=firstB (outB lo hi) xs)=¬ AllIn lo hi xs:=by
 rw[firstB_iff]
 unfold AllIn outB
 simp only[decide_eq_true_eq,Classical.not_forall,eq_iff_iff]
 constructor
 ·rintro⟨n,h1,h2⟩;exact⟨n,h1,by omega⟩
 ·rintro⟨n,h1,h2⟩;exact⟨n,h1,by omega⟩
theorem allIn_rd {lo hi:Int} {xs:List Int}:AllIn lo hi xs↔∀ j:Nat,j<xs.length->lo<=rd xs j/\rd xs j<=hi:=by
 unfold AllIn
 constructor
 ·intro h j hj;rw[rd_lt xs j hj];exact h _ (List.getElem_mem hj)
 ·intro h n hn
  obtain⟨j,hj,rfl⟩:=List.mem_iff_getElem.1 hn
  have:=h j hj
  rwa [rd_lt xs j hj]at this
def fs147w:FS:={ fs194w with res:=fun a _=>.bool (decide (¬ AllIn a.lo a.hi a.xs)) }
theorem ok147w:FSOk Tryz.prog 147 fs147w:=by
 refine hd_ (fk_ Tryz.func147) fun a hp=>?_
 obtain⟨L,xs,L1,L2,lo,hi⟩:=a
 change xs.length<=140737488355328 at hp
 change Tri Tryz.prog 147 [.sl 0 L 1 0 xs.length,.fn 196 [.ptr 1 L1 0 0 0,.ptr 2 L2 0 0 0]] [some (.ro,L,.ints .i64 xs),some (.ro,L1,.cells [.int .i64 lo]),some (.ro,L2,.cells [.int .i64 hi])] (postF fs147w ⟨L,xs,L1,L2,lo,hi⟩)
 refine tri_evS (hyp (l:=[(194,ent194w)]) (lp:=[]) ⟨e194w,trivial⟩ trivial) Tryz.func147 comp147 (rs:=[.tmp 4]) (by rfl) Tryz.ntmps147 14 ?_
 simp -implicitDefEqProofs only[push_cast,zz,seval,ir147,fs194w]
 exact⟨hp,postF.mk' (fun _=>default) [some 0,some 1,some 2] (by simp -implicitDefEqProofs only[push_cast,zz,seval,fs147w,fs194w,allIn_iff])⟩
def ent147w:Entry:=spOf fs147w inv194w
theorem e147w:EntryOk Tryz.prog 147 ent147w:=entry_of ok147w inv194w
@[push_cast] theorem ent147w_app (us:List SV) (look:Look) (x:Nat->Xf.Loc) (k:Nat):ent147w us look x k=spOf fs147w inv194w us look x k:=rfl
def Pl.In (p:Pl) (lo hi:Int):Prop:=SidesOk p.w p.h/\p.xs.length=p.w*p.h/\AllIn lo hi p.xs
instance (p:Pl) (lo hi:Int):Decidable (p.In lo hi):=by unfold Pl.In;infer_instance
structure PlA where
 p:Pl
 L:Xf.Loc
structure PlW where
 a:PlA
 lo:Int
 hi:Int
def getP (look:Look):SV->Option (PlA×List Nat)
 | .agg [.int .i64 w,.int .i64 h,.sl c _ 1 0 _]=>match rowI (lkZ look (.ints .i64 []) c)with
  | some (L,.i64,xs)=>some (⟨⟨w,h,xs⟩,L⟩,[c])
  | _=>none
 | _=>none
attribute [push_cast] getP
def fs151:FS where
 A:=PlW
 args:=fun a=>[plV a.a.p a.a.L 0,.int .i64 a.lo,.int .i64 a.hi]
 mem:=fun a=>[some (.ro,a.a.L,.ints .i64 a.a.p.xs)]
 pre:=fun a=>a.a.p.xs.length<=140737488355328
 res:=fun a _=>.bool (decide (a.a.p.In a.lo a.hi))
def inv151:List SV->Look->Option (PlW×List Nat)
 | [v,.int .i64 lo,.int .i64 hi],look=>match getP look v with
  | some (a,g)=>some (⟨a,lo,hi⟩,g)
  | _=>none
 | _,_=>none
attribute [push_cast] inv151
theorem ok151:FSOk Tryz.prog 151 fs151:=by
 refine hd_ (fk_ Tryz.func151) fun a hp=>?_
 obtain⟨⟨⟨w,h,xs⟩,L⟩,lo,hi⟩:=a
 change xs.length<=140737488355328 at hp
 change Tri Tryz.prog 151 [plV ⟨w,h,xs⟩ L 0,.int .i64 lo,.int .i64 hi] [some (.ro,L,.ints .i64 xs)] (postF fs151 ⟨⟨⟨w,h,xs⟩,L⟩,lo,hi⟩)
 refine tri_evS (hyp (l:=[(147,ent147w)]) (lp:=[(195,sides4F)]) ⟨e147w,trivial⟩ ⟨p195,trivial⟩) Tryz.func151 comp151 (rs:=[.tmp 6]) (by rfl) Tryz.ntmps151 17 ?_
 simp -implicitDefEqProofs only[push_cast,zz,seval,ir151,fs147w,fs194w,hp]
 intro X
 refine⟨fun H=>?_,fun H=>⟨H.1,H.2.1,H.2.2.1,H.2.2.2,H⟩,fun hn=>?_,fun hy=>?_⟩
 ·have:=mul_bd H.1 H.2.2.1 H.2.1 H.2.2.2
  omega
 ·have e:¬ (⟨w,h,xs⟩:Pl).In lo hi:=fun H=>by
   obtain⟨⟨a1,a2,a3,a4,a5⟩,b,_⟩:=H
   simp only at a1 a2 a3 a4 a5 b
   omega
  refine postF.mk' (fun _=>default) [some 0] ?_
  simp -implicitDefEqProofs only[push_cast,zz,seval,fs151,e,decide_false]
 ·have e:(AllIn lo hi xs)↔(⟨w,h,xs⟩:Pl).In lo hi:=by
   unfold Pl.In SidesOk
   simp only
   constructor
   ·intro H;refine⟨⟨by omega,by omega,by omega,by omega,by omega⟩,by omega,H⟩
   ·intro H;exact H.2.2
  refine postF.mk' (fun _=>default) [some 0] ?_
  simp -implicitDefEqProofs only[push_cast,zz,seval,fs151,e]
def ent151:Entry:=spOf fs151 inv151
theorem e151:EntryOk Tryz.prog 151 ent151:=entry_of ok151 inv151
@[push_cast] theorem ent151_a u l x k:ent151 u l x k=spOf fs151 inv151 u l x k:=rfl
def Pl.Ok (p:Pl):Prop:=p.In (-16777216) 16777216
def Pl.Gr (p:Pl):Prop:=p.In 0 255
instance (p:Pl):Decidable p.Ok:=by unfold Pl.Ok;infer_instance
instance (p:Pl):Decidable p.Gr:=by unfold Pl.Gr;infer_instance
def fs98:FS where
 A:=PlA
 args:=fun a=>[plV a.p a.L 0]
 mem:=fun a=>[some (.ro,a.L,.ints .i64 a.p.xs)]
 pre:=fun a=>a.p.xs.length<=140737488355328
 res:=fun a _=>.bool (decide a.p.Ok)
def inv98:List SV->Look->Option (PlA×List Nat)
 | [v],look=>getP look v
 | _,_=>none
attribute [push_cast] inv98
theorem ok98:FSOk Tryz.prog 98 fs98:=by
 refine hd_ (fk_ Tryz.func98) fun a hp=>?_
 obtain⟨⟨w,h,xs⟩,L⟩:=a
 change xs.length<=140737488355328 at hp
 change Tri Tryz.prog 98 [plV ⟨w,h,xs⟩ L 0] [some (.ro,L,.ints .i64 xs)] (postF fs98 ⟨⟨w,h,xs⟩,L⟩)
 refine tri_evS (hyp (l:=[(151,ent151)]) (lp:=[]) ⟨e151,trivial⟩ trivial) Tryz.func98 comp98 (rs:=[.tmp 2]) (by rfl) Tryz.ntmps98 15 ?_
 simp -implicitDefEqProofs only[push_cast,zz,seval,ir98,fs151,hp]
 refine fun X=>postF.mk' (fun _=>default) [some 0] ?_
 simp -implicitDefEqProofs only[push_cast,zz,seval,fs98,Pl.Ok]
def ent98:Entry:=spOf fs98 inv98
theorem e98:EntryOk Tryz.prog 98 ent98:=entry_of ok98 inv98
@[push_cast] theorem ent98_a u l x k:ent98 u l x k=spOf fs98 inv98 u l x k:=rfl
def Pl.Eq (a b:Pl):Prop:=a.w=b.w/\a.h=b.h/\a.xs=b.xs
instance (a b:Pl):Decidable (a.Eq b):=by unfold Pl.Eq;infer_instance
theorem Pl.Eq.refl (a:Pl):a.Eq a:=⟨rfl,rfl,rfl⟩
structure Pl2 where
 a:PlA
 b:PlA
def ir104:IR:=
 .seq (r_ [z_ 2 0] [2]) (.seq (r_ [m_ 3 0,o_ 4 (.mx (.t 3) (Z_ 0)),o_ 5 (.mn (.t 4) (Z_ 255)),m_ 2 5] [0,3,4,5]) (.ret))
set_option maxRecDepth 4000 in
theorem comp104:(Tryz.f104.body.bind fun c=>compC tab isP chkAll ir104 c)=some ir104:=by kernel_rfl
def b47_1:IR:=
 .seq (r_ [b_ 61 .lss 60 59] []) (.seq (.cond (.t 61) (.skip) (.exit 0)) (.seq (.block 1 (.seq (r_ [m_ 62 60,m_ 9 62] [61,62]) (.seq (R_ [f_ 63 3 2,l_ 64 63,m_ 65 9,i_ 66 64 65 1,L_ 67 66,f_ 68 4 2,l_ 69 68,m_ 70 9,i_ 71 69 70 1,L_ 72 71,f_ 73 5 2,l_ 74 73,m_ 75 9,i_ 76 74 75 1,L_ 77 76,b_ 78 .add 72 77,o_ 79 (.bin 0 .shr (.t 78) (.k (.int .u64 2))),b_ 80 .sub 67 79,m_ 10 80] [63,64,65,66,67,68,69,70,71,72,73,74,75,76,77,78,79,80]) (R_ [m_ 81 9,f_ 82 5 2,l_ 83 82,m_ 84 9,i_ 85 83 84 1,L_ 86 85,m_ 87 10,b_ 88 .add 86 87,o_ 89 (.callp 104 [.t 88]),m_ 90 10,o_ 91 (.callp 104 [.t 90]),f_ 92 4 2,l_ 93 92,m_ 94 9,i_ 95 93 94 1,L_ 96 95,m_ 97 10,b_ 98 .add 96 97,o_ 99 (.callp 104 [.t 98]),o_ 100 (.call none 31 103 [.t 8,.t 81,.t 89,.t 91,.t 99])] [9,10,81,82,83,84,85,86,87,88,89,90,91,92,93,94,95,96,97,98,99,100])))) (r_ [a_ 101 60 1,m_ 60 101] [101])))
def r47_2:IR:=
 .seq (r_ [o_ 102 (.ld false (some 5) 0 0 (.t 8)),s_ 5 .i64 6 102,z_ 7 0] [3,4,5,8,59,60,102]) (.ret)
def ir47:IR:=
 .seq (r_ [o_ 3 (.box 10 (.t 0)),o_ 4 (.box 11 (.t 1)),o_ 5 (.box 12 (.t 2)),o_ 6 (.alloc 13 [y_,y_,nilSV,nilSV,nilSV]),z_ 7 0] [0,1,2,7]) (.seq (.seq (r_ [o_ 11 (.ld false (some 3) 0 0 (.t 3)),o_ 12 (.call (some 4) 14 98 [.t 11]),o_ 13 (.not (.t 12)),m_ 14 13,q_ 14 (o_ 15 (.ld false (some 3) 0 0 (.t 4))),q_ 14 (o_ 16 (.call (some 4) 18 98 [.t 15])),q_ 14 (o_ 17 (.not (.t 16))),k_ 18 14 17,m_ 19 18,q_ 19 (o_ 20 (.ld false (some 3) 0 0 (.t 5))),q_ 19 (o_ 21 (.call (some 4) 22 98 [.t 20])),q_ 19 (o_ 22 (.not (.t 21))),k_ 23 19 22] [11,12,13,14,15,16,17,18,19,20,21,22]) (.cond (.t 23) (.seq (r_ [o_ 24 (.build [y_,y_,nilSV,nilSV,nilSV] []),s_ 5 .i64 6 24,z_ 7 70] [3,4,5,23,24]) (.ret)) (.skip))) (.seq (.seq (r_ [f_ 25 3 0,l_ 26 25,f_ 27 4 0,l_ 28 27,b_ 29 .neq 26 28,m_ 30 29,q_ 30 (f_ 31 3 0),q_ 30 (l_ 32 31),q_ 30 (f_ 33 5 0),q_ 30 (l_ 34 33),q_ 30 (b_ 35 .neq 32 34),k_ 36 30 35,m_ 37 36,q_ 37 (f_ 38 3 1),q_ 37 (l_ 39 38),q_ 37 (f_ 40 4 1),q_ 37 (l_ 41 40),q_ 37 (b_ 42 .neq 39 41),k_ 43 37 42,m_ 44 43,q_ 44 (f_ 45 3 1),q_ 44 (l_ 46 45),q_ 44 (f_ 47 5 1),q_ 44 (l_ 48 47),q_ 44 (b_ 49 .neq 46 48),k_ 50 44 49] [7,23,25,26,27,28,29,30,31,32,33,34,35,36,37,38,39,40,41,42,43,44,45,46,47,48,49]) (.cond (.t 50) (.seq (r_ [o_ 51 (.build [y_,y_,nilSV,nilSV,nilSV] []),s_ 5 .i64 6 51,z_ 7 2] [3,4,5,50,51]) (.ret)) (.skip))) (.seq (r_ [f_ 52 3 0,l_ 53 52,f_ 54 3 1,l_ 55 54,o_ 56 (.call (some 4) 26 102 [.t 53,.t 55]),o_ 8 (.alloc 30 [y_,y_,nilSV,nilSV,nilSV]),s_ 5 .i64 8 56] [7,50,52,53,54,55,56]) (.seq (.seq (r_ [f_ 57 3 2,l_ 58 57,h_ 59 58,z_ 60 0] [57,58]) (.block 0 (.loop b47_1))) (r47_2)))))
def kp47_1:List Nat:=[3,4,5,6,8,59,60]
def kl47_1:List Nat:=[31,32,33,34]
attribute [push_cast] kp47_1 kl47_1
set_option maxRecDepth 4000 in
theorem comp47:(Tryz.f47.body.bind fun c=>compC tab isP chkAll ir47 c)=some ir47:=by kernel_rfl
def clampI (n:Int):Int:=min (max n 0) 255
def clampF:EntryP
 | [.int .i64 n]=>some (True,.int .i64 (clampI n))
 | _=>none
attribute [push_cast] clampF
theorem p104:EntryPOk Tryz.prog 104 clampF:=by
 refine⟨fk_ Tryz.func104,fun us p v h hp=>?_⟩
 unfold clampF at h
 split at h<;>cases h
 refine tri_evS (hyp (l:=[]) (lp:=[]) trivial trivial) Tryz.func104 comp104 (rs:=[.tmp 2]) (by rfl) Tryz.ntmps104 10 ?_
 simp -implicitDefEqProofs only[push_cast,zz,seval,ir104,clampF,clampI]
structure Bk where
 y:PlA
 u:PlA
 v:PlA
def Bk.planes (b:Bk):Prop:=b.y.p.Ok/\b.u.p.Ok/\b.v.p.Ok
def Bk.sides (b:Bk):Prop:=b.u.p.w=b.y.p.w/\b.u.p.h=b.y.p.h/\b.v.p.w=b.y.p.w/\b.v.p.h=b.y.p.h
instance (b:Bk):Decidable b.planes:=by unfold Bk.planes;infer_instance
instance (b:Bk):Decidable b.sides:=by unfold Bk.sides;infer_instance
def Bk.Ok (b:Bk):Prop:=b.planes/\b.sides
instance (b:Bk):Decidable b.Ok:=by unfold Bk.Ok;infer_instance
def bG (y u v:List Int):Nat->Int:=fun k=>rd y (k:Nat)-(rd u (k:Nat)+rd v (k:Nat)) / 4
def bkR (y u v:List Int):Nat->Int:=fun k=>clampI (rd v (k:Nat)+bG y u v k)
def bkG (y u v:List Int):Nat->Int:=fun k=>clampI (bG y u v k)
def bkB (y u v:List Int):Nat->Int:=fun k=>clampI (rd u (k:Nat)+bG y u v k)
def backI (b:Bk):Im:=if b.Ok then ⟨b.y.p.w,b.y.p.h,tabl b.y.p.xs.length (bkR b.y.p.xs b.u.p.xs b.v.p.xs),tabl b.y.p.xs.length (bkG b.y.p.xs b.u.p.xs b.v.p.xs),tabl b.y.p.xs.length (bkB b.y.p.xs b.u.p.xs b.v.p.xs)⟩else im0
def Bk.small (b:Bk):Prop:=b.y.p.xs.length<=140737488355328/\b.u.p.xs.length<=140737488355328/\b.v.p.xs.length<=140737488355328
def fs47:FS where
 A:=Bk
 args:=fun b=>[plV b.y.p b.y.L 0,plV b.u.p b.u.L 1,plV b.v.p b.v.L 2]
 mem:=fun b=>[some (.ro,b.y.L,.ints .i64 b.y.p.xs),some (.ro,b.u.L,.ints .i64 b.u.p.xs),some (.ro,b.v.L,.ints .i64 b.v.p.xs)]
 pre:=fun b=>b.small
 res:=fun b x=>.tup [imV (backI b) (lx b.Ok x 0) (lx b.Ok x 1) (lx b.Ok x 2) 3,.int .i64 (if b.Ok then 0 else if b.planes then 2 else 70)]
 new:=fun b x=>imN (backI b) (lx b.Ok x)
def inv47:List SV->Look->Option (Bk×List Nat)
 | [a,b,c],look=>match getP look a,getP look b,getP look c with
  | some (a,g),some (b,g'),some (c,g'')=>some (⟨a,b,c⟩,g++(g'++g''))
  | _,_,_=>none
 | _,_=>none
attribute [push_cast] inv47
theorem Bk.Ok.val {w h w1 h1 w2 h2:Int} {xs ys ws:List Int} {L1 L2 L3:Xf.Loc} (H:(⟨⟨⟨w,h,xs⟩,L1⟩,⟨⟨w1,h1,ys⟩,L2⟩,⟨⟨w2,h2,ws⟩,L3⟩⟩:Bk).Ok) :
  SidesOk w h/\(xs.length:Int)=w*h/\ys.length=xs.length/\ws.length=xs.length/\w1=w/\h1=h/\w2=w/\h2=h /\
   ∀ k:Nat,k<xs.length->(-16777216<=rd xs k/\rd xs k<=16777216)/\(-16777216<=rd ys k/\rd ys k<=16777216)/\(-16777216<=rd ws k/\rd ws k<=16777216):=by
 obtain⟨⟨⟨a1,a2,a3⟩,⟨b1,b2,b3⟩,⟨c1,c2,c3⟩⟩,d1,d2,d3,d4⟩:=H
 simp only at a1 a2 a3 b1 b2 b3 c1 c2 c3 d1 d2 d3 d4
 subst d1 d2 d3 d4
 have e1:ys.length=xs.length:=by omega
 have e2:ws.length=xs.length:=by omega
 exact⟨a1,a2,e1,e2,rfl,rfl,rfl,rfl,fun k hk=>⟨allIn_rd.1 a3 k hk,allIn_rd.1 b3 k (by omega),allIn_rd.1 c3 k (by omega)⟩⟩
theorem ok47:FSOk Tryz.prog 47 fs47:=by
 refine hd_ (fk_ Tryz.func47) fun a hp=>?_
 obtain⟨⟨⟨w,h,xs⟩,L1⟩,⟨⟨w1,h1,ys⟩,L2⟩,⟨⟨w2,h2,ws⟩,L3⟩⟩:=a
 obtain⟨hp1,hp2,hp3⟩:xs.length<=140737488355328/\ys.length<=140737488355328/\ws.length<=140737488355328:=hp
 change Tri Tryz.prog 47 [plV ⟨w,h,xs⟩ L1 0,plV ⟨w1,h1,ys⟩ L2 1,plV ⟨w2,h2,ws⟩ L3 2] [some (.ro,L1,.ints .i64 xs),some (.ro,L2,.ints .i64 ys),some (.ro,L3,.ints .i64 ws)] (postF fs47 ⟨⟨⟨w,h,xs⟩,L1⟩,⟨⟨w1,h1,ys⟩,L2⟩,⟨⟨w2,h2,ws⟩,L3⟩⟩)
 refine tri_evS (hyp (l:=[(98,ent98),(102,ent102),(103,ent103)]) (lp:=[(104,clampF)]) ⟨e98,e102,e103,trivial⟩ ⟨p104,trivial⟩) Tryz.func47 comp47 (rs:=[.cell 6 (some 5),.tmp 7]) (by rfl) Tryz.ntmps47 35 ?_
 simp -implicitDefEqProofs only[push_cast,zz,seval,ir47,fs98,fs102,hp1,hp2,hp3]
 intro X
 have he:(⟨⟨⟨w,h,xs⟩,L1⟩,⟨⟨w1,h1,ys⟩,L2⟩,⟨⟨w2,h2,ws⟩,L3⟩⟩:Bk).planes↔((⟨w,h,xs⟩:Pl).Ok/\(⟨w1,h1,ys⟩:Pl).Ok/\(⟨w2,h2,ws⟩:Pl).Ok):=Iff.rfl
 have hd:(⟨⟨⟨w,h,xs⟩,L1⟩,⟨⟨w1,h1,ys⟩,L2⟩,⟨⟨w2,h2,ws⟩,L3⟩⟩:Bk).sides↔(w1=w/\h1=h/\w2=w/\h2=h):=Iff.rfl
 have hO:(⟨⟨⟨w,h,xs⟩,L1⟩,⟨⟨w1,h1,ys⟩,L2⟩,⟨⟨w2,h2,ws⟩,L3⟩⟩:Bk).Ok↔(⟨⟨⟨w,h,xs⟩,L1⟩,⟨⟨w1,h1,ys⟩,L2⟩,⟨⟨w2,h2,ws⟩,L3⟩⟩:Bk).planes/\(⟨⟨⟨w,h,xs⟩,L1⟩,⟨⟨w1,h1,ys⟩,L2⟩,⟨⟨w2,h2,ws⟩,L3⟩⟩:Bk).sides:=Iff.rfl
 generalize hb:(⟨⟨⟨w,h,xs⟩,L1⟩,⟨⟨w1,h1,ys⟩,L2⟩,⟨⟨w2,h2,ws⟩,L3⟩⟩:Bk)=b at he hd hO ⊢
 refine⟨fun hn=>?_,fun hy=>⟨fun hn=>?_,fun hs X1=>?_⟩⟩
 ·have e1:¬ b.planes:=by rw[he];simp only[<-and_assoc];intro H;simp[H]at hn
  have e2:¬ b.Ok:=fun H=>e1 (hO.1 H).1
  refine postF.mk' (fun _=>default) [some 0,some 1,some 2,none,none,none] ?_
  subst hb
  simp -implicitDefEqProofs only[push_cast,zz,seval,fs47,backI,e1,e2,if_false,lx,im0]
 ·have e1:b.planes:=by rw[he];simp only[not_or,Classical.not_not]at hy;exact⟨hy.1.1,hy.1.2,hy.2⟩
  have e2:¬ b.Ok:=fun H=>by have:=hd.1 (hO.1 H).2;omega
  refine postF.mk' (fun _=>default) [some 0,some 1,some 2,none,none,none] ?_
  subst hb
  simp -implicitDefEqProofs only[push_cast,zz,seval,fs47,backI,e1,e2,if_false,if_true,lx,im0]
 have e1:b.planes:=by rw[he];simp only[not_or,Classical.not_not]at hy;exact⟨hy.1.1,hy.1.2,hy.2⟩
 have e2:b.Ok:=hO.2 ⟨e1,hd.2 (by omega)⟩
 subst hb
 obtain⟨hsd,hl,ly,lz,rfl,rfl,rfl,rfl,hv⟩:=e2.val
 have hm:=hsd.bd
 refine⟨hsd,?_⟩
 have ez:(w2*h2).toNat=xs.length:=by omega
 refine evS_loopU (A:=Nat) kp47_1 kl47_1 (fun i=>[(60,.int .i64 i)]) (fun k=>[(26,.mine,X1 4 26,.ints .i64 (prt xs.length k (bkR xs ys ws))),(27,.mine,X1 4 27,.ints .i64 (prt xs.length k (bkG xs ys ws))),(28,.mine,X1 4 28,.ints .i64 (prt xs.length k (bkB xs ys ws)))])
  (fun i=>i<=xs.length) (fun i=>xs.length-i) 0 (by omega) (Sub.pt ?_) ?_
 ·simp -implicitDefEqProofs only[push_cast,zz,seval,zs,prt_zero,ez]
 intro k (hk:k<=xs.length) K hK
 simp -implicitDefEqProofs only[push_cast,zz,seval,b47_1,r47_2,fs103]
 refine⟨fun hk1=>?_,fun hk1=>?_⟩
 ·have hk':k<xs.length:=by omega
  obtain⟨v1,v2,v3⟩:=hv k hk'
  have lR:=prt_length hk (bkR xs ys ws)
  have lG:=prt_length hk (bkG xs ys ws)
  have lB:=prt_length hk (bkB xs ys ws)
  repeat refine om_ ?_
  refine hK (k+1) hk' (show xs.length-(k+1)<xs.length-k by omega) _ _ (Sub.pt ?_)
  have e4:(2:Int)^2=4:=rfl
  have qR:(prt xs.length k (bkR xs ys ws)).set k (clampI (rd ws k+(rd xs k-(rd ys k+rd ws k) / 4)))=prt xs.length (k+1) (bkR xs ys ws):=prt_set hk' _
  have qG:(prt xs.length k (bkG xs ys ws)).set k (clampI (rd xs k-(rd ys k+rd ws k) / 4))=prt xs.length (k+1) (bkG xs ys ws):=prt_set hk' _
  have qB:(prt xs.length k (bkB xs ys ws)).set k (clampI (rd ys k+(rd xs k-(rd ys k+rd ws k) / 4)))=prt xs.length (k+1) (bkB xs ys ws):=prt_set hk' _
  simp -implicitDefEqProofs only[push_cast,zz,seval,e4,Int.toNat_natCast,qR,qG,qB]
 ·obtain rfl:k=xs.length:=by omega
  refine postF.mk' (locs [X1 4 26,X1 4 27,X1 4 28]) [some 0,some 1,some 2,some 26,some 27,some 28] ?_
  simp -implicitDefEqProofs only[push_cast,zz,seval,fs47,backI,e2,if_true,lx,prt_all,tabl_length,hl]
def ent47:Entry:=spOf fs47 inv47
theorem e47:EntryOk Tryz.prog 47 ent47:=entry_of ok47 inv47
@[push_cast] theorem ent47_a u l x k:ent47 u l x k=spOf fs47 inv47 u l x k:=rfl
def ir93:IR:=
 .seq (r_ [o_ 2 (.mov (.k nilSV))] [2]) (.seq (.seq (r_ [m_ 3 0,o_ 4 (.binS .eql (.t 3) (.k nilSV))] [3]) (.cond (.t 4) (.seq (r_ [o_ 2 (.mov (.k nilSV))] [0,4]) (.ret)) (.skip))) (.seq (r_ [o_ 5 (.bslice 10 []),m_ 6 0,o_ 7 (.app 11 1 8 (.t 5) (.t 6)),m_ 2 7] [0,4,5,6,7]) (.ret)))
set_option maxRecDepth 4000 in
theorem comp93:(Tryz.f93.body.bind fun c=>compC tab isP chkAll ir93 c)=some ir93:=by kernel_rfl
def b107_1:IR:=
 .seq (r_ [b_ 14 .lss 13 12] []) (.seq (.cond (.t 14) (.skip) (.exit 0)) (.seq (.block 1 (.seq (r_ [m_ 15 13,m_ 5 15] [14,15]) (.seq (R_ [m_ 16 0,m_ 17 5,i_ 18 16 17 1,L_ 19 18,m_ 20 1,m_ 21 5,i_ 22 20 21 1,L_ 23 22,b_ 24 .neq 19 23] [5,16,17,18,19,20,21,22,23]) (.cond (.t 24) (.seq (r_ [o_ 4 (.mov (.k (.bool false)))] [0,1,12,13,24]) (.ret)) (.skip))))) (r_ [a_ 25 13 1,m_ 13 25] [4,24,25])))
def r107_2:IR:=
 .seq (r_ [o_ 4 (.mov (.k (.bool true)))] [0,1,12,13]) (.ret)
def ir107:IR:=
 .seq (r_ [o_ 4 (.mov (.k (.bool false)))] [4]) (.seq (.seq (r_ [m_ 6 0,h_ 7 6,m_ 8 1,h_ 9 8,b_ 10 .neq 7 9] [6,7,8,9]) (.cond (.t 10) (.seq (r_ [o_ 4 (.mov (.k (.bool false)))] [0,1,10]) (.ret)) (.skip))) (.seq (.seq (r_ [m_ 11 0,h_ 12 11,z_ 13 0] [4,10,11]) (.block 0 (.loop b107_1))) (r107_2)))
def kp107_1:List Nat:=[0,1,12,13]
def kl107_1:List Nat:=[]
attribute [push_cast] kp107_1 kl107_1
set_option maxRecDepth 4000 in
theorem comp107:(Tryz.f107.body.bind fun c=>compC tab isP chkAll ir107 c)=some ir107:=by kernel_rfl
theorem Dens.mem:∀ {cs:List SV} {vs:List Value} {c:SV},Dens cs vs->c∈cs->∃ v,Den c v
 | [],_,_,_,h=>by cases h
 | d::cs,vs,c,hd,h=>by
  simp only[Dens]at hd
  obtain⟨v,vs',_,h1,h2⟩:=hd
  rcases List.mem_cons.1 h with rfl | h
  ·exact⟨v,h1⟩
  ·exact Dens.mem h2 h
theorem Tri.ofNil {P:Program} {f:FuncId} {args:List SV} {m:Mem} {post:SV->Mem->Prop} {c:Nat} {L:Xf.Loc} {s:Nat} {n:Int} (hm:SV.sl c L s 0 n∈args) (h:(L.nil=true->n=0)->Tri P f args m post):Tri P f args m post:=by
 intro w vs hd hw
 refine h ?_ w vs hd hw
 intro hn
 obtain⟨v,hv⟩:=Dens.mem hd hm
 simp only[Den]at hv
 obtain⟨h1,h2,h3,h4,_⟩:=hv
 have:=h4 hn
 omega
def fs93:FS where
 A:=RowA
 args:=fun a=>[.sl 0 a.L 1 0 a.xs.length]
 mem:=rowM
 pre:=fun a=>a.xs.length<=1000000000000
 res:=fun a x=>.sl 1 (x 0) 1 0 a.xs.length
 new:=fun a x=>[(x 0,.ints .i64 a.xs)]
def inv93:List SV->Look->Option (RowA×List Nat)
 | [.sl c _ 1 0 _],look=>match rowI (lkZ look (.ints .i64 []) c)with
  | some (L,.i64,xs)=>some (⟨L,xs⟩,[c])
  | _=>none
 | _,_=>none
attribute [push_cast] inv93
theorem ok93:FSOk Tryz.prog 93 fs93:=by
 refine hd_ (fk_ Tryz.func93) fun a hp=>?_
 obtain⟨L,xs⟩:=a
 change xs.length<=1000000000000 at hp
 change Tri Tryz.prog 93 [.sl 0 L 1 0 xs.length] [some (.ro,L,.ints .i64 xs)] (postF fs93 ⟨L,xs⟩)
 refine Tri.ofNil (List.mem_singleton.2 rfl) fun hn=>?_
 cases hL:L.nil
 ·refine tri_evS (hyp (l:=[]) (lp:=[]) trivial trivial) Tryz.func93 comp93 (rs:=[.tmp 2]) (by rfl) Tryz.ntmps93 12 ?_
  simp -implicitDefEqProofs only[push_cast,zz,seval,ir93,hL]
  exact⟨rfl,fun X=>⟨by omega,postF.mk' (fun _=>X 2 11) [some 0,some 11] (by simp -implicitDefEqProofs only[push_cast,zz,seval,fs93])⟩⟩
 ·obtain rfl:xs=[]:=List.eq_nil_of_length_eq_zero (by have:=hn hL;omega)
  refine tri_evS (hyp (l:=[]) (lp:=[]) trivial trivial) Tryz.func93 comp93 (rs:=[.tmp 2]) (by rfl) Tryz.ntmps93 12 ?_
  simp -implicitDefEqProofs only[push_cast,zz,seval,ir93,hL]
  exact⟨rfl,postF.mk' (fun _=>nilLoc0) [some 0,none] (by simp -implicitDefEqProofs only[push_cast,zz,seval,fs93,List.length_nil])⟩
def ent93:Entry:=spOf fs93 inv93
theorem e93:EntryOk Tryz.prog 93 ent93:=entry_of ok93 inv93
@[push_cast] theorem ent93_a u l x k:ent93 u l x k=spOf fs93 inv93 u l x k:=rfl
structure Row2 where
 L:Xf.Loc
 xs:List Int
 M:Xf.Loc
 ys:List Int
def fs107:FS where
 A:=Row2
 args:=fun a=>[.sl 0 a.L 1 0 a.xs.length,.sl 1 a.M 1 0 a.ys.length]
 mem:=fun a=>[some (.ro,a.L,.ints .i64 a.xs),some (.ro,a.M,.ints .i64 a.ys)]
 pre:=fun a=>a.xs.length<=140737488355328/\a.ys.length<=140737488355328
 res:=fun a _=>.bool (decide (a.xs=a.ys))
def inv107:List SV->Look->Option (Row2×List Nat)
 | [.sl c _ 1 0 _,.sl d _ 1 0 _],look=>match rowI (lkZ look (.ints .i64 []) c),rowI (lkZ look (.ints .i64 []) d)with
  | some (L,.i64,xs),some (M,.i64,ys)=>some (⟨L,xs,M,ys⟩,[c,d])
  | _,_=>none
 | _,_=>none
attribute [push_cast] inv107
theorem ok107:FSOk Tryz.prog 107 fs107:=by
 refine hd_ (fk_ Tryz.func107) fun a hp=>?_
 obtain⟨L,xs,M,ys⟩:=a
 obtain⟨hp1,hp2⟩:xs.length<=140737488355328/\ys.length<=140737488355328:=hp
 change Tri Tryz.prog 107 [.sl 0 L 1 0 xs.length,.sl 1 M 1 0 ys.length] [some (.ro,L,.ints .i64 xs),some (.ro,M,.ints .i64 ys)] (postF fs107 ⟨L,xs,M,ys⟩)
 refine tri_evS (hyp (l:=[]) (lp:=[]) trivial trivial) Tryz.func107 comp107 (rs:=[.tmp 4]) (by rfl) Tryz.ntmps107 10 ?_
 simp -implicitDefEqProofs only[push_cast,zz,seval,ir107]
 refine⟨fun hn=>?_,fun hy=>?_⟩
 ·have e:¬ xs=ys:=fun H=>by subst H;exact hn rfl
  refine postF.mk' (fun _=>default) [some 0,some 1] ?_
  simp -implicitDefEqProofs only[push_cast,zz,seval,fs107,e,decide_false]
 have hl:xs.length=ys.length:=by omega
 refine evS_loopU (A:=Nat) kp107_1 kl107_1 (fun i=>[(13,.int .i64 i)]) (fun _=>[])
  (fun i=>i<=xs.length/\∀ j,j<i->rd xs (j:Nat)=rd ys (j:Nat)) (fun i=>xs.length-i) 0 ⟨by omega,by omega⟩ (Sub.pt ?_) ?_
 ·simp -implicitDefEqProofs only[push_cast,zz,seval]
 intro i ⟨h1,h2⟩ K hK
 simp -implicitDefEqProofs only[push_cast,zz,seval,b107_1,r107_2]
 refine⟨fun h=>?_,fun h=>?_⟩
 ·repeat refine om_ ?_
  refine⟨fun hb=>?_,fun hg=>⟨by omega,by omega,?_⟩⟩
  ·have e:¬ xs=ys:=fun H=>by subst H;exact hb rfl
   refine postF.mk' (fun _=>default) [some 0,some 1] ?_
   simp -implicitDefEqProofs only[push_cast,zz,seval,fs107,e,decide_false]
  ·refine hK (i+1) ⟨by omega,fun j hj=>?_⟩ (show xs.length-(i+1)<xs.length-i by omega) _ _ (Sub.pt ?_)
   ·by_cases e:j=i
    ·subst e;exact hg
    ·exact h2 j (by omega)
   ·simp -implicitDefEqProofs only[push_cast,zz,seval]
 ·have e:xs=ys:=eq_of_rd hl fun j hj=>h2 j (by omega)
  refine postF.mk' (fun _=>default) [some 0,some 1] ?_
  simp -implicitDefEqProofs only[push_cast,zz,seval,fs107,e,decide_true]
def ent107:Entry:=spOf fs107 inv107
theorem e107:EntryOk Tryz.prog 107 ent107:=entry_of ok107 inv107
@[push_cast] theorem ent107_a u l x k:ent107 u l x k=spOf fs107 inv107 u l x k:=rfl
def greyI (p:Pl):Im:=if p.Gr then ⟨p.w,p.h,p.xs,p.xs,p.xs⟩else im0
def ir155:IR:=
 .seq (r_ [z_ 4 0] [4]) (.seq (r_ [m_ 8 0,o_ 9 (.bin 1 .mul (Z_ 2) (.t 8)),m_ 10 1,o_ 11 (.bin 1 .add (.t 9) (.t 10)),m_ 12 1,o_ 13 (.bin 1 .mul (Z_ 2) (.t 12)),m_ 5 11,m_ 6 13] [0,1,8,9,10,11,12,13]) (.seq (r_ [m_ 14 5,m_ 15 6,o_ 16 (.bin 1 .quo (.t 14) (.t 15)),m_ 7 16] [14,15,16]) (.seq (.seq (r_ [m_ 17 5,m_ 18 6,o_ 19 (.bin 1 .rem (.t 17) (.t 18)),o_ 20 (.bin 1 .lss (.t 19) (Z_ 0))] [5,6,17,18,19]) (.cond (.t 20) (r_ [m_ 21 7,o_ 22 (.bin 1 .sub (.t 21) (Z_ 1)),m_ 7 22] [20,21,22]) (.skip))) (.seq (r_ [m_ 23 7,m_ 4 23] [7,20,23]) (.ret)))))
set_option maxRecDepth 4000 in
theorem comp155:(Tryz.f155.body.bind fun c=>compC tab isP chkAll ir155 c)=some ir155:=by kernel_rfl
def b108_4:IR:=
 .seq (.seq (r_ [m_ 48 10,m_ 49 6,o_ 50 (.bin 0 .mul (Z_ 2) (.t 49)),a_ 51 50 2,f_ 52 1 0,l_ 53 52,o_ 54 (.mn (.t 51) (.t 53)),b_ 55 .lss 48 54] [48,49,50,51,52,53,54]) (.cond (.t 55) (.skip) (.exit 6))) (.seq (.block 7 (r_ [m_ 58 7,f_ 59 1 2,l_ 60 59,m_ 61 9,f_ 62 1 0,l_ 63 62,b_ 64 .mul 61 63,m_ 65 10,b_ 66 .add 64 65,i_ 67 60 66 1,L_ 68 67,b_ 69 .add 58 68,m_ 70 8,a_ 71 70 1,m_ 7 69,m_ 8 71] [55,58,59,60,61,62,63,64,65,66,67,68,69,70,71])) (r_ [m_ 56 10,a_ 57 56 1,m_ 10 57] [56,57]))
def r108_5:IR:=
 r_ [m_ 44 9,a_ 45 44 1,m_ 9 45] [10,44,45]
def b108_3:IR:=
 .seq (.seq (r_ [m_ 36 9,m_ 37 5,o_ 38 (.bin 0 .mul (Z_ 2) (.t 37)),a_ 39 38 2,f_ 40 1 1,l_ 41 40,o_ 42 (.mn (.t 39) (.t 41)),b_ 43 .lss 36 42] [36,37,38,39,40,41,42]) (.cond (.t 43) (.skip) (.exit 4))) (.seq (.block 5 (.seq (r_ [m_ 46 6,o_ 47 (.bin 0 .mul (Z_ 2) (.t 46)),m_ 10 47] [43,46,47]) (.block 6 (.loop b108_4)))) (r108_5))
def r108_6:IR:=
 R_ [f_ 72 4 2,l_ 73 72,m_ 74 5,f_ 75 4 0,l_ 76 75,b_ 77 .mul 74 76,m_ 78 6,b_ 79 .add 77 78,m_ 80 7,m_ 81 8,o_ 82 (.callp 155 [.t 80,.t 81]),i_ 83 73 79 1,S_ 1 .i64 83 82] [6,7,8,9,72,73,74,75,76,77,78,79,80,81,82,83]
def r108_7:IR:=
 r_ [a_ 84 31 1,m_ 31 84] [84]
def b108_2:IR:=
 .seq (r_ [b_ 32 .lss 31 30] []) (.seq (.cond (.t 32) (.skip) (.exit 2)) (.seq (.block 3 (.seq (r_ [m_ 33 31,m_ 6 33] [32,33]) (.seq (r_ [z_ 7 0,z_ 8 0] []) (.seq (.seq (r_ [m_ 34 5,o_ 35 (.bin 0 .mul (Z_ 2) (.t 34)),m_ 9 35] [34,35]) (.block 4 (.loop b108_3))) (r108_6))))) (r108_7)))
def r108_8:IR:=
 r_ [a_ 85 26 1,m_ 26 85] [5,30,31,85]
def b108_1:IR:=
 .seq (r_ [b_ 27 .lss 26 25] []) (.seq (.cond (.t 27) (.skip) (.exit 0)) (.seq (.block 1 (.seq (r_ [m_ 28 26,m_ 5 28] [27,28]) (.seq (r_ [f_ 29 4 0,l_ 30 29,z_ 31 0] [29]) (.block 2 (.loop b108_2))))) (r108_8)))
def r108_9:IR:=
 .seq (r_ [o_ 86 (.ld false (some 3) 0 0 (.t 4)),s_ 3 .i64 2 86,z_ 3 0] [1,4,25,26,86]) (.ret)
def ir108:IR:=
 .seq (r_ [o_ 1 (.box 10 (.t 0)),o_ 2 (.alloc 11 [y_,y_,nilSV]),z_ 3 0] [0,3]) (.seq (.seq (r_ [o_ 11 (.ld false (some 3) 0 0 (.t 1)),o_ 12 (.call (some 4) 12 98 [.t 11]),o_ 13 (.not (.t 12))] [11,12]) (.cond (.t 13) (.seq (r_ [o_ 14 (.build [y_,y_,nilSV] []),s_ 3 .i64 2 14,z_ 3 70] [1,13,14]) (.ret)) (.skip))) (.seq (r_ [f_ 15 1 0,l_ 16 15,a_ 17 16 1,c_ 18 .quo 17 2,f_ 19 1 1,l_ 20 19,a_ 21 20 1,c_ 22 .quo 21 2,o_ 23 (.call (some 4) 16 90 [.t 18,.t 22]),o_ 4 (.alloc 20 [y_,y_,nilSV]),s_ 3 .i64 4 23] [3,13,15,16,17,18,19,20,21,22,23]) (.seq (.seq (r_ [f_ 24 4 1,l_ 25 24,z_ 26 0] [24]) (.block 0 (.loop b108_1))) (r108_9))))
def kp108_4:List Nat:=[1,2,4,5,6,7,8,9,10,25,26,30,31]
def kl108_4:List Nat:=[]
attribute [push_cast] kp108_4 kl108_4
def kp108_3:List Nat:=[1,2,4,5,6,7,8,9,25,26,30,31]
def kl108_3:List Nat:=[]
attribute [push_cast] kp108_3 kl108_3
def kp108_2:List Nat:=[1,2,4,5,25,26,30,31]
def kl108_2:List Nat:=[]
attribute [push_cast] kp108_2 kl108_2
def kp108_1:List Nat:=[1,2,4,25,26]
def kl108_1:List Nat:=[]
attribute [push_cast] kp108_1 kl108_1
set_option maxRecDepth 4000 in
theorem comp108:(Tryz.f108.body.bind fun c=>compC tab isP chkAll ir108 c)=some ir108:=by kernel_rfl
def meanI (s n:Int):Int:=(2*s+n) / (2*n)
def meanF:EntryP
 | [.int .i64 s,.int .i64 n]=>some (-1099511627776<=s/\s<=1099511627776/\0<n/\n<=1099511627776,.int .i64 (meanI s n))
 | _=>none
attribute [push_cast] meanF
theorem p155:EntryPOk Tryz.prog 155 meanF:=by
 refine⟨fk_ Tryz.func155,fun us p v h hp=>?_⟩
 unfold meanF at h
 split at h<;>cases h
 rename_i s n
 obtain⟨h1,h2,h3,h4⟩:=hp
 refine tri_evS (hyp (l:=[]) (lp:=[]) trivial trivial) Tryz.func155 comp155 (rs:=[.tmp 4]) (by rfl) Tryz.ntmps155 10 ?_
 have e1:IntKind.i64.wrap (2*s)=2*s:=inR_wrap (k:=.i64) ⟨by omega,by omega⟩
 have e2:IntKind.i64.wrap (2*s+n)=2*s+n:=inR_wrap (k:=.i64) ⟨by omega,by omega⟩
 have e3:IntKind.i64.wrap (2*n)=2*n:=inR_wrap (k:=.i64) ⟨by omega,by omega⟩
 simp -implicitDefEqProofs only[push_cast,zz,seval,ir155,meanF,meanI,e1,e2,e3]
 have hd:=tdiv_bd (2*s+n) (2*n)
 have he:=down_eq (a:=2*s+n) (b:=2*n) (by omega)
 repeat refine om_ ?_
 refine⟨fun h=>?_,fun h=>?_⟩
 ·rw[inR_wrap (k:=.i64) ⟨by omega,by omega⟩,he.1 h]
 ·rw[he.2 h]
theorem rd_bd {lo hi:Int} {xs:List Int} (h:AllIn lo hi xs) (h0:lo<=0) (h1:0<=hi) (k:Int):lo<=rd xs k/\rd xs k<=hi:=by
 by_cases hk:k.toNat<xs.length
 ·have e:rd xs k=xs[k.toNat]:=by simp[rd,hk]
  rw[e];exact h _ (List.getElem_mem hk)
 ·have e:rd xs k=0:=by simp[rd,List.getElem?_eq_none (Nat.not_lt.1 hk)]
  rw[e];exact⟨h0,h1⟩
def rowS (xs:List Int) (w v X:Int):Nat->Int
 | 0=>0
 | j+1=>rowS xs w v X j+rd xs (v*w+(X+j))
def blkS (xs:List Int) (w Y X:Int) (c:Nat):Nat->Int
 | 0=>0
 | i+1=>blkS xs w Y X c i+rowS xs w (Y+i) X c
theorem rowS_bd {xs:List Int} (h:AllIn (-16777216) 16777216 xs) (w v X:Int):∀ j:Nat,-(16777216*j)<=rowS xs w v X j/\rowS xs w v X j<=16777216*j
 | 0=>by simp[rowS]
 | j+1=>by
  have:=rowS_bd h w v X j
  have:=rd_bd h (by omega) (by omega) (v*w+(X+j))
  simp only[rowS]
  omega
theorem blkS_bd {xs:List Int} (h:AllIn (-16777216) 16777216 xs) (w Y X:Int) {c:Nat} (hc:c<=200):∀ i:Nat,-(3355443200*i)<=blkS xs w Y X c i/\blkS xs w Y X c i<=3355443200*i
 | 0=>by simp[blkS]
 | i+1=>by
  have:=blkS_bd h w Y X hc i
  have:=rowS_bd h w (Y+i) X c
  simp only[blkS]
  omega
def two (y h:Int):Nat:=(min (2*y+2) h-2*y).toNat
def halfF (w h:Int) (xs:List Int) (k:Nat):Int:=
 meanI (blkS xs w (2*((k / ((w+1) / 2).toNat:Nat):Int)) (2*((k % ((w+1) / 2).toNat:Nat):Int)) (two (k % ((w+1) / 2).toNat:Nat) w) (two (k / ((w+1) / 2).toNat:Nat) h))
  ((two (k / ((w+1) / 2).toNat:Nat) h:Int)*two (k % ((w+1) / 2).toNat:Nat) w)
theorem dm_at {w v u:Nat} (hu:u<w):(v*w+u) / w=v/\(v*w+u) % w=u:=by
 constructor
 ·rw[Nat.mul_comm,Nat.mul_add_div (by omega),Nat.div_eq_of_lt hu,Nat.add_zero]
 ·rw[Nat.mul_comm,Nat.mul_add_mod,Nat.mod_eq_of_lt hu]
theorem halfF_at {w h:Int} {xs:List Int} {W y x:Nat} (hW:((w+1) / 2).toNat=W) (hx:x<W) :
  halfF w h xs (y*W+x)=meanI (blkS xs w (2*(y:Int)) (2*(x:Int)) (two x w) (two y h)) ((two y h:Int)*two x w):=by
 unfold halfF
 rw[hW,(dm_at hx).1,(dm_at hx).2]
def half (p:Pl):Pl:=if p.Ok then ⟨(p.w+1) / 2,(p.h+1) / 2,tabl (((p.h+1) / 2).toNat*((p.w+1) / 2).toNat) (halfF p.w p.h p.xs)⟩else pl0
def fs108:FS where
 A:=PlA
 args:=fun a=>[plV a.p a.L 0]
 mem:=fun a=>[some (.ro,a.L,.ints .i64 a.p.xs)]
 pre:=fun a=>a.p.xs.length<=140737488355328
 res:=fun a x=>.tup [plV (half a.p) (lx a.p.Ok x 0) 1,.int .i64 (if a.p.Ok then 0 else 70)]
 new:=fun a x=>[(lx a.p.Ok x 0,.ints .i64 (half a.p).xs)]
theorem ok108:FSOk Tryz.prog 108 fs108:=by
 refine hd_ (fk_ Tryz.func108) fun a hp=>?_
 obtain⟨⟨w,h,xs⟩,L⟩:=a
 change xs.length<=140737488355328 at hp
 change Tri Tryz.prog 108 [plV ⟨w,h,xs⟩ L 0] [some (.ro,L,.ints .i64 xs)] (postF fs108 ⟨⟨w,h,xs⟩,L⟩)
 refine tri_evS (hyp (l:=[(98,ent98),(90,ent90)]) (lp:=[(155,meanF)]) ⟨e98,e90,trivial⟩ ⟨p155,trivial⟩) Tryz.func108 comp108 (rs:=[.cell 2 (some 3),.tmp 3]) (by rfl) Tryz.ntmps108 21 ?_
 simp -implicitDefEqProofs only[push_cast,zz,seval,ir108,fs98,fs90]
 refine fun X=>⟨hp,fun hn=>?_,fun hy=>?_⟩
 ·refine postF.mk' (fun _=>default) [some 0,none] ?_
  simp -implicitDefEqProofs only[push_cast,zz,seval,fs108,half,hn,if_false,lx,pl0]
 obtain⟨hs,hl,ha⟩:SidesOk w h/\(xs.length:Int)=w*h/\AllIn (-16777216) 16777216 xs:=id hy
 obtain⟨a1,a2,a3,a4,a5⟩:=id hs
 obtain⟨W,hW⟩:∃ W:Nat,(w+1) / 2=(W:Int):=⟨((w+1) / 2).toNat,by omega⟩
 obtain⟨H,hH⟩:∃ H:Nat,(h+1) / 2=(H:Int):=⟨((h+1) / 2).toNat,by omega⟩
 have hHW:=mul_bd (a:=(W:Int)) (b:=H) (A:=w) (B:=h) (by omega) (by omega) (by omega) (by omega)
 rw[hW,hH]
 intro X1
 have hsO:SidesOk W H:=⟨by omega,by omega,by omega,by omega,by omega⟩
 have ez:((W:Int)*H).toNat=H*W:=by rw[Int.mul_comm,<-Int.natCast_mul,Int.toNat_natCast]
 repeat refine om_ ?_
 have eW:((w+1) / 2).toNat=W:=by omega
 refine evS_loopU (A:=Nat) kp108_1 kl108_1 (fun y=>[(26,.int .i64 y)]) (fun y=>[(16,.mine,X1 8 16,.ints .i64 (prt (H*W) (y*W) (halfF w h xs)))]) (fun y=>y<=H) (fun y=>H-y) 0 (by omega) (Sub.pt ?_) ?_
 ·simp -implicitDefEqProofs only[push_cast,zz,seval,zs,ez,prt_zero]
 intro y (hy1:y<=H) K1 hK1
 simp -implicitDefEqProofs only[push_cast,zz,seval,b108_1,r108_8,r108_9]
 refine⟨fun hl1=>?_,fun hl1=>?_⟩
 ·refine evS_loopU (A:=Nat) kp108_2 kl108_2 (fun x=>[(31,.int .i64 x)]) (fun x=>[(16,.mine,X1 8 16,.ints .i64 (prt (H*W) (y*W+x) (halfF w h xs)))]) (fun x=>x<=W) (fun x=>W-x) 0 (by omega) (Sub.pt ?_) ?_
  ·simp -implicitDefEqProofs only[push_cast,zz,seval]
  intro x (hx1:x<=W) K2 hK2
  simp -implicitDefEqProofs only[push_cast,zz,seval,b108_2,r108_7,r108_8]
  refine⟨fun hl2=>?_,fun hl2=>?_⟩
  ·repeat refine om_ ?_
   obtain⟨c,hc⟩:∃ c,two x w=c:=⟨_,rfl⟩
   obtain⟨r,hr⟩:∃ c,two y h=c:=⟨_,rfl⟩
   have hc1:1<=c/\c<=2/\min (2*(x:Int)+2) w=2*x+c:=by unfold two at hc;omega
   have hr1:1<=r/\r<=2/\min (2*(y:Int)+2) h=2*y+r:=by unfold two at hr;omega
   have hrc:=mul_bd (a:=(r:Int)) (b:=c) (A:=2) (B:=2) (by omega) (by omega) (by omega) (by omega)
   have hrc0:0<(r:Int)*c:=Int.mul_pos (by omega) (by omega)
   refine evS_loopU (A:=Nat) kp108_3 kl108_3 (fun i=>[(7,.int .i64 (blkS xs w (2*y) (2*x) c i)),(8,.int .i64 ((i:Int)*c)),(9,.int .i64 (2*y+i))]) (fun _=>[]) (fun i=>i<=r) (fun i=>r-i) 0 (by omega) (Sub.pt ?_) ?_
   ·simp -implicitDefEqProofs only[push_cast,zz,seval,blkS,Int.zero_mul,Int.add_zero,Int.natCast_zero]
   intro i (hi1:i<=r) K3 hK3
   simp -implicitDefEqProofs only[push_cast,zz,seval,b108_3,r108_6,hr1.2.2]
   repeat refine om_ ?_
   refine⟨fun hl3=>?_,fun hl3=>?_⟩
   ·repeat refine om_ ?_
    refine evS_loopU (A:=Nat) kp108_4 kl108_4 (fun j=>[(7,.int .i64 (blkS xs w (2*y) (2*x) c i+rowS xs w (2*y+i) (2*x) j)),(8,.int .i64 ((i:Int)*c+j)),(10,.int .i64 (2*x+j))]) (fun _=>[]) (fun j=>j<=c) (fun j=>c-j) 0 (by omega) (Sub.pt ?_) ?_
    ·simp -implicitDefEqProofs only[push_cast,zz,seval,rowS,Int.add_zero,Int.natCast_zero]
    intro j (hj1:j<=c) K4 hK4
    have bS:=blkS_bd ha w (2*y) (2*x) (c:=c) (by omega) i
    have bR:=rowS_bd ha w (2*y+i) (2*x) j
    have hic:=mul_bd (a:=(i:Int)) (b:=c) (A:=2) (B:=2) (by omega) (by omega) (by omega) (by omega)
    simp -implicitDefEqProofs only[push_cast,zz,seval,b108_4,r108_5,hc1.2.2]
    repeat refine om_ ?_
    refine⟨fun hl4=>?_,fun hl4=>?_⟩
    ·have hix:=idx_bd (a:=2*(y:Int)+i) (b:=2*(x:Int)+j) (W:=w) (H:=h) (by omega) (by omega) (by omega) (by omega)
     have hvw:=mul_bd (a:=2*(y:Int)+i) (b:=w) (A:=200) (B:=200) (by omega) (by omega) (by omega) (by omega)
     have bV:=rd_bd ha (by omega) (by omega) ((2*(y:Int)+i)*w+(2*x+j))
     repeat refine om_ ?_
     refine hK4 (j+1) (by omega) (by omega) _ _ (Sub.pt ?_)
     simp -implicitDefEqProofs only[push_cast,zz,seval,rowS,<-Int.add_assoc]
    ·repeat refine om_ ?_
     refine hK3 (i+1) (by omega) (by omega) _ _ (Sub.pt ?_)
     have hj:j=c:=by omega
     simp -implicitDefEqProofs only[push_cast,zz,seval,blkS,hj,Int.add_mul,Int.one_mul,<-Int.add_assoc]
   ·have hir:i=r:=by omega
    have bS:=blkS_bd ha w (2*y) (2*x) (c:=c) (by omega) i
    have hy2:=mul_bd (a:=(y:Int)) (b:=W) (A:=100) (B:=100) (by omega) (by omega) (by omega) (by omega)
    have hix:=idx_bd (a:=(y:Int)) (b:=(x:Int)) (W:=W) (H:=H) (by omega) (by omega) (by omega) (by omega)
    have lP:=prt_length (n:=H*W) (i:=y*W+x) (by rw[<-Int.ofNat_le];simp only[Int.natCast_add,Int.natCast_mul];rw[Int.mul_comm (H:Int)];omega) (halfF w h xs)
    subst hir
    repeat refine om_ ?_
    refine hK2 (x+1) (by omega) (by omega) _ _ (Sub.pt ?_)
    have et:((y:Int)*W+x).toNat=y*W+x:=by
     have:((y*W+x:Nat):Int)=(y:Int)*W+x:=by simp
     omega
    have hlt:y*W+x<H*W:=by
     rw[<-Int.ofNat_lt];simp only[Int.natCast_add,Int.natCast_mul];rw[Int.mul_comm (H:Int)];omega
    have q:(prt (H*W) (y*W+x) (halfF w h xs)).set (y*W+x) (meanI (blkS xs w (2*y) (2*x) c i) ((i:Int)*c))=prt (H*W) (y*W+x+1) (halfF w h xs):=by
     rw[<-prt_set hlt,halfF_at eW (by omega),hc,hr]
    simp -implicitDefEqProofs only[push_cast,zz,seval,et,q,<-Nat.add_assoc]
  ·repeat refine om_ ?_
   have hxW:x=W:=by omega
   refine hK1 (y+1) (by omega) (by omega) _ _ (Sub.pt ?_)
   have e3:(y+1)*W=y*W+W:=by rw[Nat.add_mul,Nat.one_mul]
   simp -implicitDefEqProofs only[push_cast,zz,seval,e3,hxW]
 ·obtain rfl:y=H:=by omega
  refine postF.mk' (fun _=>X1 8 16) [some 0,some 16] ?_
  have e4:half ⟨w,h,xs⟩=⟨W,y,tabl (y*W) (halfF w h xs)⟩:=by
   unfold half;rw[if_pos hy];simp only[hW,hH,Int.toNat_natCast]
  have e5:((y*W:Nat):Int)=(W:Int)*y:=by rw[Int.natCast_mul,Int.mul_comm]
  simp -implicitDefEqProofs only[push_cast,zz,seval,fs108,hy,e4,lx,if_true,prt_all,tabl_length,e5]
def ent108:Entry:=spOf fs108 inv98
theorem e108:EntryOk Tryz.prog 108 ent108:=entry_of ok108 inv98
@[push_cast] theorem ent108_a u l x k:ent108 u l x k=spOf fs108 inv98 u l x k:=rfl
def b138_1:IR:=
 .seq (r_ [b_ 42 .lss 41 40] []) (.seq (.cond (.t 42) (.skip) (.exit 0)) (.seq (.block 1 (.seq (r_ [m_ 43 41,m_ 9 43] [42,43]) (R_ [f_ 44 8 2,l_ 45 44,m_ 46 9,f_ 47 3 2,l_ 48 47,m_ 49 9,m_ 50 1,b_ 51 .quo 49 50,c_ 52 .quo 51 2,f_ 53 3 0,l_ 54 53,b_ 55 .mul 52 54,m_ 56 9,m_ 57 1,b_ 58 .rem 56 57,c_ 59 .quo 58 2,b_ 60 .add 55 59,i_ 61 48 60 1,L_ 62 61,i_ 63 45 46 1,S_ 1 .i64 63 62] [9,44,45,46,47,48,49,50,51,52,53,54,55,56,57,58,59,60,61,62,63]))) (r_ [a_ 64 41 1,m_ 41 64] [64])))
def r138_2:IR:=
 .seq (r_ [o_ 65 (.ld false (some 3) 0 0 (.t 8)),s_ 3 .i64 6 65,z_ 7 0] [1,3,8,40,41,65]) (.ret)
def ir138:IR:=
 .seq (r_ [o_ 3 (.box 10 (.t 0)),o_ 6 (.alloc 11 [y_,y_,nilSV]),z_ 7 0] [0,7]) (.seq (.seq (r_ [o_ 10 (.ld false (some 3) 0 0 (.t 3)),o_ 11 (.call (some 4) 12 98 [.t 10]),o_ 12 (.not (.t 11))] [10,11]) (.cond (.t 12) (.seq (r_ [o_ 13 (.build [y_,y_,nilSV] []),s_ 3 .i64 6 13,z_ 7 70] [1,2,3,12,13]) (.ret)) (.skip))) (.seq (.seq (r_ [m_ 14 1,m_ 15 2,o_ 16 (.callp 105 [.t 14,.t 15]),o_ 17 (.not (.t 16)),m_ 18 17,q_ 18 (f_ 19 3 0),q_ 18 (l_ 20 19),q_ 18 (m_ 21 1),q_ 18 (a_ 22 21 1),q_ 18 (c_ 23 .quo 22 2),q_ 18 (b_ 24 .neq 20 23),k_ 25 18 24,m_ 26 25,q_ 26 (f_ 27 3 1),q_ 26 (l_ 28 27),q_ 26 (m_ 29 2),q_ 26 (a_ 30 29 1),q_ 26 (c_ 31 .quo 30 2),q_ 26 (b_ 32 .neq 28 31),k_ 33 26 32] [7,12,14,15,16,17,18,19,20,21,22,23,24,25,26,27,28,29,30,31,32]) (.cond (.t 33) (.seq (r_ [o_ 34 (.build [y_,y_,nilSV] []),s_ 3 .i64 6 34,z_ 7 2] [1,2,3,33,34]) (.ret)) (.skip))) (.seq (r_ [m_ 35 1,m_ 36 2,o_ 37 (.call (some 4) 16 90 [.t 35,.t 36]),o_ 8 (.alloc 20 [y_,y_,nilSV]),s_ 3 .i64 8 37] [2,7,33,35,36,37]) (.seq (.seq (r_ [f_ 38 8 2,l_ 39 38,h_ 40 39,z_ 41 0] [38,39]) (.block 0 (.loop b138_1))) (r138_2)))))
def kp138_1:List Nat:=[1,3,6,8,40,41]
def kl138_1:List Nat:=[]
attribute [push_cast] kp138_1 kl138_1
set_option maxRecDepth 4000 in
theorem comp138:(Tryz.f138.body.bind fun c=>compC tab isP chkAll ir138 c)=some ir138:=by kernel_rfl
structure PlD where
 a:PlA
 w:Int
 h:Int
def PlD.fit (d:PlD):Prop:=SidesOk d.w d.h/\d.a.p.w=(d.w+1) / 2/\d.a.p.h=(d.h+1) / 2
instance (d:PlD):Decidable d.fit:=by unfold PlD.fit;infer_instance
def PlD.Ok (d:PlD):Prop:=d.a.p.Ok/\d.fit
instance (d:PlD):Decidable d.Ok:=by unfold PlD.Ok;infer_instance
def dblF (w pw:Int) (xs:List Int):Nat->Int:=fun k=>rd xs ((k:Int) / w / 2*pw+(k:Int) % w / 2)
def dbl (d:PlD):Pl:=if d.Ok then ⟨d.w,d.h,tabl (d.w*d.h).toNat (dblF d.w d.a.p.w d.a.p.xs)⟩else pl0
def fs138:FS where
 A:=PlD
 args:=fun d=>[plV d.a.p d.a.L 0,.int .i64 d.w,.int .i64 d.h]
 mem:=fun d=>[some (.ro,d.a.L,.ints .i64 d.a.p.xs)]
 pre:=fun d=>d.a.p.xs.length<=140737488355328
 res:=fun d x=>.tup [plV (dbl d) (lx d.Ok x 0) 1,.int .i64 (if d.Ok then 0 else if d.a.p.Ok then 2 else 70)]
 new:=fun d x=>[(lx d.Ok x 0,.ints .i64 (dbl d).xs)]
def inv138:List SV->Look->Option (PlD×List Nat)
 | [v,.int .i64 w,.int .i64 h],look=>match getP look v with
  | some (a,g)=>some (⟨a,w,h⟩,g)
  | _=>none
 | _,_=>none
attribute [push_cast] inv138
theorem ok138:FSOk Tryz.prog 138 fs138:=by
 refine hd_ (fk_ Tryz.func138) fun a hp=>?_
 obtain⟨⟨⟨pw,ph,xs⟩,L⟩,w,h⟩:=a
 change xs.length<=140737488355328 at hp
 change Tri Tryz.prog 138 [plV ⟨pw,ph,xs⟩ L 0,.int .i64 w,.int .i64 h] [some (.ro,L,.ints .i64 xs)] (postF fs138 ⟨⟨⟨pw,ph,xs⟩,L⟩,w,h⟩)
 refine tri_evS (hyp (l:=[(98,ent98),(90,ent90)]) (lp:=[(105,sidesF)]) ⟨e98,e90,trivial⟩ ⟨p105,trivial⟩) Tryz.func138 comp138 (rs:=[.cell 6 (some 3),.tmp 7]) (by rfl) Tryz.ntmps138 21 ?_
 simp -implicitDefEqProofs only[push_cast,zz,seval,ir138,fs98,fs90]
 refine fun X=>⟨hp,fun hn=>?_,fun hy=>?_⟩
 ·have e:¬ (⟨⟨⟨pw,ph,xs⟩,L⟩,w,h⟩:PlD).Ok:=fun H=>hn H.1
  refine postF.mk' (fun _=>default) [some 0,none] ?_
  simp -implicitDefEqProofs only[push_cast,zz,seval,fs138,dbl,e,hn,if_false,lx,pl0]
 have hS:SidesOk w h->0<=w/\0<=h/\w<=200/\h<=200/\w*h<=8192:=id
 refine⟨fun H=>⟨H,?_⟩,fun H=>⟨H,?_⟩,fun H=>⟨H,?_⟩,fun H=>⟨H,?_⟩,fun hb=>?_,fun hg X1=>?_⟩
 ·have:=hS H;omega
 ·have:=hS H;omega
 ·have:=hS (Classical.byContradiction fun q=>H (.inl q));omega
 ·have:=hS (Classical.byContradiction fun q=>H (.inl q));omega
 ·have e:¬ (⟨⟨⟨pw,ph,xs⟩,L⟩,w,h⟩:PlD).Ok:=fun H=>by
   obtain⟨_,b1,b2,b3⟩:=H
   simp only at b1 b2 b3
   simp[b1,b2,b3]at hb
  refine postF.mk' (fun _=>default) [some 0,none] ?_
  simp -implicitDefEqProofs only[push_cast,zz,seval,fs138,dbl,e,hy,if_false,if_true,lx,pl0]
 have hs:SidesOk w h:=Classical.byContradiction fun q=>hg (.inl (.inl q))
 have hw2:pw=(w+1) / 2:=Classical.byContradiction fun q=>hg (.inl (.inr q))
 have hh2:ph=(h+1) / 2:=Classical.byContradiction fun q=>hg (.inr q)
 have e:(⟨⟨⟨pw,ph,xs⟩,L⟩,w,h⟩:PlD).Ok:=⟨hy,hs,hw2,hh2⟩
 have hm:=hs.bd
 obtain⟨a1,a2,a3,a4,a5⟩:=id hs
 obtain⟨hps,hl,ha⟩:SidesOk pw ph/\(xs.length:Int)=pw*ph/\AllIn (-16777216) 16777216 xs:=id hy
 refine⟨hs,?_⟩
 refine evS_loopU (A:=Nat) kp138_1 kl138_1 (fun k=>[(41,.int .i64 k)]) (fun k=>[(16,.mine,X1 2 16,.ints .i64 (prt (w*h).toNat k (dblF w pw xs)))]) (fun k=>k<=(w*h).toNat) (fun k=>(w*h).toNat-k) 0 (by omega) (Sub.pt ?_) ?_
 ·simp -implicitDefEqProofs only[push_cast,zz,seval,zs,prt_zero]
 intro k (hk:k<=(w*h).toNat) K hK
 simp -implicitDefEqProofs only[push_cast,zz,seval,b138_1,r138_2]
 refine⟨fun hk1=>?_,fun hk1=>?_⟩
 ·have hk':k<(w*h).toNat:=by omega
  obtain⟨b1,b2,b3,b4,b5⟩:=dm_bd (k:=k) (by omega) hk1 a1
  have hi:=idx_bd (a:=(k:Int) / w / 2) (b:=(k:Int) % w / 2) (W:=pw) (H:=ph) (by omega) (by omega) (by omega) (by omega)
  have hmb:=mul_bd (show 0<=(k:Int) / w / 2 by omega) (show(k:Int) / w / 2<=200 by omega) hps.1 hps.2.2.1
  have lP:=prt_length hk (dblF w pw xs)
  repeat refine om_ ?_
  refine hK (k+1) (by omega) (by omega) _ _ (Sub.pt ?_)
  have q:(prt (w*h).toNat k (dblF w pw xs)).set k (rd xs ((k:Int) / w / 2*pw+(k:Int) % w / 2))=prt (w*h).toNat (k+1) (dblF w pw xs):=prt_set hk' _
  simp -implicitDefEqProofs only[push_cast,zz,seval,q,Int.toNat_natCast]
 ·obtain rfl:k=(w*h).toNat:=by omega
  refine postF.mk' (fun _=>X1 2 16) [some 0,some 16] ?_
  simp -implicitDefEqProofs only[push_cast,zz,seval,fs138,dbl,e,lx,if_true,prt_all,tabl_length,Int.toNat_of_nonneg hm.1]
def ent138:Entry:=spOf fs138 inv138
theorem e138:EntryOk Tryz.prog 138 ent138:=entry_of ok138 inv138
@[push_cast] theorem ent138_a u l x k:ent138 u l x k=spOf fs138 inv138 u l x k:=rfl
structure Bm where
 w:Int
 h:Int
 xs:List Int
structure BmA where
 b:Bm
 L:Xf.Loc
def Bits (xs:List Int):Prop:=∀ n,n∈xs->n<=1
instance (xs:List Int):Decidable (Bits xs):=by unfold Bits;infer_instance
def Bm.Ok (b:Bm):Prop:=SidesOk b.w b.h/\b.xs.length=b.w*b.h/\Bits b.xs
instance (b:Bm):Decidable b.Ok:=by unfold Bm.Ok;infer_instance
structure AtA where
 a:BmA
 x:Int
 y:Int
def AtA.inside (a:AtA):Prop:=0<=a.x/\0<=a.y/\a.x<a.a.b.w/\a.y<a.a.b.h
instance (a:AtA):Decidable a.inside:=by unfold AtA.inside;infer_instance
theorem tabl_set {n i:Nat} (hi:i<n) (f:Nat->Int) (c:Int):(tabl n f).set i c=tabl n (fun j=>if j=i then c else f j):=by
 apply List.ext_getElem (by simp[tabl])
 intro j h1 h2
 simp only[tabl,List.getElem_set,List.getElem_map,List.getElem_range]
 by_cases e:j=i
 ·subst e;simp
 ·simp[e,Ne.symm e]
def nearP (n:Int):Prop:=-100000<=n/\n<=100000
instance (n:Int):Decidable (nearP n):=by unfold nearP;infer_instance
structure PaintA where
 a:ImA
 b:BmA
 x:Int
 y:Int
 r:Int
 g:Int
 bl:Int
def PaintA.fit (P:PaintA):Prop:=P.b.b.Ok/\nearP P.x/\nearP P.y/\ValOk P.r/\ValOk P.g/\ValOk P.bl
instance (P:PaintA):Decidable P.fit:=by unfold PaintA.fit;infer_instance
def PaintA.Ok (P:PaintA):Prop:=P.a.i.Ok/\P.fit
instance (P:PaintA):Decidable P.Ok:=by unfold PaintA.Ok;infer_instance
def ir146:IR:=
 .seq (r_ [o_ 2 (.mov (.k (.bool false)))] [2]) (.seq (r_ [m_ 3 0,c_ 4 .eql 3 0,m_ 5 4,q_ 5 (m_ 6 0),q_ 5 (c_ 7 .eql 6 1),k_ 8 5 7,m_ 2 8] [0,3,4,5,6,7,8]) (.ret))
set_option maxRecDepth 4000 in
theorem comp146:(Tryz.f146.body.bind fun c=>compC tab isP chkAll ir146 c)=some ir146:=by kernel_rfl
def ir148:IR:=
 .seq (r_ [o_ 3 (.mov (.k (.bool false)))] [3]) (.seq (r_ [m_ 4 0,l_ 5 1,o_ 6 (.neg 0 (.t 5)),b_ 7 .lss 4 6,m_ 8 7,q_ 8 (m_ 9 0),q_ 8 (l_ 10 1),q_ 8 (b_ 11 .gtr 9 10),k_ 12 8 11,m_ 3 12] [0,1,4,5,6,7,8,9,10,11,12]) (.ret))
set_option maxRecDepth 4000 in
theorem comp148:(Tryz.f148.body.bind fun c=>compC tab isP chkAll ir148 c)=some ir148:=by kernel_rfl
def ir92:IR:=
 .seq (r_ [o_ 3 (.box 10 (.t 1)),o_ 4 (.mov (.k (.bool false)))] [1,4]) (.seq (r_ [m_ 5 0,o_ 6 (.mkf 148 [.t 3]),o_ 7 (.call (some 4) 11 147 [.t 5,.t 6]),o_ 8 (.not (.t 7)),m_ 4 8] [0,3,5,6,7,8]) (.ret))
set_option maxRecDepth 4000 in
theorem comp92:(Tryz.f92.body.bind fun c=>compC tab isP chkAll ir92 c)=some ir92:=by kernel_rfl
def kindF:EntryP
 | [.int .i64 k]=>some (True,.bool (decide (k=0∨k=1)))
 | _=>none
attribute [push_cast] kindF
theorem p146:EntryPOk Tryz.prog 146 kindF:=by
 refine⟨fk_ Tryz.func146,fun us p v h hp=>?_⟩
 unfold kindF at h
 split at h<;>cases h
 refine tri_evS (hyp (l:=[]) (lp:=[]) trivial trivial) Tryz.func146 comp146 (rs:=[.tmp 2]) (by rfl) Tryz.ntmps146 10 ?_
 simp -implicitDefEqProofs only[push_cast,zz,seval,ir146,kindF]
structure Row2w where
 L:Xf.Loc
 xs:List Int
 M:Xf.Loc
 ys:List Int
structure OutU where
 L1:Xf.Loc
 n:Int
 m:Int
def fs148:FS where
 A:=OutU
 args:=fun a=>[.int .i64 a.n,.ptr 0 a.L1 0 0 0]
 mem:=fun a=>[some (.ro,a.L1,.cells [.int .i64 a.m])]
 pre:=fun a=>0<=a.m/\a.m<=1099511627776
 res:=fun a _=>.bool (outB (-a.m) a.m a.n)
def inv148:List SV->Look->Option (OutU×List Nat)
 | [.int .i64 n,.ptr c1 _ 0 0 0],look=>match rowC (look c1)with
  | some (L1,[.int .i64 m])=>some (⟨L1,n,m⟩,[c1])
  | _=>none
 | _,_=>none
attribute [push_cast] inv148
theorem ok148:FSOk Tryz.prog 148 fs148:=by
 refine hd_ (fk_ Tryz.func148) fun a hp=>?_
 obtain⟨L1,n,m⟩:=a
 obtain⟨h1,h2⟩:0<=m/\m<=1099511627776:=hp
 change Tri Tryz.prog 148 [.int .i64 n,.ptr 0 L1 0 0 0] [some (.ro,L1,.cells [.int .i64 m])] (postF fs148 ⟨L1,n,m⟩)
 refine tri_evS (hyp (l:=[]) (lp:=[]) trivial trivial) Tryz.func148 comp148 (rs:=[.tmp 3]) (by rfl) Tryz.ntmps148 10 ?_
 simp -implicitDefEqProofs only[push_cast,zz,seval,ir148]
 repeat refine om_ ?_
 refine postF.mk' (fun _=>default) [some 0] ?_
 simp -implicitDefEqProofs only[push_cast,zz,seval,fs148,outB]
def ent148:Entry:=spOf fs148 inv148
theorem e148:EntryOk Tryz.prog 148 ent148:=entry_of ok148 inv148
@[push_cast] theorem ent148_a u l x k:ent148 u l x k=spOf fs148 inv148 u l x k:=rfl
structure OutV where
 L:Xf.Loc
 xs:List Int
 L1:Xf.Loc
 m:Int
def fs194u:FS where
 A:=OutV
 args:=fun a=>[.sl 0 a.L 1 0 a.xs.length,.fn 148 [.ptr 1 a.L1 0 0 0]]
 mem:=fun a=>[some (.ro,a.L,.ints .i64 a.xs),some (.ro,a.L1,.cells [.int .i64 a.m])]
 pre:=fun a=>a.xs.length<=140737488355328/\0<=a.m/\a.m<=1099511627776
 res:=fun a _=>.int .i64 (firstB (outB (-a.m) a.m) a.xs)
def inv194u:List SV->Look->Option (OutV×List Nat)
 | [.sl c _ 1 0 _,.fn 148 [.ptr c1 _ 0 0 0]],look=>match rowI (lkZ look (.ints .i64 []) c),rowC (look c1)with
  | some (L,.i64,xs),some (L1,[.int .i64 m])=>some (⟨L,xs,L1,m⟩,[c,c1])
  | _,_=>none
 | _,_=>none
attribute [push_cast] inv194u
theorem ok194u:FSOk Tryz.prog 194 fs194u:=by
 refine hd_ (fk_ Tryz.func194) fun a hp=>?_
 obtain⟨L,xs,L1,m⟩:=a
 obtain⟨hp,hm1,hm2⟩:xs.length<=140737488355328/\0<=m/\m<=1099511627776:=hp
 change Tri Tryz.prog 194 [.sl 0 L 1 0 xs.length,.fn 148 [.ptr 1 L1 0 0 0]] [some (.ro,L,.ints .i64 xs),some (.ro,L1,.cells [.int .i64 m])] (postF fs194u ⟨L,xs,L1,m⟩)
 refine tri_evS (hyp (l:=[(148,ent148)]) (lp:=[]) ⟨e148,trivial⟩ trivial) Tryz.func194 comp194 (rs:=[.tmp 4]) (by rfl) Tryz.ntmps194 14 ?_
 simp -implicitDefEqProofs only[push_cast,zz,seval,ir194]
 refine evS_loopU (A:=Nat) kp194_1 kl194_1 (fun i=>[(8,.int .i64 i)]) (fun _=>[])
  (fun i=>i<=xs.length/\∀ j,j<i->outB (-m) m (rd xs (j:Nat))=false) (fun i=>xs.length-i) 0 ⟨by omega,by omega⟩ (Sub.pt ?_) ?_
 ·simp -implicitDefEqProofs only[push_cast,zz,seval]
 intro i ⟨h1,h2⟩ K hK
 simp -implicitDefEqProofs only[push_cast,zz,seval,b194_1,r194_2,fs148]
 refine⟨fun h=>?_,fun h=>?_⟩
 ·repeat refine om_ ?_
  refine⟨fun hb=>?_,fun hb=>⟨by omega,by omega,?_⟩⟩
  ·have e:=firstB_at (by omega) hb h2
   exact postF.mk' (fun _=>default) [some 0,some 1] (by simp -implicitDefEqProofs only[push_cast,zz,seval,fs194u,e])
  ·refine hK (i+1) ⟨by omega,?_⟩ (show xs.length-(i+1)<xs.length-i by omega) _ _ (Sub.pt ?_)
   ·intro j hj
    by_cases e:j=i
    ·subst e;exact hb
    ·exact h2 j (by omega)
   ·simp -implicitDefEqProofs only[push_cast,zz,seval]
 ·have e:=firstB_no (p:=outB (-m) m) (xs:=xs) (fun j hj=>h2 j (by omega))
  exact postF.mk' (fun _=>default) [some 0,some 1] (by simp -implicitDefEqProofs only[push_cast,zz,seval,fs194u,e])
def ent194u:Entry:=spOf fs194u inv194u
theorem e194u:EntryOk Tryz.prog 194 ent194u:=entry_of ok194u inv194u
@[push_cast] theorem ent194u_app (us:List SV) (look:Look) (x:Nat->Xf.Loc) (k:Nat):ent194u us look x k=spOf fs194u inv194u us look x k:=rfl
def fs147u:FS:={ fs194u with res:=fun a _=>.bool (decide (¬ AllIn (-a.m) a.m a.xs)) }
theorem ok147u:FSOk Tryz.prog 147 fs147u:=by
 refine hd_ (fk_ Tryz.func147) fun a hp=>?_
 obtain⟨L,xs,L1,m⟩:=a
 change Tri Tryz.prog 147 [.sl 0 L 1 0 xs.length,.fn 148 [.ptr 1 L1 0 0 0]] [some (.ro,L,.ints .i64 xs),some (.ro,L1,.cells [.int .i64 m])] (postF fs147u ⟨L,xs,L1,m⟩)
 refine tri_evS (hyp (l:=[(194,ent194u)]) (lp:=[]) ⟨e194u,trivial⟩ trivial) Tryz.func147 comp147 (rs:=[.tmp 4]) (by rfl) Tryz.ntmps147 14 ?_
 obtain⟨h1,h2,h3⟩:=hp
 simp -implicitDefEqProofs only[push_cast,zz,seval,ir147,fs194u]
 exact⟨h1,h2,h3,postF.mk' (fun _=>default) [some 0,some 1] (by simp -implicitDefEqProofs only[push_cast,zz,seval,fs147u,fs194u,allIn_iff])⟩
def ent147u:Entry:=spOf fs147u inv194u
theorem e147u:EntryOk Tryz.prog 147 ent147u:=entry_of ok147u inv194u
@[push_cast] theorem ent147u_app (us:List SV) (look:Look) (x:Nat->Xf.Loc) (k:Nat):ent147u us look x k=spOf fs147u inv194u us look x k:=rfl
structure RowM where
 L:Xf.Loc
 xs:List Int
 m:Int
def fs92:FS where
 A:=RowM
 args:=fun a=>[.sl 0 a.L 1 0 a.xs.length,.int .i64 a.m]
 mem:=fun a=>[some (.ro,a.L,.ints .i64 a.xs)]
 pre:=fun a=>a.xs.length<=140737488355328/\0<=a.m/\a.m<=1099511627776
 res:=fun a _=>.bool (decide (AllIn (-a.m) a.m a.xs))
def inv92:List SV->Look->Option (RowM×List Nat)
 | [.sl c _ 1 0 _,.int .i64 m],look=>match rowI (lkZ look (.ints .i64 []) c)with
  | some (L,.i64,xs)=>some (⟨L,xs,m⟩,[c])
  | _=>none
 | _,_=>none
attribute [push_cast] inv92
theorem ok92:FSOk Tryz.prog 92 fs92:=by
 refine hd_ (fk_ Tryz.func92) fun a hp=>?_
 obtain⟨L,xs,m⟩:=a
 obtain⟨h1,h2,h3⟩:xs.length<=140737488355328/\0<=m/\m<=1099511627776:=hp
 change Tri Tryz.prog 92 [.sl 0 L 1 0 xs.length,.int .i64 m] [some (.ro,L,.ints .i64 xs)] (postF fs92 ⟨L,xs,m⟩)
 refine tri_evS (hyp (l:=[(147,ent147u)]) (lp:=[]) ⟨e147u,trivial⟩ trivial) Tryz.func92 comp92 (rs:=[.tmp 4]) (by rfl) Tryz.ntmps92 14 ?_
 simp -implicitDefEqProofs only[push_cast,zz,seval,ir92,fs147u,fs194u,h1,h2,h3]
 exact fun X=>postF.mk' (fun _=>default) [some 0] (by simp -implicitDefEqProofs only[push_cast,zz,seval,fs92])
def ent92:Entry:=spOf fs92 inv92
theorem e92:EntryOk Tryz.prog 92 ent92:=entry_of ok92 inv92
@[push_cast] theorem ent92_a u l x k:ent92 u l x k=spOf fs92 inv92 u l x k:=rfl
def ir150:IR:=
 .seq (r_ [z_ 6 0] [6]) (.seq (.block 0 (.seq (r_ [m_ 8 1,h_ 9 8,c_ 10 .eql 9 0,m_ 11 10,q_ 11 (m_ 12 0),q_ 11 (c_ 13 .eql 12 1),q_ 11 (m_ 14 13),p_ 14 (m_ 15 2),p_ 14 (m_ 16 1),p_ 14 (h_ 17 16),p_ 14 (b_ 18 .geq 15 17),q_ 11 (K_ 19 14 18),k_ 20 11 19,m_ 7 20] [8,9,10,11,12,13,14,15,16,17,18,19,20]) (.cond (.t 7) (.seq (r_ [z_ 6 0] [0,1,2,7]) (.ret)) (.seq (r_ [m_ 22 0,c_ 23 .eql 22 1,m_ 21 23] [0,7,22,23]) (.cond (.t 21) (.seq (r_ [m_ 24 1,m_ 25 2,i_ 26 24 25 1,L_ 27 26,o_ 28 (.bin 0 .shr (.t 27) (.k (.int .u64 1))),m_ 6 28] [1,2,21,24,25,26,27,28]) (.ret)) (.skip)))))) (.seq (R_ [m_ 29 1,m_ 30 2,c_ 31 .sub 30 1,o_ 32 (.mx (.t 31) (Z_ 0)),i_ 33 29 32 1,L_ 34 33,m_ 35 1,m_ 36 2,m_ 37 1,h_ 38 37,c_ 39 .sub 38 1,o_ 40 (.mn (.t 36) (.t 39)),i_ 41 35 40 1,L_ 42 41,b_ 43 .add 34 42,a_ 44 43 2,o_ 45 (.bin 0 .shr (.t 44) (.k (.int .u64 2))),m_ 6 45] [1,2,21,29,30,31,32,33,34,35,36,37,38,39,40,41,42,43,44,45]) (.ret)))
set_option maxRecDepth 4000 in
theorem comp150:(Tryz.f150.body.bind fun c=>compC tab isP chkAll ir150 c)=some ir150:=by kernel_rfl
def b96_1:IR:=
 .seq (r_ [b_ 22 .lss 21 20] []) (.seq (.cond (.t 22) (.skip) (.exit 0)) (.seq (.block 1 (.seq (r_ [m_ 23 21,m_ 8 23] [22,23]) (.seq (R_ [m_ 24 7,m_ 25 8,m_ 26 1,m_ 27 8,o_ 28 (.bin 0 .mul (Z_ 2) (.t 27)),a_ 29 28 1,i_ 30 26 29 1,L_ 31 30,m_ 32 1,m_ 33 8,o_ 34 (.bin 0 .mul (Z_ 2) (.t 33)),i_ 35 32 34 1,L_ 36 35,b_ 37 .sub 31 36,i_ 38 24 25 1,S_ 1 .i64 38 37] [24,25,26,27,28,29,30,31,32,33,34,35,36,37,38]) (.seq (r_ [m_ 39 0,c_ 40 .eql 39 0] [39]) (.cond (.t 40) (.seq (r_ [m_ 41 1,m_ 42 8,o_ 43 (.bin 0 .mul (Z_ 2) (.t 42)),i_ 44 41 43 1,L_ 45 44,m_ 9 45] [40,41,42,43,44,45]) (.seq (.seq (r_ [m_ 46 8,o_ 47 (.bin 0 .mul (Z_ 2) (.t 46)),a_ 48 47 2,m_ 49 5,b_ 50 .lss 48 49] [46,47,48,49]) (.cond (.t 50) (r_ [m_ 51 1,m_ 52 8,o_ 53 (.bin 0 .mul (Z_ 2) (.t 52)),a_ 54 53 2,i_ 55 51 54 1,L_ 56 55,m_ 9 56] [50,51,52,53,54,55,56]) (.skip))) (R_ [m_ 57 7,m_ 58 8,m_ 59 1,m_ 60 8,o_ 61 (.bin 0 .mul (Z_ 2) (.t 60)),a_ 62 61 1,i_ 63 59 62 1,L_ 64 63,m_ 65 1,m_ 66 8,o_ 67 (.bin 0 .mul (Z_ 2) (.t 66)),i_ 68 65 67 1,L_ 69 68,m_ 70 9,b_ 71 .add 69 70,o_ 72 (.bin 0 .shr (.t 71) (.k (.int .u64 1))),b_ 73 .sub 64 72,i_ 74 57 58 1,S_ 1 .i64 74 73] [8,9,50,57,58,59,60,61,62,63,64,65,66,67,68,69,70,71,72,73,74]))) (.skip)))))) (r_ [a_ 75 21 1,m_ 21 75] [8,40,75])))
def b96_2:IR:=
 .seq (r_ [b_ 82 .lss 81 80] []) (.seq (.cond (.t 82) (.skip) (.exit 2)) (.seq (.block 3 (.seq (r_ [m_ 83 81,m_ 11 83] [82,83]) (R_ [m_ 84 10,m_ 85 1,m_ 86 11,o_ 87 (.bin 0 .mul (Z_ 2) (.t 86)),i_ 88 85 87 1,⟨some 89,none,⟨[12,13,14,15],[]⟩,.ld true none 0 0 (.t 88)⟩,m_ 90 0,m_ 91 7,m_ 92 11,o_ 93 (.call (some 4) 12 150 [.t 90,.t 91,.t 92]),b_ 94 .add 89 93,o_ 95 (.bslice 16 [.t 94]),o_ 96 (.app 17 1 8 (.t 84) (.t 95)),m_ 10 96] [11,84,85,86,87,88,89,90,91,92,93,94,95,96]))) (r_ [a_ 97 81 1,m_ 81 97] [97])))
def r96_3:IR:=
 .seq (r_ [m_ 98 10,m_ 99 7,o_ 100 (.app 18 1 8 (.t 98) (.t 99)),m_ 4 100] [0,1,7,10,80,81,98,99,100]) (.ret)
def r96_4:IR:=
 .seq (r_ [m_ 76 5,o_ 77 (.mks 11 (.int .i64 0) 8 (Z_ 0) (.t 76)),m_ 10 77] [20,21,76,77]) (.seq (.seq (r_ [m_ 78 5,m_ 79 6,b_ 80 .sub 78 79,z_ 81 0] [5,6,78,79]) (.block 2 (.loop b96_2))) (r96_3))
def ir96:IR:=
 .seq (r_ [o_ 4 (.mov (.k nilSV))] [4]) (.seq (r_ [m_ 12 1,h_ 13 12,m_ 14 1,h_ 15 14,c_ 16 .quo 15 2,m_ 5 13,m_ 6 16] [12,13,14,15,16]) (.seq (r_ [m_ 17 6,o_ 18 (.mks 10 (.int .i64 0) 8 (.t 17) (.t 17)),m_ 7 18] [17,18]) (.seq (.seq (r_ [m_ 19 7,h_ 20 19,z_ 21 0] [19]) (.block 0 (.loop b96_1))) (r96_4))))
def kp96_1:List Nat:=[0,1,5,6,7,20,21]
def kl96_1:List Nat:=[]
attribute [push_cast] kp96_1 kl96_1
def kp96_2:List Nat:=[0,1,7,10,80,81]
def kl96_2:List Nat:=[12,13,14,15,16,17]
attribute [push_cast] kp96_2 kl96_2
set_option maxRecDepth 4000 in
theorem comp96:(Tryz.f96.body.bind fun c=>compC tab isP chkAll ir96 c)=some ir96:=by kernel_rfl
def liftG (kind:Int) (g:Int->Int) (n i:Int):Int:=
 if n=0∨kind=1/\n<=i then 0 else if kind=1 then g i / 2 else (g (max (i-1) 0)+g (min i (n-1))+2) / 4
structure LiftA where
 kind:Int
 L:Xf.Loc
 xs:List Int
 lo:Int
 n:Int
 i:Int
def fs150:FS where
 A:=LiftA
 args:=fun a=>[.int .i64 a.kind,.sl 0 a.L 1 a.lo a.n,.int .i64 a.i]
 mem:=fun a=>[some (.ro,a.L,.ints .i64 a.xs)]
 pre:=fun a=>a.xs.length<=140737488355328/\0<=a.lo/\0<=a.n/\a.lo+a.n<=a.xs.length/\0<=a.i/\a.i<=a.n/\AllIn (-4503599627370496) 4503599627370496 a.xs
 res:=fun a _=>.int .i64 (liftG a.kind (fun j=>rd a.xs (a.lo+j)) a.n a.i)
def inv150:List SV->Look->Option (LiftA×List Nat)
 | [.int .i64 k,.sl c _ 1 lo n,.int .i64 i],look=>match rowI (lkZ look (.ints .i64 []) c)with
  | some (L,.i64,xs)=>some (⟨k,L,xs,lo,n,i⟩,[c])
  | _=>none
 | _,_=>none
attribute [push_cast] inv150
theorem ok150:FSOk Tryz.prog 150 fs150:=by
 refine hd_ (fk_ Tryz.func150) fun a hp=>?_
 obtain⟨kind,L,xs,lo,n,i⟩:=a
 obtain⟨h1,h2,h3,h4,h5,h6,h7⟩:xs.length<=140737488355328/\0<=lo/\0<=n/\lo+n<=xs.length/\0<=i/\i<=n/\AllIn (-4503599627370496) 4503599627370496 xs:=hp
 change Tri Tryz.prog 150 [.int .i64 kind,.sl 0 L 1 lo n,.int .i64 i] [some (.ro,L,.ints .i64 xs)] (postF fs150 ⟨kind,L,xs,lo,n,i⟩)
 have b1:=rd_bd h7 (by omega) (by omega) (lo+i)
 have b2:=rd_bd h7 (by omega) (by omega) (lo+max (i-1) 0)
 have b3:=rd_bd h7 (by omega) (by omega) (lo+min i (n-1))
 refine tri_evS (hyp (l:=[]) (lp:=[]) trivial trivial) Tryz.func150 comp150 (rs:=[.tmp 6]) (by rfl) Tryz.ntmps150 10 ?_
 simp -implicitDefEqProofs only[push_cast,zz,seval,ir150]
 have e1:(2:Int)^1=2:=rfl
 have e2:(2:Int)^2=4:=rfl
 refine⟨fun H=>⟨H.1,H.2,H⟩,fun H=>⟨H,fun q=>⟨H,q⟩⟩,fun h=>?_,fun h=>⟨fun hk=>?_,fun hk=>?_⟩⟩
 ·refine postF.mk' (fun _=>default) [some 0] ?_
  simp -implicitDefEqProofs only[push_cast,zz,seval,fs150,liftG,h,if_true]
 ·repeat refine om_ ?_
  refine postF.mk' (fun _=>default) [some 0] ?_
  simp -implicitDefEqProofs only[push_cast,zz,seval,fs150,liftG,h,if_false,hk,if_true,e1]
  rw[if_neg (by omega)]
 ·repeat refine om_ ?_
  refine postF.mk' (fun _=>default) [some 0] ?_
  simp -implicitDefEqProofs only[push_cast,zz,seval,fs150,e2]
  unfold liftG
  rw[if_neg h,if_neg hk]
def ent150:Entry:=spOf fs150 inv150
theorem e150:EntryOk Tryz.prog 150 ent150:=entry_of ok150 inv150
@[push_cast] theorem ent150_a u l x k:ent150 u l x k=spOf fs150 inv150 u l x k:=rfl
structure NearA where
 L:Xf.Loc
 xs:List Int
 lo:Int
 n:Int
 i:Int
def nxt (n:Int) (f:Int->Int) (i:Int):Int:=if 2*i+2<n then f (2*i+2)else f (2*i)
def hiF (kind:Int) (n:Nat) (f:Int->Int) (i:Nat):Int:=if kind=1 then f (2*i+1)-f (2*i)else f (2*i+1)-(f (2*i)+nxt n f i) / 2
def hiL (kind:Int) (n:Nat) (f:Int->Int):List Int:=tabl (n / 2) (hiF kind n f)
def loF (kind:Int) (n:Nat) (f:Int->Int) (i:Nat):Int:=f (2*i)+liftG kind (fun j=>rd (hiL kind n f) j) (n / 2:Nat) i
def lineL (kind:Int) (n:Nat) (f:Int->Int):List Int:=tabl (n-n / 2) (loF kind n f)++hiL kind n f
theorem lineL_length (kind:Int) (n:Nat) (f:Int->Int):(lineL kind n f).length=n:=by simp[lineL,hiL,tabl_length];omega
def BdF (B:Int) (f:Int->Int):Prop:=∀ j,-B<=f j/\f j<=B
theorem hiF_bd {kind:Int} {n:Nat} {f:Int->Int} {B:Int} (h:BdF B f) (i:Nat):-(2*B)<=hiF kind n f i/\hiF kind n f i<=2*B:=by
 have h1:=h (2*i)
 have h2:=h (2*i+1)
 have h3:=h (2*i+2)
 unfold hiF nxt
 split
 ·omega
 ·split<;>omega
theorem hiL_bd {kind:Int} {n:Nat} {f:Int->Int} {B:Int} (h:BdF B f):AllIn (-(2*B)) (2*B) (hiL kind n f):=by
 rw[allIn_rd]
 intro j hj
 unfold hiL at hj ⊢
 rw[tabl_length]at hj
 rw[rd_tabl hj]
 exact hiF_bd h j
theorem liftG_bd {kind:Int} {g:Int->Int} {B:Int} (h:BdF B g) (h0:0<=B) (n i:Int):-(B+1)<=liftG kind g n i/\liftG kind g n i<=B+1:=by
 have h1:=h i
 have h2:=h (max (i-1) 0)
 have h3:=h (min i (n-1))
 unfold liftG
 split
 ·omega
 ·split<;>omega
theorem BdF.rd {xs:List Int} {B:Int} (h:AllIn (-B) B xs) (h0:0<=B) (lo:Int):BdF B (fun j=>rd xs (lo+j)):=fun j=>rd_bd h (by omega) h0 _
theorem BdF.rd0 {xs:List Int} {B:Int} (h:AllIn (-B) B xs) (h0:0<=B):BdF B (fun j=>Xf.rd xs j):=fun j=>rd_bd h (by omega) h0 _
structure LineA where
 kind:Int
 L:Xf.Loc
 xs:List Int
 lo:Int
 n:Nat
def fs96:FS where
 A:=LineA
 args:=fun a=>[.int .i64 a.kind,.sl 0 a.L 1 a.lo a.n]
 mem:=fun a=>[some (.ro,a.L,.ints .i64 a.xs)]
 pre:=fun a=>(a.kind=0∨a.kind=1)/\a.xs.length<=140737488355328/\0<=a.lo/\a.lo+a.n<=a.xs.length/\a.n<=1000000/\AllIn (-1073741824) 1073741824 a.xs
 res:=fun a x=>.sl 1 (x 0) 1 0 a.n
 new:=fun a x=>[(x 0,.ints .i64 (lineL a.kind a.n (fun j=>rd a.xs (a.lo+j))))]
def inv96:List SV->Look->Option (LineA×List Nat)
 | [.int .i64 k,.sl c _ 1 lo n],look=>match rowI (lkZ look (.ints .i64 []) c)with
  | some (L,.i64,xs)=>some (⟨k,L,xs,lo,n.toNat⟩,[c])
  | _=>none
 | _,_=>none
attribute [push_cast] inv96
theorem ok96:FSOk Tryz.prog 96 fs96:=by
 refine hd_ (fk_ Tryz.func96) fun a hp=>?_
 obtain⟨kind,L,xs,lo,n⟩:=a
 obtain⟨hk,h1,h2,h3,h4,h5⟩:(kind=0∨kind=1)/\xs.length<=140737488355328/\0<=lo/\lo+n<=xs.length/\n<=1000000/\AllIn (-1073741824) 1073741824 xs:=hp
 change Tri Tryz.prog 96 [.int .i64 kind,.sl 0 L 1 lo n] [some (.ro,L,.ints .i64 xs)] (postF fs96 ⟨kind,L,xs,lo,n⟩)
 obtain⟨f,hf⟩:∃ f:Int->Int,(fun j=>rd xs (lo+j))=f:=⟨_,rfl⟩
 have hfj:∀ j,rd xs (lo+j)=f j:=fun j=>by rw[<-hf]
 have hB:BdF 1073741824 f:=by rw[<-hf];exact BdF.rd h5 (by omega) lo
 obtain⟨m,hm⟩:∃ m,n / 2=m:=⟨_,rfl⟩
 have en:((n:Int) / 2)=(m:Int):=by omega
 refine tri_evS (hyp (l:=[(150,ent150)]) (lp:=[]) ⟨e150,trivial⟩ trivial) Tryz.func96 comp96 (rs:=[.tmp 4]) (by rfl) Tryz.ntmps96 19 ?_
 simp -implicitDefEqProofs only[push_cast,zz,seval,ir96]
 rw[en]
 repeat refine om_ ?_
 intro X
 repeat refine om_ ?_
 have ez:(m:Int).toNat=m:=Int.toNat_natCast _
 refine evS_loopU (A:=Nat) kp96_1 kl96_1 (fun i=>[(21,.int .i64 i)]) (fun i=>[(10,.mine,X 1 10,.ints .i64 (prt m i (hiF kind n f)))]) (fun i=>i<=m) (fun i=>m-i) 0 (by omega) (Sub.pt ?_) ?_
 ·simp -implicitDefEqProofs only[push_cast,zz,seval,prt_zero,ez]
 intro i (hi:i<=m) K hK
 simp -implicitDefEqProofs only[push_cast,zz,seval,b96_1,r96_4]
 refine⟨fun hl=>?_,fun hl=>?_⟩
 ·have hi':i<m:=by omega
  have lP:=prt_length hi (hiF kind n f)
  have q:(prt m i (hiF kind n f)).set i (hiF kind n f i)=prt m (i+1) (hiF kind n f):=prt_set hi' _
  have b0:=hB (2*i)
  have b1:=hB (2*i+1)
  have b2:=hB (2*i+2)
  have e2:(2:Int)^1=2:=rfl
  simp only[hfj,List.length_set,e2]
  repeat refine om_ ?_
  refine⟨fun hk0=>?_,fun hk0=>?_⟩
  ·repeat refine om_ ?_
   refine⟨fun hr=>?_,fun hr=>?_⟩
   ·repeat refine om_ ?_
    refine hK (i+1) (by omega) (by omega) _ _ (Sub.pt ?_)
    have e:f (2*i+1)-(f (2*i)+f (2*i+2)) / 2=hiF kind n f i:=by simp[hiF,nxt,hk0,hr]
    simp -implicitDefEqProofs only[push_cast,zz,seval,Int.toNat_natCast,List.set_set,e,q]
   ·repeat refine om_ ?_
    refine hK (i+1) (by omega) (by omega) _ _ (Sub.pt ?_)
    have e:f (2*i+1)-(f (2*i)+f (2*i)) / 2=hiF kind n f i:=by simp[hiF,nxt,hk0,hr]
    simp -implicitDefEqProofs only[push_cast,zz,seval,Int.toNat_natCast,List.set_set,e,q]
  ·repeat refine om_ ?_
   refine hK (i+1) (by omega) (by omega) _ _ (Sub.pt ?_)
   have e:f (2*i+1)-f (2*i)=hiF kind n f i:=by simp[hiF,hk.resolve_left hk0]
   simp -implicitDefEqProofs only[push_cast,zz,seval,Int.toNat_natCast,e,q]
 ·obtain rfl:i=m:=by omega
  rw[prt_all]
  have hh:tabl i (hiF kind n f)=hiL kind n f:=by unfold hiL;rw[hm]
  rw[hh]
  have hHB:=hiL_bd (kind:=kind) (n:=n) hB
  have hHl:(hiL kind n f).length=i:=by unfold hiL;rw[tabl_length,hm]
  have hAl:AllIn (-4503599627370496) 4503599627370496 (hiL kind n f):=fun q hq=>by have:=hHB q hq;omega
  have hLB:=fun j=>liftG_bd (kind:=kind) (BdF.rd0 (B:=2147483648) (fun q hq=>by have:=hHB q hq;omega:AllIn (-2147483648) 2147483648 (hiL kind n f)) (by omega)) (by omega) i j
  intro X1
  repeat refine om_ ?_
  refine evS_loopU (A:=Nat×Xf.Loc) kp96_2 (11::kl96_2) (fun y=>[(10,.sl 17 y.2 1 0 y.1),(81,.int .i64 y.1)]) (fun y=>[(17,.mine,y.2,.ints .i64 (tabl y.1 (loF kind n f)))]) (fun y=>y.1<=n-i) (fun y=>n-i-y.1) (0,X1 1 11) (Nat.zero_le _) (Sub.of (mkG 20 [(0,0),(10,10),(17,11)]) ?_) ?_
  ·simp -implicitDefEqProofs only[push_cast,zz,seval,tabl_zero]
  intro ⟨j,N⟩ (hj:j<=n-i) K hK
  simp -implicitDefEqProofs only[push_cast,zz,seval,b96_2,r96_3,fs150]
  refine⟨fun hl=>?_,fun hl=>?_⟩
  ·have b0:=hB (2*j)
   have b3:=hLB j
   simp only[hfj,tabl_length,hHl]
   intro X2
   repeat refine om_ ?_
   refine hK (j+1,X2 12 17) (show j+1<=n-i by omega) (show n-i-(j+1)<n-i-j by omega) _ _ (Sub.pt ?_)
   have q:tabl j (loF kind n f)++[f (2*j)+liftG kind (fun j=>rd (hiL kind n f) j) i j]=tabl (j+1) (loF kind n f):=by
    rw[<-tabl_snoc];unfold loF;rw[hm]
   simp -implicitDefEqProofs only[push_cast,zz,seval,q]
  ·have hj2:j=n-i:=by omega
   have ee:((n-i:Nat):Int)=n-i:=by omega
   simp only[tabl_length,hHl]
   intro X2
   repeat refine om_ ?_
   refine postF.mk' (fun _=>X2 2 18) [some 0,some 18] ?_
   have q:tabl j (loF kind n f)++hiL kind n f=lineL kind n (fun j=>rd xs (lo+j)):=by
    rw[hf,hj2];unfold lineL;rw[hm]
   simp -implicitDefEqProofs only[push_cast,zz,seval,fs96,q]
   omega
def ent96:Entry:=spOf fs96 inv96
theorem e96:EntryOk Tryz.prog 96 ent96:=entry_of ok96 inv96
@[push_cast] theorem ent96_a u l x k:ent96 u l x k=spOf fs96 inv96 u l x k:=rfl
def b101_1:IR:=
 .seq (r_ [b_ 33 .lss 32 31] []) (.seq (.cond (.t 33) (.skip) (.exit 0)) (.seq (.block 1 (.seq (r_ [m_ 34 32,m_ 10 34] [33,34]) (R_ [m_ 35 9,m_ 36 10,o_ 37 (.bin 0 .mul (Z_ 2) (.t 36)),m_ 38 7,m_ 39 10,i_ 40 38 39 1,⟨some 41,none,⟨[11,12,13,14],[]⟩,.ld true none 0 0 (.t 40)⟩,m_ 42 0,m_ 43 8,m_ 44 10,o_ 45 (.call (some 4) 11 150 [.t 42,.t 43,.t 44]),b_ 46 .sub 41 45,i_ 47 35 37 1,S_ 1 .i64 47 46] [10,35,36,37,38,39,40,41,42,43,44,45,46,47]))) (r_ [a_ 48 32 1,m_ 32 48] [48])))
def b101_2:IR:=
 .seq (r_ [b_ 52 .lss 51 50] []) (.seq (.cond (.t 52) (.skip) (.exit 2)) (.seq (.block 3 (.seq (r_ [m_ 53 51,m_ 11 53] [52,53]) (.seq (R_ [m_ 54 9,m_ 55 11,o_ 56 (.bin 0 .mul (Z_ 2) (.t 55)),a_ 57 56 1,m_ 58 8,m_ 59 11,i_ 60 58 59 1,L_ 61 60,m_ 62 9,m_ 63 11,o_ 64 (.bin 0 .mul (Z_ 2) (.t 63)),i_ 65 62 64 1,L_ 66 65,b_ 67 .add 61 66,i_ 68 54 57 1,S_ 1 .i64 68 67] [54,55,56,57,58,59,60,61,62,63,64,65,66,67,68]) (.seq (r_ [m_ 69 0,c_ 70 .eql 69 0] [69]) (.cond (.t 70) (.seq (r_ [m_ 71 9,m_ 72 11,o_ 73 (.bin 0 .mul (Z_ 2) (.t 72)),i_ 74 71 73 1,L_ 75 74,m_ 12 75] [70,71,72,73,74,75]) (.seq (.seq (r_ [m_ 76 11,o_ 77 (.bin 0 .mul (Z_ 2) (.t 76)),a_ 78 77 2,m_ 79 5,b_ 80 .lss 78 79] [76,77,78,79]) (.cond (.t 80) (r_ [m_ 81 9,m_ 82 11,o_ 83 (.bin 0 .mul (Z_ 2) (.t 82)),a_ 84 83 2,i_ 85 81 84 1,L_ 86 85,m_ 12 86] [80,81,82,83,84,85,86]) (.skip))) (R_ [m_ 87 9,m_ 88 11,o_ 89 (.bin 0 .mul (Z_ 2) (.t 88)),a_ 90 89 1,m_ 91 8,m_ 92 11,i_ 93 91 92 1,L_ 94 93,m_ 95 9,m_ 96 11,o_ 97 (.bin 0 .mul (Z_ 2) (.t 96)),i_ 98 95 97 1,L_ 99 98,m_ 100 12,b_ 101 .add 99 100,o_ 102 (.bin 0 .shr (.t 101) (.k (.int .u64 1))),b_ 103 .add 94 102,i_ 104 87 90 1,S_ 1 .i64 104 103] [11,12,80,87,88,89,90,91,92,93,94,95,96,97,98,99,100,101,102,103,104]))) (.skip)))))) (r_ [a_ 105 51 1,m_ 51 105] [11,70,105])))
def r101_3:IR:=
 .seq (r_ [m_ 106 9,m_ 4 106] [0,5,8,9,50,51,106]) (.ret)
def r101_4:IR:=
 .seq (.seq (r_ [m_ 49 8,h_ 50 49,z_ 51 0] [7,31,32,49]) (.block 2 (.loop b101_2))) (r101_3)
def ir101:IR:=
 .seq (r_ [o_ 4 (.mov (.k nilSV))] [4]) (.seq (r_ [m_ 13 1,h_ 14 13,m_ 15 1,h_ 16 15,c_ 17 .quo 16 2,m_ 5 14,m_ 6 17] [13,14,15,16,17]) (.seq (R_ [m_ 18 1,m_ 19 5,m_ 20 6,b_ 21 .sub 19 20,o_ 22 (.slc (.t 18) 1 none (some (.t 21))),m_ 23 1,m_ 24 5,m_ 25 6,b_ 26 .sub 24 25,o_ 27 (.slc (.t 23) 1 (some (.t 26)) none),m_ 7 22,m_ 8 27] [1,6,18,19,20,21,22,23,24,25,26,27]) (.seq (r_ [m_ 28 5,o_ 29 (.mks 10 (.int .i64 0) 8 (.t 28) (.t 28)),m_ 9 29] [28,29]) (.seq (.seq (r_ [m_ 30 7,h_ 31 30,z_ 32 0] [30]) (.block 0 (.loop b101_1))) (r101_4)))))
def kp101_1:List Nat:=[0,5,7,8,9,31,32]
def kl101_1:List Nat:=[11,12,13,14]
attribute [push_cast] kp101_1 kl101_1
def kp101_2:List Nat:=[0,5,8,9,50,51]
def kl101_2:List Nat:=[]
attribute [push_cast] kp101_2 kl101_2
set_option maxRecDepth 4000 in
theorem comp101:(Tryz.f101.body.bind fun c=>compC tab isP chkAll ir101 c)=some ir101:=by kernel_rfl
def evF (kind:Int) (n:Nat) (f:Int->Int) (i:Nat):Int:=f i-liftG kind (fun j=>f ((n:Int)-(n / 2:Nat)+j)) (n / 2:Nat) i
def odF (kind:Int) (n:Nat) (f:Int->Int) (i:Nat):Int:=
 if kind=1 then f ((n:Int)-(n / 2:Nat)+i)+evF kind n f i else f ((n:Int)-(n / 2:Nat)+i)+(evF kind n f i+(if 2*i+2<n then evF kind n f (i+1)else evF kind n f i)) / 2
def unF1 (kind:Int) (n:Nat) (f:Int->Int) (i k:Nat):Int:=if k % 2=0/\k / 2<i then evF kind n f (k / 2)else 0
def unF2 (kind:Int) (n:Nat) (f:Int->Int) (i k:Nat):Int:=if k % 2=0 then evF kind n f (k / 2)else if k / 2<i then odF kind n f (k / 2)else 0
def unL (kind:Int) (n:Nat) (f:Int->Int):List Int:=tabl n (unF2 kind n f (n / 2))
theorem unL_length (kind:Int) (n:Nat) (f:Int->Int):(unL kind n f).length=n:=tabl_length _ _
theorem unF1_zero (kind:Int) (n:Nat) (f:Int->Int):tabl n (unF1 kind n f 0)=List.replicate n 0:=by
 refine eq_of_rd (by rw[tabl_length,List.length_replicate]) fun j hj=>?_
 rw[tabl_length]at hj
 rw[rd_tabl hj,rd_lt _ _ (by rw[List.length_replicate];exact hj)]
 simp[unF1]
theorem unF1_set {kind:Int} {n:Nat} {f:Int->Int} {i:Nat} (h:2*i<n):(tabl n (unF1 kind n f i)).set (2*i) (evF kind n f i)=tabl n (unF1 kind n f (i+1)):=by
 rw[tabl_set h]
 refine tabl_congr fun j hj=>?_
 unfold unF1
 by_cases e:j=2*i
 ·subst e;rw[if_pos rfl,if_pos (by omega),show 2*i / 2=i by omega]
 ·rw[if_neg e]
  by_cases h2:j % 2=0/\j / 2<i
  ·rw[if_pos h2,if_pos (by omega)]
  ·rw[if_neg h2,if_neg (by omega)]
theorem unF1_all (kind:Int) (n:Nat) (f:Int->Int):tabl n (unF1 kind n f (n-n / 2))=tabl n (unF2 kind n f 0):=by
 refine tabl_congr fun j hj=>?_
 unfold unF1 unF2
 by_cases h2:j % 2=0
 ·rw[if_pos (by omega),if_pos h2]
 ·rw[if_neg (by omega),if_neg h2,if_neg (by omega)]
theorem unF2_set {kind:Int} {n:Nat} {f:Int->Int} {i:Nat} (h:2*i+1<n):(tabl n (unF2 kind n f i)).set (2*i+1) (odF kind n f i)=tabl n (unF2 kind n f (i+1)):=by
 rw[tabl_set h]
 refine tabl_congr fun j hj=>?_
 unfold unF2
 by_cases e:j=2*i+1
 ·subst e;rw[if_pos rfl,if_neg (by omega),if_pos (by omega),show(2*i+1) / 2=i by omega]
 ·rw[if_neg e]
  by_cases h2:j % 2=0
  ·rw[if_pos h2,if_pos h2]
  ·rw[if_neg h2,if_neg h2]
   by_cases h3:j / 2<i
   ·rw[if_pos h3,if_pos (by omega)]
   ·rw[if_neg h3,if_neg (by omega)]
theorem unF2_rd {kind:Int} {n:Nat} {f:Int->Int} {i k:Nat} (h:2*k<n):rd (tabl n (unF2 kind n f i)) (2*(k:Int))=evF kind n f k:=by
 have:=rd_tabl (f:=unF2 kind n f i) h
 rw[show((2*k:Nat):Int)=2*(k:Int) by omega]at this
 rw[this];unfold unF2;rw[if_pos (by omega),show 2*k / 2=k by omega]
theorem rd_set_ne {xs:List Int} {i:Nat} {j:Int} (v:Int) (h:j.toNat≠i):rd (xs.set i v) j=rd xs j:=by
 unfold rd
 simp[List.getElem?_set,Ne.symm h]
theorem evF_bd {kind:Int} {n:Nat} {f:Int->Int} {B:Int} (h:BdF B f) (h0:0<=B) (i:Nat):-(2*B+1)<=evF kind n f i/\evF kind n f i<=2*B+1:=by
 have h1:=h i
 have h2:=liftG_bd (kind:=kind) (g:=fun j=>f ((n:Int)-(n / 2:Nat)+j)) (fun j=>h _) h0 (n / 2:Nat) i
 unfold evF
 omega
def fs101:FS where
 A:=LineA
 args:=fun a=>[.int .i64 a.kind,.sl 0 a.L 1 a.lo a.n]
 mem:=fun a=>[some (.ro,a.L,.ints .i64 a.xs)]
 pre:=fun a=>(a.kind=0∨a.kind=1)/\a.xs.length<=140737488355328/\0<=a.lo/\a.lo+a.n<=a.xs.length/\a.n<=1000000/\AllIn (-1125899906842624) 1125899906842624 a.xs
 res:=fun a x=>.sl 1 (x 0) 1 0 a.n
 new:=fun a x=>[(x 0,.ints .i64 (unL a.kind a.n (fun j=>rd a.xs (a.lo+j))))]
theorem ok101:FSOk Tryz.prog 101 fs101:=by
 refine hd_ (fk_ Tryz.func101) fun a hp=>?_
 obtain⟨kind,L,xs,lo,n⟩:=a
 obtain⟨hk,h1,h2,h3,h4,h5⟩:(kind=0∨kind=1)/\xs.length<=140737488355328/\0<=lo/\lo+n<=xs.length/\n<=1000000/\AllIn (-1125899906842624) 1125899906842624 xs:=hp
 change Tri Tryz.prog 101 [.int .i64 kind,.sl 0 L 1 lo n] [some (.ro,L,.ints .i64 xs)] (postF fs101 ⟨kind,L,xs,lo,n⟩)
 have h52:AllIn (-4503599627370496) 4503599627370496 xs:=fun n hn=>by have:=h5 n hn;omega
 obtain⟨f,hf⟩:∃ f:Int->Int,(fun j=>rd xs (lo+j))=f:=⟨_,rfl⟩
 have hfj:∀ j,rd xs (lo+j)=f j:=fun j=>by rw[<-hf]
 have hB:BdF 1125899906842624 f:=by rw[<-hf];exact BdF.rd h5 (by omega) lo
 obtain⟨m,hm⟩:∃ m,n / 2=m:=⟨_,rfl⟩
 have en:((n:Int) / 2)=(m:Int):=by omega
 refine tri_evS (hyp (l:=[(150,ent150)]) (lp:=[]) ⟨e150,trivial⟩ trivial) Tryz.func101 comp101 (rs:=[.tmp 4]) (by rfl) Tryz.ntmps101 15 ?_
 simp -implicitDefEqProofs only[push_cast,zz,seval,ir101]
 rw[en]
 repeat refine om_ ?_
 have ed:(n:Int)-(n-m)=m:=by omega
 have hgj:∀ j,rd xs (lo+((n:Int)-m)+j)=f ((n:Int)-m+j):=fun j=>by rw[<-hf];simp only[Int.add_assoc]
 simp only[ed,Int.sub_zero]
 intro X
 repeat refine om_ ?_
 have hev:∀ i:Nat,f i-liftG kind (fun j=>f ((n:Int)-m+j)) m i=evF kind n f i:=fun i=>by unfold evF;rw[hm]
 have hbe:=fun i=>evF_bd (kind:=kind) (n:=n) hB (by omega) i
 have hLB:=fun i=>liftG_bd (kind:=kind) (g:=fun j=>f ((n:Int)-m+j)) (fun j=>hB _) (by omega) (m:Int) i
 refine evS_loopU (A:=Nat) kp101_1 kl101_1 (fun i=>[(32,.int .i64 i)]) (fun i=>[(10,.mine,X 1 10,.ints .i64 (tabl n (unF1 kind n f i)))]) (fun i=>i<=n-m) (fun i=>n-m-i) 0 (by omega) (Sub.pt ?_) ?_
 ·simp -implicitDefEqProofs only[push_cast,zz,seval,unF1_zero,Int.toNat_natCast]
 intro i (hi:i<=n-m) K hK
 simp -implicitDefEqProofs only[push_cast,zz,seval,b101_1,r101_4,fs150]
 refine⟨fun hl=>?_,fun hl=>?_⟩
 ·have hi':2*i<n:=by omega
  have b0:=hB i
  have b1:=hbe i
  have b2:=hLB i
  have et:(2*(i:Int)).toNat=2*i:=by omega
  have q:=unF1_set (kind:=kind) (f:=f) hi'
  simp only[hfj,hgj,tabl_length]
  repeat refine om_ ?_
  refine hK (i+1) (by omega) (by omega) _ _ (Sub.pt ?_)
  simp -implicitDefEqProofs only[push_cast,zz,seval,et,hev,q]
 ·obtain rfl:i=n-m:=by omega
  clear hK
  have q:=unF1_all kind n f
  rw[hm]at q
  rw[q]
  repeat refine om_ ?_
  refine evS_loopU (A:=Nat) kp101_2 kl101_2 (fun i=>[(51,.int .i64 i)]) (fun i=>[(10,.mine,X 1 10,.ints .i64 (tabl n (unF2 kind n f i)))]) (fun i=>i<=m) (fun i=>m-i) 0 (by omega) (Sub.pt ?_) ?_
  ·simp -implicitDefEqProofs only[push_cast,zz,seval]
  intro i (hi:i<=m) K hK
  simp -implicitDefEqProofs only[push_cast,zz,seval,b101_2,r101_3]
  refine⟨fun hl=>?_,fun hl=>?_⟩
  ·have hi':2*i+1<n:=by omega
   have b0:=hB ((n:Int)-m+i)
   have b1:=hbe i
   have b2:=hbe (i+1)
   have et:(2*(i:Int)+1).toNat=2*i+1:=by omega
   have q:=unF2_set (kind:=kind) (f:=f) hi'
   have r0:=unF2_rd (kind:=kind) (f:=f) (i:=i) (k:=i) (n:=n) (by omega)
   have r1:2*(i:Int)+2<n->rd (tabl n (unF2 kind n f i)) (2*(i:Int)+2)=evF kind n f (i+1):=fun hh=>by
    have:=unF2_rd (kind:=kind) (f:=f) (i:=i) (k:=i+1) (n:=n) (by omega)
    rwa [show 2*((i+1:Nat):Int)=2*(i:Int)+2 by omega]at this
   have w0:∀ v,rd ((tabl n (unF2 kind n f i)).set (2*i+1) v) (2*(i:Int))=evF kind n f i:=fun v=>by rw[rd_set_ne v (by omega),r0]
   have w1:2*(i:Int)+2<n->∀ v,rd ((tabl n (unF2 kind n f i)).set (2*i+1) v) (2*(i:Int)+2)=evF kind n f (i+1):=fun hh v=>by rw[rd_set_ne v (by omega),r1 hh]
   have e2:(2:Int)^1=2:=rfl
   simp only[hgj,tabl_length,et,r0,w0,e2,List.length_set,List.set_set]
   repeat refine om_ ?_
   refine⟨fun hk0=>?_,fun hk0=>?_⟩
   ·repeat refine om_ ?_
    refine⟨fun hr=>?_,fun hr=>?_⟩
    ·simp only[w1 hr]
     repeat refine om_ ?_
     refine hK (i+1) (by omega) (by omega) _ _ (Sub.pt ?_)
     have e:odF kind n f i=f ((n:Int)-m+i)+(evF kind n f i+evF kind n f (i+1)) / 2:=by
      unfold odF;rw[hm,if_neg (by omega),if_pos (by omega)]
     rw[e]at q
     simp -implicitDefEqProofs only[push_cast,zz,seval,q]
    ·repeat refine om_ ?_
     refine hK (i+1) (by omega) (by omega) _ _ (Sub.pt ?_)
     have e:odF kind n f i=f ((n:Int)-m+i)+(evF kind n f i+evF kind n f i) / 2:=by
      unfold odF;rw[hm,if_neg (by omega),if_neg (by omega)]
     rw[e]at q
     simp -implicitDefEqProofs only[push_cast,zz,seval,q]
   ·repeat refine om_ ?_
    refine hK (i+1) (by omega) (by omega) _ _ (Sub.pt ?_)
    have e:odF kind n f i=f ((n:Int)-m+i)+evF kind n f i:=by
     unfold odF;rw[hm,if_pos (by omega)]
    rw[e]at q
    simp -implicitDefEqProofs only[push_cast,zz,seval,q]
  ·obtain rfl:i=m:=by omega
   refine postF.mk' (fun _=>X 1 10) [some 0,some 10] ?_
   have q2:tabl n (unF2 kind n f i)=unL kind n (fun j=>rd xs (lo+j)):=by rw[hf];unfold unL;rw[hm]
   simp -implicitDefEqProofs only[push_cast,zz,seval,fs101,q2]
def ent101:Entry:=spOf fs101 inv96
theorem e101:EntryOk Tryz.prog 101 ent101:=entry_of ok101 inv96
@[push_cast] theorem ent101_a u l x k:ent101 u l x k=spOf fs101 inv96 u l x k:=rfl
structure LnA where
 kind:Int
 L:Xf.Loc
 xs:List Int
theorem liftG_congr {kind:Int} {g g':Int->Int} {m i:Int} (h:∀ j,0<=j->j<m->g j=g' j) (h0:0<=i) (h1:i<=m) (hm:0<=m):liftG kind g m i=liftG kind g' m i:=by
 unfold liftG
 by_cases c:m=0∨kind=1/\m<=i
 ·rw[if_pos c,if_pos c]
 ·rw[if_neg c,if_neg c]
  by_cases d:kind=1
  ·rw[if_pos d,if_pos d,h i h0 (by omega)]
  ·rw[if_neg d,if_neg d,h (max (i-1) 0) (by omega) (by omega),h (min i (m-1)) (by omega) (by omega)]
theorem line_bd {kind:Int} {n:Nat} {f:Int->Int} {B:Int} (h:BdF B f) (h0:0<=B):AllIn (-(3*B+1)) (3*B+1) (lineL kind n f):=by
 intro v hv
 unfold lineL at hv
 rcases List.mem_append.1 hv with hv | hv
 ·obtain⟨j,hj,rfl⟩:=List.mem_map.1 hv
  have h1:=h (2*j)
  have h2:=liftG_bd (kind:=kind) (BdF.rd0 (hiL_bd (kind:=kind) (n:=n) h) (by omega)) (by omega) ((n / 2:Nat):Int) j
  simp only[loF]
  omega
 ·have:=hiL_bd h v hv
  omega
structure QA where
 a:PlA
 q:Int
 M:Xf.Loc
def qR (q:Int):Prop:=1<=q/\q<=1000
instance (q:Int):Decidable (qR q):=by unfold qR;infer_instance
structure Q1 where
 n:Int
 L:Xf.Loc
 q:Int
def b149_1:IR:=
 .seq (r_ [b_ 19 .lss 18 17] []) (.seq (.cond (.t 19) (.skip) (.exit 0)) (.seq (.block 1 (.seq (r_ [m_ 20 18,m_ 11 20] [19,20]) (r_ [m_ 21 10,m_ 22 11,m_ 23 0,n_ 24 23,f_ 25 24 1,l_ 26 25,m_ 27 1,m_ 28 11,m_ 29 2,b_ 30 .mul 28 29,b_ 31 .add 27 30,i_ 32 26 31 1,L_ 33 32,i_ 34 21 22 1,S_ 1 .i64 34 33] [11,21,22,23,24,25,26,27,28,29,30,31,32,33,34]))) (r_ [a_ 35 18 1,m_ 18 35] [35])))
def b149_2:IR:=
 .seq (r_ [b_ 45 .lss 44 43] []) (.seq (.cond (.t 45) (.skip) (.exit 2)) (.seq (.block 3 (.seq (r_ [m_ 46 44,i_ 47 42 44 1,L_ 48 47,m_ 12 46,m_ 13 48] [45,46,47,48]) (r_ [m_ 49 0,n_ 50 49,f_ 51 50 1,l_ 52 51,m_ 53 1,m_ 54 12,m_ 55 2,b_ 56 .mul 54 55,b_ 57 .add 53 56,m_ 58 13,i_ 59 52 57 1,S_ 1 .i64 59 58] [12,13,49,50,51,52,53,54,55,56,57,58,59]))) (r_ [a_ 60 44 1,m_ 44 60] [60])))
def r149_3:IR:=
 .seq (r_ [m_ 36 4,m_ 37 0,n_ 38 37,f_ 39 38 2,l_ 40 39,m_ 41 10,o_ 42 (.callv (some 4) 11 (.t 36) [.t 40,.t 41]),h_ 43 42,z_ 44 0] [4,10,17,18,36,37,38,39,40,41]) (.block 2 (.loop b149_2))
def ir149:IR:=
 .seq (r_ [m_ 14 3,o_ 15 (.mks 10 (.int .i64 0) 8 (.t 14) (.t 14)),m_ 10 15] [3,14,15]) (.seq (.seq (r_ [m_ 16 10,h_ 17 16,z_ 18 0] [16]) (.block 0 (.loop b149_1))) (r149_3))
def kp149_1:List Nat:=[0,1,2,4,10,17,18]
def kl149_1:List Nat:=[]
attribute [push_cast] kp149_1 kl149_1
def kp149_2:List Nat:=[0,1,2,42,43,44]
def kl149_2:List Nat:=[]
attribute [push_cast] kp149_2 kl149_2
set_option maxRecDepth 4000 in
theorem comp149:(Tryz.f149.body.bind fun c=>compC tab isP chkAll ir149 c)=some ir149:=by kernel_rfl
def alS (res ws:List Int) (a b:Int):Nat->List Int
 | 0=>ws
 | i+1=>(alS res ws a b i).set (a+i*b).toNat (rd res i)
theorem alS_length (res ws:List Int) (a b:Int):∀ i,(alS res ws a b i).length=ws.length
 | 0=>rfl
 | i+1=>by simp only[alS,List.length_set,alS_length res ws a b i]
structure AlA where
 F:Xf.Loc
 LP:Xf.Loc
 w:Int
 kind:Int
 ws:List Int
 a:Int
 b:Int
 n:Nat
def alG (ws:List Int) (a b:Int):Nat->Int:=fun k=>rd ws (a+k*b)
theorem alG_in {ws:List Int} {a b:Int} {n:Nat} {B:Int} (h:AllIn (-B) B ws) (h0:0<=B):AllIn (-B) B (tabl n (alG ws a b)):=by
 rw[allIn_rd]
 intro j hj
 rw[tabl_length]at hj
 rw[rd_tabl hj]
 exact rd_bd h (by omega) h0 _
def fs149f:FS where
 A:=AlA
 args:=fun a=>[.ptr 0 a.F 0 0 0,.int .i64 a.a,.int .i64 a.b,.int .i64 a.n,.fn 96 []]
 mem:=fun a=>[some (.ro,a.F,.cells [.int .i64 a.w,.sl 1 a.LP 1 0 a.ws.length,.int .i64 a.kind]),some (.lent,a.LP,.ints .i64 a.ws)]
 pre:=fun a=>(a.kind=0∨a.kind=1)/\a.ws.length<=8192/\0<=a.a/\0<=a.b/\a.b<=200/\a.n<=200/\(∀ i:Nat,i<a.n->a.a+i*a.b<a.ws.length)/\AllIn (-1073741824) 1073741824 a.ws
 res:=fun a x=>.tup []
 out:=fun a _=>[none,some (some (.ints .i64 (alS (lineL a.kind a.n (fun j=>rd (tabl a.n (alG a.ws a.a a.b)) j)) a.ws a.a a.b a.n)))]
def inv149f:List SV->Look->Option (AlA×List Nat)
 | [.ptr c _ _ _ _,.int .i64 a,.int .i64 b,.int .i64 n,.fn 96 []],look=>match rowC (look c)with
  | some (F,[.int .i64 w,.sl c1 _ 1 0 _,.int .i64 kind])=>match rowI (look c1)with
   | some (LP,.i64,ws)=>some (⟨F,LP,w,kind,ws,a,b,n.toNat⟩,[c,c1])
   | _=>none
  | _=>none
 | _,_=>none
attribute [push_cast] inv149f
theorem ok149f:FSOk Tryz.prog 149 fs149f:=by
 refine hd_ (fk_ Tryz.func149) fun a hp=>?_
 obtain⟨F,LP,w,kind,ws,a,b,n⟩:=a
 obtain⟨hk,h1,h2,h3,h4,h5,h6,h7⟩:(kind=0∨kind=1)/\ws.length<=8192/\0<=a/\0<=b/\b<=200/\n<=200/\(∀ i:Nat,i<n->a+i*b<ws.length)/\AllIn (-1073741824) 1073741824 ws:=hp
 change Tri Tryz.prog 149 [.ptr 0 F 0 0 0,.int .i64 a,.int .i64 b,.int .i64 n,.fn 96 []] [some (.ro,F,.cells [.int .i64 w,.sl 1 LP 1 0 ws.length,.int .i64 kind]),some (.lent,LP,.ints .i64 ws)] (postF fs149f ⟨F,LP,w,kind,ws,a,b,n⟩)
 obtain⟨g,hg⟩:∃ g,alG ws a b=g:=⟨_,rfl⟩
 have hgk:∀ k:Nat,rd ws (a+k*b)=g k:=fun k=>by rw[<-hg];rfl
 have hin:=alG_in (a:=a) (b:=b) (n:=n) h7 (by omega)
 rw[hg]at hin
 obtain⟨R,hR⟩:∃ R,lineL kind n (fun j=>rd (tabl n g) j)=R:=⟨_,rfl⟩
 refine tri_evS (hyp (l:=[(96,ent96)]) (lp:=[]) ⟨e96,trivial⟩ trivial) Tryz.func149 comp149 (rs:=[]) (by rfl) Tryz.ntmps149 15 ?_
 simp -implicitDefEqProofs only[push_cast,zz,seval,ir149]
 repeat refine om_ ?_
 intro X
 repeat refine om_ ?_
 refine evS_loopU (A:=Nat) kp149_1 kl149_1 (fun i=>[(18,.int .i64 i)]) (fun i=>[(10,.mine,X 1 10,.ints .i64 (prt n i g))]) (fun i=>i<=n) (fun i=>n-i) 0 (by omega) (Sub.pt ?_) ?_
 ·simp -implicitDefEqProofs only[push_cast,zz,seval,prt_zero,Int.toNat_natCast]
 intro i (hi:i<=n) K hK
 simp -implicitDefEqProofs only[push_cast,zz,seval,b149_1,r149_3,fs96]
 refine⟨fun hl=>?_,fun hl=>?_⟩
 ·have hi':i<n:=by omega
  have hib:=mul_bd (a:=(i:Int)) (b:=b) (A:=200) (B:=200) (by omega) (by omega) h3 h4
  have hlt:=h6 i hi'
  have lP:=prt_length hi g
  have q:(prt n i g).set i (g i)=prt n (i+1) g:=prt_set hi' _
  repeat refine om_ ?_
  refine hK (i+1) (by omega) (by omega) _ _ (Sub.pt ?_)
  simp -implicitDefEqProofs only[push_cast,zz,seval,Int.toNat_natCast,hgk,q]
 ·obtain rfl:i=n:=by omega
  clear hK
  rw[prt_all]
  simp only[Int.toNat_natCast,tabl_length,hR]
  intro X1
  repeat refine om_ ?_
  have hRl:R.length=i:=by rw[<-hR,lineL_length]
  refine evS_loopU (A:=Nat) kp149_2 kl149_2 (fun j=>[(44,.int .i64 j)]) (fun j=>[(1,.lent,LP,.ints .i64 (alS R ws a b j))]) (fun j=>j<=i) (fun j=>i-j) 0 (by omega) (Sub.pt ?_) ?_
  ·simp -implicitDefEqProofs only[push_cast,zz,seval,alS]
  intro j (hj:j<=i) K hK
  simp -implicitDefEqProofs only[push_cast,zz,seval,b149_2]
  refine⟨fun hl=>?_,fun hl=>?_⟩
  ·have hj':j<i:=by omega
   have hib:=mul_bd (a:=(j:Int)) (b:=b) (A:=200) (B:=200) (by omega) (by omega) h3 h4
   have hlt:=h6 j hj'
   simp only[alS_length,hRl]
   repeat refine om_ ?_
   refine hK (j+1) (by omega) (by omega) _ _ (Sub.pt ?_)
   simp -implicitDefEqProofs only[push_cast,zz,seval,alS]
  ·obtain rfl:j=i:=by omega
   refine postF.mk' (fun _=>default) [some 0,some 1] ?_
   simp -implicitDefEqProofs only[push_cast,zz,seval,fs149f,hg,hR]
def ent149f:Entry:=spOf fs149f inv149f
theorem e149f:EntryOk Tryz.prog 149 ent149f:=entry_of ok149f inv149f
@[push_cast] theorem ent149f_app (us:List SV) (look:Look) (x:Nat->Xf.Loc) (k:Nat):ent149f us look x k=spOf fs149f inv149f us look x k:=rfl
def fs149u:FS where
 A:=AlA
 args:=fun a=>[.ptr 0 a.F 0 0 0,.int .i64 a.a,.int .i64 a.b,.int .i64 a.n,.fn 101 []]
 mem:=fun a=>[some (.ro,a.F,.cells [.int .i64 a.w,.sl 1 a.LP 1 0 a.ws.length,.int .i64 a.kind]),some (.lent,a.LP,.ints .i64 a.ws)]
 pre:=fun a=>(a.kind=0∨a.kind=1)/\a.ws.length<=8192/\0<=a.a/\0<=a.b/\a.b<=200/\a.n<=200/\(∀ i:Nat,i<a.n->a.a+i*a.b<a.ws.length)/\AllIn (-1125899906842624) 1125899906842624 a.ws
 res:=fun a x=>.tup []
 out:=fun a _=>[none,some (some (.ints .i64 (alS (unL a.kind a.n (fun j=>rd (tabl a.n (alG a.ws a.a a.b)) j)) a.ws a.a a.b a.n)))]
def inv149u:List SV->Look->Option (AlA×List Nat)
 | [.ptr c _ _ _ _,.int .i64 a,.int .i64 b,.int .i64 n,.fn 101 []],look=>match rowC (look c)with
  | some (F,[.int .i64 w,.sl c1 _ 1 0 _,.int .i64 kind])=>match rowI (look c1)with
   | some (LP,.i64,ws)=>some (⟨F,LP,w,kind,ws,a,b,n.toNat⟩,[c,c1])
   | _=>none
  | _=>none
 | _,_=>none
attribute [push_cast] inv149u
theorem ok149u:FSOk Tryz.prog 149 fs149u:=by
 refine hd_ (fk_ Tryz.func149) fun a hp=>?_
 obtain⟨F,LP,w,kind,ws,a,b,n⟩:=a
 obtain⟨hk,h1,h2,h3,h4,h5,h6,h7⟩:(kind=0∨kind=1)/\ws.length<=8192/\0<=a/\0<=b/\b<=200/\n<=200/\(∀ i:Nat,i<n->a+i*b<ws.length)/\AllIn (-1125899906842624) 1125899906842624 ws:=hp
 change Tri Tryz.prog 149 [.ptr 0 F 0 0 0,.int .i64 a,.int .i64 b,.int .i64 n,.fn 101 []] [some (.ro,F,.cells [.int .i64 w,.sl 1 LP 1 0 ws.length,.int .i64 kind]),some (.lent,LP,.ints .i64 ws)] (postF fs149u ⟨F,LP,w,kind,ws,a,b,n⟩)
 obtain⟨g,hg⟩:∃ g,alG ws a b=g:=⟨_,rfl⟩
 have hgk:∀ k:Nat,rd ws (a+k*b)=g k:=fun k=>by rw[<-hg];rfl
 have hin:=alG_in (a:=a) (b:=b) (n:=n) h7 (by omega)
 rw[hg]at hin
 obtain⟨R,hR⟩:∃ R,unL kind n (fun j=>rd (tabl n g) j)=R:=⟨_,rfl⟩
 refine tri_evS (hyp (l:=[(101,ent101)]) (lp:=[]) ⟨e101,trivial⟩ trivial) Tryz.func149 comp149 (rs:=[]) (by rfl) Tryz.ntmps149 15 ?_
 simp -implicitDefEqProofs only[push_cast,zz,seval,ir149]
 repeat refine om_ ?_
 intro X
 repeat refine om_ ?_
 refine evS_loopU (A:=Nat) kp149_1 kl149_1 (fun i=>[(18,.int .i64 i)]) (fun i=>[(10,.mine,X 1 10,.ints .i64 (prt n i g))]) (fun i=>i<=n) (fun i=>n-i) 0 (by omega) (Sub.pt ?_) ?_
 ·simp -implicitDefEqProofs only[push_cast,zz,seval,prt_zero,Int.toNat_natCast]
 intro i (hi:i<=n) K hK
 simp -implicitDefEqProofs only[push_cast,zz,seval,b149_1,r149_3,fs101]
 refine⟨fun hl=>?_,fun hl=>?_⟩
 ·have hi':i<n:=by omega
  have hib:=mul_bd (a:=(i:Int)) (b:=b) (A:=200) (B:=200) (by omega) (by omega) h3 h4
  have hlt:=h6 i hi'
  have lP:=prt_length hi g
  have q:(prt n i g).set i (g i)=prt n (i+1) g:=prt_set hi' _
  repeat refine om_ ?_
  refine hK (i+1) (by omega) (by omega) _ _ (Sub.pt ?_)
  simp -implicitDefEqProofs only[push_cast,zz,seval,Int.toNat_natCast,hgk,q]
 ·obtain rfl:i=n:=by omega
  clear hK
  rw[prt_all]
  simp only[Int.toNat_natCast,tabl_length,hR]
  intro X1
  repeat refine om_ ?_
  have hRl:R.length=i:=by rw[<-hR,unL_length]
  refine evS_loopU (A:=Nat) kp149_2 kl149_2 (fun j=>[(44,.int .i64 j)]) (fun j=>[(1,.lent,LP,.ints .i64 (alS R ws a b j))]) (fun j=>j<=i) (fun j=>i-j) 0 (by omega) (Sub.pt ?_) ?_
  ·simp -implicitDefEqProofs only[push_cast,zz,seval,alS]
  intro j (hj:j<=i) K hK
  simp -implicitDefEqProofs only[push_cast,zz,seval,b149_2]
  refine⟨fun hl=>?_,fun hl=>?_⟩
  ·have hj':j<i:=by omega
   have hib:=mul_bd (a:=(j:Int)) (b:=b) (A:=200) (B:=200) (by omega) (by omega) h3 h4
   have hlt:=h6 j hj'
   simp only[alS_length,hRl]
   repeat refine om_ ?_
   refine hK (j+1) (by omega) (by omega) _ _ (Sub.pt ?_)
   simp -implicitDefEqProofs only[push_cast,zz,seval,alS]
  ·obtain rfl:j=i:=by omega
   refine postF.mk' (fun _=>default) [some 0,some 1] ?_
   simp -implicitDefEqProofs only[push_cast,zz,seval,fs149u,hg,hR]
def ent149u:Entry:=spOf fs149u inv149u
theorem e149u:EntryOk Tryz.prog 149 ent149u:=entry_of ok149u inv149u
@[push_cast] theorem ent149u_app (us:List SV) (look:Look) (x:Nat->Xf.Loc) (k:Nat):ent149u us look x k=spOf fs149u inv149u us look x k:=rfl
theorem rd_set_nat {xs:List Int} {i:Nat} (v:Int) (k:Nat):rd (xs.set i v) (k:Int)=if i=k/\k<xs.length then v else rd xs (k:Int):=by
 unfold rd
 simp only[Int.toNat_natCast,List.getD_eq_getElem?_getD,List.getElem?_set]
 by_cases e:i=k
 ·subst e
  by_cases h:i<xs.length
  ·simp[h]
  ·simp[h]
 ·simp[e]
theorem alS_miss {res ws:List Int} {a b:Int} {k:Nat}:∀ {n:Nat},(∀ i:Nat,i<n->(a+i*b).toNat≠k)->rd (alS res ws a b n) (k:Int)=rd ws (k:Int)
 | 0,_=>rfl
 | n+1,h=>by
  rw[alS,rd_set_nat,if_neg (fun e=>h n (by omega) e.1),alS_miss fun i hi=>h i (by omega)]
theorem alS_hit {res ws:List Int} {a b:Int} (ha:0<=a) (hb:1<=b) {i:Nat} (hl:(a+i*b).toNat<ws.length):∀ {n:Nat},i<n->rd (alS res ws a b n) (((a+i*b).toNat:Nat):Int)=rd res i
 | 0,h=>by omega
 | n+1,h=>by
  rw[alS,rd_set_nat,alS_length]
  by_cases e:i=n
  ·subst e;rw[if_pos ⟨rfl,hl⟩]
  ·rw[if_neg,alS_hit ha hb hl (by omega)]
   rintro⟨q,_⟩
   have h1:(0:Int)<=i*b:=Int.mul_nonneg (by omega) (by omega)
   have h2:((i:Int)+1)*b<=n*b:=Int.mul_le_mul_of_nonneg_right (by omega) (by omega)
   rw[Int.add_mul]at h2
   omega
abbrev LT:=Int->Nat->(Int->Int)->List Int
def rowF (ws:List Int) (a b:Int) (n:Nat):Int->Int:=fun j=>rd (tabl n (alG ws a b)) j
def alL (T:LT) (kind:Int) (ws:List Int) (a b:Int) (n:Nat):List Int:=alS (T kind n (rowF ws a b n)) ws a b n
theorem alL_length (T:LT) (kind:Int) (ws:List Int) (a b:Int) (n:Nat):(alL T kind ws a b n).length=ws.length:=alS_length ..
theorem rowF_congr {ws vs:List Int} {a b:Int} {n:Nat} (h:∀ i:Nat,i<n->rd ws (a+i*b)=rd vs (a+i*b)):rowF ws a b n=rowF vs a b n:=by
 unfold rowF
 rw[tabl_congr (f:=alG ws a b) (g:=alG vs a b) fun j hj=>h j hj]
theorem rowF_bd {ws:List Int} {a b:Int} {n:Nat} {B:Int} (h:AllIn (-B) B ws) (h0:0<=B):BdF B (rowF ws a b n):=BdF.rd0 (alG_in h h0) h0
structure Trn (T:LT):Prop where
 len:∀ k n f,(T k n f).length=n
 bd:∀ k n f B,BdF B f->0<=B->AllIn (-(3*B+1)) (3*B+1) (T k n f)
 congr:∀ k (n:Nat) f g,(∀ j:Nat,j<n->f j=g j)->T k n f=T k n g
theorem lineL_congr (kind:Int) (n:Nat) (f g:Int->Int) (h:∀ j:Nat,j<n->f j=g j):lineL kind n f=lineL kind n g:=by
 have h1:hiL kind n f=hiL kind n g:=by
  unfold hiL
  refine tabl_congr fun j hj=>?_
  have e0:=h (2*j) (by omega)
  have e1:=h (2*j+1) (by omega)
  simp only[Int.natCast_add,Int.natCast_mul,Int.cast_ofNat_Int]at e0 e1
  unfold hiF nxt
  rw[e0,e1]
  by_cases c:2*(j:Int)+2<n
  ·have e2:=h (2*j+2) (by omega)
   simp only[Int.natCast_add,Int.natCast_mul,Int.cast_ofNat_Int]at e2
   rw[e2]
  ·rw[if_neg c,if_neg c]
 unfold lineL
 rw[h1]
 congr 1
 refine tabl_congr fun j hj=>?_
 have e0:=h (2*j) (by omega)
 simp only[Int.natCast_mul,Int.cast_ofNat_Int]at e0
 unfold loF
 rw[h1,e0]
theorem evF_congr {kind:Int} {n:Nat} {f g:Int->Int} (h:∀ j:Nat,j<n->f j=g j) {i:Nat} (hi:i<n-n / 2):evF kind n f i=evF kind n g i:=by
 unfold evF
 rw[h i (by omega)]
 rw[liftG_congr (g':=fun j=>g ((n:Int)-(n / 2:Nat)+j)) ?_ (by omega) (by omega) (by omega)]
 intro j h0 h1
 have:=h (n-n / 2+j.toNat) (by omega)
 rw[show((n-n / 2+j.toNat:Nat):Int)=(n:Int)-(n / 2:Nat)+j by omega]at this
 exact this
theorem unL_congr (kind:Int) (n:Nat) (f g:Int->Int) (h:∀ j:Nat,j<n->f j=g j):unL kind n f=unL kind n g:=by
 unfold unL
 refine tabl_congr fun k hk=>?_
 unfold unF2
 by_cases c:k % 2=0
 ·rw[if_pos c,if_pos c,evF_congr h (by omega)]
 ·rw[if_neg c,if_neg c]
  by_cases d:k / 2<n / 2
  ·rw[if_pos d,if_pos d]
   have e1:=h (n-n / 2+k / 2) (by omega)
   rw[show((n-n / 2+k / 2:Nat):Int)=(n:Int)-(n / 2:Nat)+(k / 2:Nat) by omega]at e1
   unfold odF
   rw[e1,evF_congr h (by omega)]
   by_cases q:2*(k / 2)+2<n
   ·rw[if_pos q,if_pos q,evF_congr h (by omega)]
   ·rw[if_neg q,if_neg q]
  ·rw[if_neg d,if_neg d]
theorem trn_line:Trn lineL:=⟨lineL_length,fun k n f B h h0=>line_bd h h0,lineL_congr⟩
theorem trn_unline:Trn unL:=by
 refine⟨unL_length,fun k n f B h h0=>?_,unL_congr⟩
 rw[allIn_rd]
 intro j hj
 rw[unL_length]at hj
 unfold unL
 rw[rd_tabl hj]
 have key:∀ i:Nat,-(2*B+1)<=evF k n f i/\evF k n f i<=2*B+1:=evF_bd h h0
 unfold unF2
 have k1:=key (j / 2)
 have k2:=key (j / 2+1)
 have k3:=h ((n:Int)-(n / 2:Nat)+(j / 2:Nat))
 split
 ·omega
 ·split
  ·unfold odF
   split
   ·omega
   ·split<;>omega
  ·omega
def rwL (T:LT) (kind:Int) (W:Nat) (w:Nat) (ws:List Int):Nat->List Int
 | 0=>ws
 | y+1=>alL T kind (rwL T kind W w ws y) ((y:Int)*W) 1 w
def clL (T:LT) (kind:Int) (W:Nat) (h:Nat) (ws:List Int):Nat->List Int
 | 0=>ws
 | x+1=>alL T kind (clL T kind W h ws x) x W h
theorem rwL_length (T:LT) (kind:Int) (W w:Nat) (ws:List Int):∀ m,(rwL T kind W w ws m).length=ws.length
 | 0=>rfl
 | m+1=>by rw[rwL,alL_length,rwL_length T kind W w ws m]
theorem clL_length (T:LT) (kind:Int) (W h:Nat) (ws:List Int):∀ m,(clL T kind W h ws m).length=ws.length
 | 0=>rfl
 | m+1=>by rw[clL,alL_length,clL_length T kind W h ws m]
theorem place {W k:Nat}:k=k / W*W+k % W:=by
 have:=Nat.div_add_mod k W
 rw[Nat.mul_comm]at this;exact this.symm
theorem row_le {W k m:Nat} (h:k / W<m) (h2:k % W<W):k<m*W:=by
 have e:=place (W:=W) (k:=k)
 have:(k / W+1)*W<=m*W:=Nat.mul_le_mul_right _ h
 rw[Nat.add_mul]at this
 omega
theorem rwL_at {T:LT} (hT:Trn T) {kind:Int} {W w:Nat} (hw:w<=W) (ws:List Int):∀ (m:Nat),m*W<=ws.length->∀ k:Nat,
  rd (rwL T kind W w ws m) (k:Int)=if k / W<m/\k % W<w then rd (T kind w (rowF ws (((k / W*W:Nat)):Int) 1 w)) ((k % W:Nat):Int)else rd ws (k:Int)
 | 0,_,k=>by rw[if_neg (fun q=>absurd q.1 (Nat.not_lt_zero _))];rfl
 | m+1,hm,k=>by
  have hm':m*W+W<=ws.length:=by rw[Nat.add_mul]at hm;omega
  have ih:=rwL_at hT (kind:=kind) hw ws m (by omega)
  have eR:rowF (rwL T kind W w ws m) ((m:Int)*W) 1 w=rowF ws ((m*W:Nat):Int) 1 w:=by
   have ec:((m*W:Nat):Int)=(m:Int)*W:=by simp
   rw[ec]
   refine rowF_congr fun i hi=>?_
   have e:(m:Int)*W+i*1=((m*W+i:Nat):Int):=by simp
   rw[e,ih,if_neg]
   rintro⟨q,_⟩
   have:(m*W+i) / W=m:=by
    rw[Nat.mul_comm,Nat.mul_add_div (by omega),Nat.div_eq_of_lt (by omega),Nat.add_zero]
   omega
  rw[rwL,alL,eR]
  by_cases hh:k / W=m/\k % W<w
  ·obtain⟨h1,h2⟩:=hh
   have ep:=place (W:=W) (k:=k)
   rw[h1]at ep
   have e:((m:Int)*W+((k % W:Nat):Int)*1).toNat=k:=by
    have:((m*W:Nat):Int)=(m:Int)*W:=by simp
    omega
   have hkl:k<ws.length:=by omega
   have hp:(0:Int)<=(m:Int)*W:=Int.mul_nonneg (by omega) (by omega)
   have:=alS_hit (res:=T kind w (rowF ws ((m*W:Nat):Int) 1 w)) (ws:=rwL T kind W w ws m) (a:=(m:Int)*W) (b:=1) hp (by omega) (i:=k % W) (by rw[e,rwL_length];exact hkl) (n:=w) h2
   rw[e]at this
   rw[this,if_pos ⟨by omega,h2⟩,h1]
  ·rw[alS_miss,ih]
   ·by_cases c:k / W<m/\k % W<w
    ·rw[if_pos c,if_pos ⟨by omega,c.2⟩]
    ·rw[if_neg c,if_neg]
     rintro⟨q1,q2⟩
     by_cases e:k / W=m
     ·exact hh ⟨e,q2⟩
     ·exact c ⟨by omega,q2⟩
   ·intro i hi e
    have:((m*W:Nat):Int)=(m:Int)*W:=by simp
    have ek:k=m*W+i:=by omega
    apply hh
    have hd:(m*W+i) / W=m:=by
     rw[Nat.mul_comm,Nat.mul_add_div (by omega),Nat.div_eq_of_lt (by omega),Nat.add_zero]
    have hr:(m*W+i) % W=i:=by
     rw[Nat.mul_comm,Nat.mul_add_mod,Nat.mod_eq_of_lt (by omega)]
    rw[ek]
    exact⟨hd,by omega⟩
theorem clL_at {T:LT} (hT:Trn T) {kind:Int} {W h:Nat} (ws:List Int) (hh:h*W<=ws.length):∀ (m:Nat),m<=W->∀ k:Nat,
  rd (clL T kind W h ws m) (k:Int)=if k % W<m/\k / W<h then rd (T kind h (rowF ws ((k % W:Nat):Int) W h)) ((k / W:Nat):Int)else rd ws (k:Int)
 | 0,_,k=>by rw[if_neg (fun q=>absurd q.1 (Nat.not_lt_zero _))];rfl
 | m+1,hm,k=>by
  have ih:=clL_at hT (kind:=kind) ws hh m (by omega)
  have hd:∀ i:Nat,(m+i*W) / W=i/\(m+i*W) % W=m:=fun i=>by
   rw[Nat.add_mul_div_right _ _ (by omega),Nat.div_eq_of_lt (by omega),Nat.zero_add,Nat.add_mul_mod_self_right,Nat.mod_eq_of_lt (by omega)]
   exact⟨rfl,rfl⟩
  have eR:rowF (clL T kind W h ws m) (m:Int) W h=rowF ws ((m:Nat):Int) W h:=by
   refine rowF_congr fun i hi=>?_
   have e:(m:Int)+i*W=((m+i*W:Nat):Int):=by simp
   rw[e,ih,if_neg]
   rintro⟨q,_⟩
   rw[(hd i).2]at q
   omega
  rw[clL,alL,eR]
  by_cases hc:k % W=m/\k / W<h
  ·obtain⟨h1,h2⟩:=hc
   have ep:=place (W:=W) (k:=k)
   rw[h1]at ep
   have e:((m:Int)+((k / W:Nat):Int)*W).toNat=k:=by
    have:((k / W*W:Nat):Int)=((k / W:Nat):Int)*W:=by simp
    omega
   have hkl:k<ws.length:=Nat.lt_of_lt_of_le (row_le h2 (by omega)) hh
   have:=alS_hit (res:=T kind h (rowF ws ((m:Nat):Int) W h)) (ws:=clL T kind W h ws m) (a:=(m:Int)) (b:=W) (by omega) (by omega) (i:=k / W) (by rw[e,clL_length];exact hkl) (n:=h) h2
   rw[e]at this
   rw[this,if_pos ⟨by omega,h2⟩,h1]
  ·rw[alS_miss,ih]
   ·by_cases c:k % W<m/\k / W<h
    ·rw[if_pos c,if_pos ⟨by omega,c.2⟩]
    ·rw[if_neg c,if_neg]
     rintro⟨q1,q2⟩
     by_cases e:k % W=m
     ·exact hc ⟨e,q2⟩
     ·exact c ⟨by omega,q2⟩
   ·intro i hi e
    have ek:k=m+i*W:=by
     have:((i*W:Nat):Int)=(i:Int)*W:=by simp
     omega
    apply hc
    rw[ek]
    exact⟨(hd i).2,by rw[(hd i).1];exact hi⟩
theorem rwL_bd {T:LT} (hT:Trn T) {kind:Int} {W w:Nat} (hw:w<=W) {ws:List Int} {m:Nat} (hm:m*W<=ws.length) {B:Int} (hB:AllIn (-B) B ws) (h0:0<=B):AllIn (-(3*B+1)) (3*B+1) (rwL T kind W w ws m):=by
 rw[allIn_rd]
 intro k hk
 rw[rwL_at hT hw ws m hm]
 split
 ·exact rd_bd (hT.bd _ _ _ B (rowF_bd hB h0) h0) (by omega) (by omega) _
 ·have:=rd_bd hB (by omega) h0 (k:Int);omega
theorem clL_bd {T:LT} (hT:Trn T) {kind:Int} {W h:Nat} {ws:List Int} (hh:h*W<=ws.length) {m:Nat} (hm:m<=W) {B:Int} (hB:AllIn (-B) B ws) (h0:0<=B):AllIn (-(3*B+1)) (3*B+1) (clL T kind W h ws m):=by
 rw[allIn_rd]
 intro k hk
 rw[clL_at hT ws hh m hm]
 split
 ·exact rd_bd (hT.bd _ _ _ B (rowF_bd hB h0) h0) (by omega) (by omega) _
 ·have:=rd_bd hB (by omega) h0 (k:Int);omega
def stF (T:LT) (kind:Int) (W:Nat) (ws:List Int) (w h:Nat):List Int:=clL T kind W h (rwL T kind W w ws h) w
def stI (T:LT) (kind:Int) (W:Nat) (ws:List Int) (w h:Nat):List Int:=rwL T kind W w (clL T kind W h ws w) h
def hlf (w:Nat):Nat->Nat
 | 0=>w
 | i+1=>(hlf w i+1) / 2
theorem hlf_le (w:Nat):∀ i,hlf w i<=w
 | 0=>Nat.le_refl _
 | i+1=>by have:=hlf_le w i;simp only[hlf];omega
theorem hlf_mono (w:Nat) (i:Nat):hlf w (i+1)<=hlf w i:=by simp only[hlf];omega
def fwd (T:LT) (kind:Int) (W h:Nat) (ws:List Int):Nat->List Int
 | 0=>ws
 | i+1=>stF T kind W (fwd T kind W h ws i) (hlf W i) (hlf h i)
def bwd (T:LT) (kind:Int) (W h n:Nat) (ws:List Int):Nat->List Int
 | 0=>ws
 | i+1=>stI T kind W (bwd T kind W h n ws i) (hlf W (n-1-i)) (hlf h (n-1-i))
theorem stF_length (T:LT) (kind:Int) (W:Nat) (ws:List Int) (w h:Nat):(stF T kind W ws w h).length=ws.length:=by rw[stF,clL_length,rwL_length]
theorem stI_length (T:LT) (kind:Int) (W:Nat) (ws:List Int) (w h:Nat):(stI T kind W ws w h).length=ws.length:=by rw[stI,rwL_length,clL_length]
theorem fwd_length (T:LT) (kind:Int) (W h:Nat) (ws:List Int):∀ i,(fwd T kind W h ws i).length=ws.length
 | 0=>rfl
 | i+1=>by rw[fwd,stF_length,fwd_length T kind W h ws i]
theorem bwd_length (T:LT) (kind:Int) (W h n:Nat) (ws:List Int):∀ i,(bwd T kind W h n ws i).length=ws.length
 | 0=>rfl
 | i+1=>by rw[bwd,stI_length,bwd_length T kind W h n ws i]
theorem stF_bd {T:LT} (hT:Trn T) {kind:Int} {W w h:Nat} (hw:w<=W) {ws:List Int} (hh:h*W<=ws.length) {B:Int} (hB:AllIn (-B) B ws) (h0:0<=B):AllIn (-(9*B+4)) (9*B+4) (stF T kind W ws w h):=by
 have h1:=clL_bd hT (kind:=kind) (by rw[rwL_length];exact hh) hw (rwL_bd hT (kind:=kind) hw hh hB h0) (by omega)
 unfold stF
 rw[show 9*B+4=3*(3*B+1)+1 by omega];exact h1
theorem stI_bd {T:LT} (hT:Trn T) {kind:Int} {W w h:Nat} (hw:w<=W) {ws:List Int} (hh:h*W<=ws.length) {B:Int} (hB:AllIn (-B) B ws) (h0:0<=B):AllIn (-(9*B+4)) (9*B+4) (stI T kind W ws w h):=by
 have h1:=rwL_bd hT (kind:=kind) hw (by rw[clL_length];exact hh) (clL_bd hT (kind:=kind) hh hw hB h0) (by omega)
 unfold stI
 rw[show 9*B+4=3*(3*B+1)+1 by omega];exact h1
def bnd (B:Int):Nat->Int
 | 0=>B
 | i+1=>9*bnd B i+4
theorem bnd_pos {B:Int} (h:0<=B):∀ i,0<=bnd B i
 | 0=>h
 | i+1=>by have:=bnd_pos h i;simp only[bnd];omega
theorem hh_len {W h n:Nat} (hn:h*W<=n) (i:Nat):hlf h i*W<=n:=Nat.le_trans (Nat.mul_le_mul_right _ (hlf_le h i)) hn
theorem fwd_bd {T:LT} (hT:Trn T) {kind:Int} {W h:Nat} {ws:List Int} (hh:h*W<=ws.length) {B:Int} (hB:AllIn (-B) B ws) (h0:0<=B):∀ i,AllIn (-(bnd B i)) (bnd B i) (fwd T kind W h ws i)
 | 0=>hB
 | i+1=>stF_bd hT (hlf_le W i) (by rw[fwd_length];exact hh_len hh i) (fwd_bd hT hh hB h0 i) (bnd_pos h0 i)
theorem bwd_bd {T:LT} (hT:Trn T) {kind:Int} {W h n:Nat} {ws:List Int} (hh:h*W<=ws.length) {B:Int} (hB:AllIn (-B) B ws) (h0:0<=B):∀ i,AllIn (-(bnd B i)) (bnd B i) (bwd T kind W h n ws i)
 | 0=>hB
 | i+1=>stI_bd hT (hlf_le W _) (by rw[bwd_length];exact hh_len hh _) (bwd_bd hT hh hB h0 i) (bnd_pos h0 i)
def b95_1:IR:=
 .seq (r_ [b_ 11 .lss 10 9] []) (.seq (.cond (.t 11) (.skip) (.exit 0)) (.seq (.block 1 (.seq (r_ [m_ 12 10,m_ 8 12] [11,12]) (r_ [m_ 13 0,m_ 14 8,m_ 15 0,n_ 16 15,f_ 17 16 0,l_ 18 17,b_ 19 .mul 14 18,m_ 20 1,m_ 21 3,o_ 22 (.call none 10 149 [.t 13,.t 19,Z_ 1,.t 20,.t 21])] [8,13,14,15,16,17,18,19,20,21,22]))) (r_ [a_ 23 10 1,m_ 10 23] [23])))
def ir95:IR:=
 .seq (r_ [m_ 9 2,z_ 10 0] [2]) (.block 0 (.loop b95_1))
def kp95_1:List Nat:=[0,1,3,9,10]
def kl95_1:List Nat:=[10,11,12,13]
attribute [push_cast] kp95_1 kl95_1
set_option maxRecDepth 4000 in
theorem comp95:(Tryz.f95.body.bind fun c=>compC tab isP chkAll ir95 c)=some ir95:=by kernel_rfl
def b97_1:IR:=
 .seq (r_ [b_ 11 .lss 10 9] []) (.seq (.cond (.t 11) (.skip) (.exit 0)) (.seq (.block 1 (.seq (r_ [m_ 12 10,m_ 8 12] [11,12]) (r_ [m_ 13 0,m_ 14 8,m_ 15 0,n_ 16 15,f_ 17 16 0,l_ 18 17,m_ 19 2,m_ 20 3,o_ 21 (.call none 10 149 [.t 13,.t 14,.t 18,.t 19,.t 20])] [8,13,14,15,16,17,18,19,20,21]))) (r_ [a_ 22 10 1,m_ 10 22] [22])))
def ir97:IR:=
 .seq (r_ [m_ 9 1,z_ 10 0] [1]) (.block 0 (.loop b97_1))
def kp97_1:List Nat:=[0,2,3,9,10]
def kl97_1:List Nat:=[10,11,12,13]
attribute [push_cast] kp97_1 kl97_1
set_option maxRecDepth 4000 in
theorem comp97:(Tryz.f97.body.bind fun c=>compC tab isP chkAll ir97 c)=some ir97:=by kernel_rfl
structure RwA where
 F:Xf.Loc
 LP:Xf.Loc
 W:Nat
 kind:Int
 ws:List Int
 w:Nat
 h:Nat
def fs95f:FS where
 A:=RwA
 args:=fun a=>[.ptr 0 a.F 0 0 0,.int .i64 a.w,.int .i64 a.h,.fn 96 []]
 mem:=fun a=>[some (.ro,a.F,.cells [.int .i64 a.W,.sl 1 a.LP 1 0 a.ws.length,.int .i64 a.kind]),some (.lent,a.LP,.ints .i64 a.ws)]
 pre:=fun a=>(a.kind=0∨a.kind=1)/\a.ws.length<=8192/\a.W<=200/\a.w<=a.W/\a.h<=200/\a.h*a.W<=a.ws.length/\AllIn (-357913941) 357913941 a.ws
 res:=fun a x=>.tup []
 out:=fun a _=>[none,some (some (.ints .i64 (rwL lineL a.kind a.W a.w a.ws a.h)))]
def inv95f:List SV->Look->Option (RwA×List Nat)
 | [.ptr c _ _ _ _,.int .i64 w,.int .i64 h,.fn 96 []],look=>match rowC (look c)with
  | some (F,[.int .i64 W,.sl c1 _ 1 0 _,.int .i64 kind])=>match rowI (look c1)with
   | some (LP,.i64,ws)=>some (⟨F,LP,W.toNat,kind,ws,w.toNat,h.toNat⟩,[c,c1])
   | _=>none
  | _=>none
 | _,_=>none
attribute [push_cast] inv95f
theorem ok95f:FSOk Tryz.prog 95 fs95f:=by
 refine hd_ (fk_ Tryz.func95) fun a hp=>?_
 obtain⟨F,LP,W,kind,ws,w,h⟩:=a
 obtain⟨hk,h1,h2,h3,h4,h5,h6⟩:(kind=0∨kind=1)/\ws.length<=8192/\W<=200/\w<=W/\h<=200/\h*W<=ws.length/\AllIn (-357913941) 357913941 ws:=hp
 change Tri Tryz.prog 95 [.ptr 0 F 0 0 0,.int .i64 w,.int .i64 h,.fn 96 []] [some (.ro,F,.cells [.int .i64 W,.sl 1 LP 1 0 ws.length,.int .i64 kind]),some (.lent,LP,.ints .i64 ws)] (postF fs95f ⟨F,LP,W,kind,ws,w,h⟩)
 refine tri_evS (hyp (l:=[(149,ent149f)]) (lp:=[]) ⟨e149f,trivial⟩ trivial) Tryz.func95 comp95 (rs:=[]) (by rfl) Tryz.ntmps95 14 ?_
 simp -implicitDefEqProofs only[push_cast,zz,seval,ir95]
 refine evS_loopU (A:=Nat) kp95_1 kl95_1 (fun y=>[(10,.int .i64 y)]) (fun y=>[(1,.lent,LP,.ints .i64 (rwL lineL kind W w ws y))]) (fun y=>y<=h) (fun y=>h-y) 0 (by omega) (Sub.pt ?_) ?_
 ·simp -implicitDefEqProofs only[push_cast,zz,seval,rwL]
 intro y (hy:y<=h) K hK
 have lQ:(rwL lineL kind W w ws y).length=ws.length:=rwL_length ..
 have hB:=rwL_bd trn_line (kind:=kind) h3 (m:=y) (Nat.le_trans (Nat.mul_le_mul_right _ hy) h5) h6 (by omega)
 rw[show(3*357913941+1:Int)=1073741824 by decide]at hB
 simp -implicitDefEqProofs only[push_cast,zz,seval,b95_1,fs149f,lQ]
 refine⟨fun hl=>?_,fun hl=>?_⟩
 ·have hy':y<h:=by omega
  have hm:=mul_bd (a:=(y:Int)) (b:=(W:Int)) (A:=200) (B:=200) (by omega) (by omega) (by omega) (by omega)
  have hyW:((y:Int)+1)*W<=ws.length:=by
   have h7:(y+1)*W<=ws.length:=Nat.le_trans (Nat.mul_le_mul_right _ hy') h5
   have h8:(((y+1)*W:Nat):Int)=((y:Int)+1)*W:=by simp
   omega
  rw[Int.add_mul]at hyW
  have q:alS (lineL kind w (fun j=>rd (tabl w (alG (rwL lineL kind W w ws y) ((y:Int)*W) 1)) j)) (rwL lineL kind W w ws y) ((y:Int)*W) 1 w=rwL lineL kind W w ws (y+1):=rfl
  simp only[Int.toNat_natCast,q]
  repeat refine om_ ?_
  refine hK (y+1) (by omega) (by omega) _ _ (Sub.pt ?_)
  simp -implicitDefEqProofs only[push_cast,zz,seval]
 ·obtain rfl:y=h:=by omega
  refine postF.mk' (fun _=>default) [some 0,some 1] ?_
  simp -implicitDefEqProofs only[push_cast,zz,seval,fs95f]
def ent95f:Entry:=spOf fs95f inv95f
theorem e95f:EntryOk Tryz.prog 95 ent95f:=entry_of ok95f inv95f
@[push_cast] theorem ent95f_app (us:List SV) (look:Look) (x:Nat->Xf.Loc) (k:Nat):ent95f us look x k=spOf fs95f inv95f us look x k:=rfl
def fs95u:FS where
 A:=RwA
 args:=fun a=>[.ptr 0 a.F 0 0 0,.int .i64 a.w,.int .i64 a.h,.fn 101 []]
 mem:=fun a=>[some (.ro,a.F,.cells [.int .i64 a.W,.sl 1 a.LP 1 0 a.ws.length,.int .i64 a.kind]),some (.lent,a.LP,.ints .i64 a.ws)]
 pre:=fun a=>(a.kind=0∨a.kind=1)/\a.ws.length<=8192/\a.W<=200/\a.w<=a.W/\a.h<=200/\a.h*a.W<=a.ws.length/\AllIn (-375299968947541) 375299968947541 a.ws
 res:=fun a x=>.tup []
 out:=fun a _=>[none,some (some (.ints .i64 (rwL unL a.kind a.W a.w a.ws a.h)))]
def inv95u:List SV->Look->Option (RwA×List Nat)
 | [.ptr c _ _ _ _,.int .i64 w,.int .i64 h,.fn 101 []],look=>match rowC (look c)with
  | some (F,[.int .i64 W,.sl c1 _ 1 0 _,.int .i64 kind])=>match rowI (look c1)with
   | some (LP,.i64,ws)=>some (⟨F,LP,W.toNat,kind,ws,w.toNat,h.toNat⟩,[c,c1])
   | _=>none
  | _=>none
 | _,_=>none
attribute [push_cast] inv95u
theorem ok95u:FSOk Tryz.prog 95 fs95u:=by
 refine hd_ (fk_ Tryz.func95) fun a hp=>?_
 obtain⟨F,LP,W,kind,ws,w,h⟩:=a
 obtain⟨hk,h1,h2,h3,h4,h5,h6⟩:(kind=0∨kind=1)/\ws.length<=8192/\W<=200/\w<=W/\h<=200/\h*W<=ws.length/\AllIn (-375299968947541) 375299968947541 ws:=hp
 change Tri Tryz.prog 95 [.ptr 0 F 0 0 0,.int .i64 w,.int .i64 h,.fn 101 []] [some (.ro,F,.cells [.int .i64 W,.sl 1 LP 1 0 ws.length,.int .i64 kind]),some (.lent,LP,.ints .i64 ws)] (postF fs95u ⟨F,LP,W,kind,ws,w,h⟩)
 refine tri_evS (hyp (l:=[(149,ent149u)]) (lp:=[]) ⟨e149u,trivial⟩ trivial) Tryz.func95 comp95 (rs:=[]) (by rfl) Tryz.ntmps95 14 ?_
 simp -implicitDefEqProofs only[push_cast,zz,seval,ir95]
 refine evS_loopU (A:=Nat) kp95_1 kl95_1 (fun y=>[(10,.int .i64 y)]) (fun y=>[(1,.lent,LP,.ints .i64 (rwL unL kind W w ws y))]) (fun y=>y<=h) (fun y=>h-y) 0 (by omega) (Sub.pt ?_) ?_
 ·simp -implicitDefEqProofs only[push_cast,zz,seval,rwL]
 intro y (hy:y<=h) K hK
 have lQ:(rwL unL kind W w ws y).length=ws.length:=rwL_length ..
 have hB:=rwL_bd trn_unline (kind:=kind) h3 (m:=y) (Nat.le_trans (Nat.mul_le_mul_right _ hy) h5) h6 (by omega)
 rw[show(3*375299968947541+1:Int)=1125899906842624 by decide]at hB
 simp -implicitDefEqProofs only[push_cast,zz,seval,b95_1,fs149u,lQ]
 refine⟨fun hl=>?_,fun hl=>?_⟩
 ·have hy':y<h:=by omega
  have hm:=mul_bd (a:=(y:Int)) (b:=(W:Int)) (A:=200) (B:=200) (by omega) (by omega) (by omega) (by omega)
  have hyW:((y:Int)+1)*W<=ws.length:=by
   have h7:(y+1)*W<=ws.length:=Nat.le_trans (Nat.mul_le_mul_right _ hy') h5
   have h8:(((y+1)*W:Nat):Int)=((y:Int)+1)*W:=by simp
   omega
  rw[Int.add_mul]at hyW
  have q:alS (unL kind w (fun j=>rd (tabl w (alG (rwL unL kind W w ws y) ((y:Int)*W) 1)) j)) (rwL unL kind W w ws y) ((y:Int)*W) 1 w=rwL unL kind W w ws (y+1):=rfl
  simp only[Int.toNat_natCast,q]
  repeat refine om_ ?_
  refine hK (y+1) (by omega) (by omega) _ _ (Sub.pt ?_)
  simp -implicitDefEqProofs only[push_cast,zz,seval]
 ·obtain rfl:y=h:=by omega
  refine postF.mk' (fun _=>default) [some 0,some 1] ?_
  simp -implicitDefEqProofs only[push_cast,zz,seval,fs95u]
def ent95u:Entry:=spOf fs95u inv95u
theorem e95u:EntryOk Tryz.prog 95 ent95u:=entry_of ok95u inv95u
@[push_cast] theorem ent95u_app (us:List SV) (look:Look) (x:Nat->Xf.Loc) (k:Nat):ent95u us look x k=spOf fs95u inv95u us look x k:=rfl
def fs97f:FS where
 A:=RwA
 args:=fun a=>[.ptr 0 a.F 0 0 0,.int .i64 a.w,.int .i64 a.h,.fn 96 []]
 mem:=fun a=>[some (.ro,a.F,.cells [.int .i64 a.W,.sl 1 a.LP 1 0 a.ws.length,.int .i64 a.kind]),some (.lent,a.LP,.ints .i64 a.ws)]
 pre:=fun a=>(a.kind=0∨a.kind=1)/\a.ws.length<=8192/\a.W<=200/\a.w<=a.W/\a.h<=200/\a.h*a.W<=a.ws.length/\AllIn (-357913941) 357913941 a.ws
 res:=fun a x=>.tup []
 out:=fun a _=>[none,some (some (.ints .i64 (clL lineL a.kind a.W a.h a.ws a.w)))]
def inv97f:List SV->Look->Option (RwA×List Nat)
 | [.ptr c _ _ _ _,.int .i64 w,.int .i64 h,.fn 96 []],look=>match rowC (look c)with
  | some (F,[.int .i64 W,.sl c1 _ 1 0 _,.int .i64 kind])=>match rowI (look c1)with
   | some (LP,.i64,ws)=>some (⟨F,LP,W.toNat,kind,ws,w.toNat,h.toNat⟩,[c,c1])
   | _=>none
  | _=>none
 | _,_=>none
attribute [push_cast] inv97f
end Go.Proofs.YtaofjnkpkocgjaaGreat
