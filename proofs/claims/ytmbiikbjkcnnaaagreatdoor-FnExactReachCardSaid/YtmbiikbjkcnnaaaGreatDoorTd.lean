import Derived.Test.YtmbiikbjkcnnaaaGreatDoorTc
import Derived.Test.YtmbiikbjkcnnaaaGreatDoorProg
import Derived.WalkKit
import Derived.Shelf.Small.Bits
import Derived.Shelf.Small.Strs
import Derived.Shelf.Strconv.Atoi
import Derived.Shelf.Strconv.Itoa0
import Derived.Shelf.Strconv.Itoa1
import Derived.Shelf.LaysM
import Derived.Shelf.Strconv.Itoa2
import Derived.Shelf.Strconv.Itoa3
import Derived.Shelf.Strconv.AtoiErrFast
import Derived.Shelf.Strconv.ParseIntEmpty
import Derived.Shelf.Strconv.AtoiFail
import Derived.Shelf.Strconv.Clone
import Derived.Shelf.Strconv.SyntaxError
import Derived.Shelf.LaysC
import Derived.Shelf.Strconv.ToError
import Derived.Shelf.Strconv.Lower
import Derived.Shelf.Strconv.ParseUint10
import Derived.Shelf.Strconv.ParseUint10Empty
import Derived.Shelf.Strconv.ParseUint10Any
import Derived.Shelf.Strconv.ParseInt10
import Derived.Shelf.Strconv.AtoiLong
import Derived.Shelf.Strconv.AtoiInnerAll
import Derived.Shelf.Strconv.RangeError
import Derived.Shelf.Strconv.ToErrorRange
import Derived.Shelf.Strconv.AtoiAll
import Derived.Shelf.Strings.Search1
import Derived.Shelf.Strings.Search2
import Derived.Shelf.Strings.Search3
import Derived.Shelf.Strings.Shaped
import Derived.Shelf.Strings.Prefix
import Derived.Lib.AppendIntMem
import Derived.Lib.IndexMore
import Derived.Lib.ItoaLen
import Derived.Lib.AtoiAll
import Derived.Lib.Bytealg
import Derived.Lib.IndexLaws
import Derived.Lib.AtoiAllCases
import Derived.Laws.BytesArg
import Derived.Lib.Strings
/- Lemmas for the proof in the last text of this claim. -/
set_option linter.unusedVariables false
set_option linter.unusedSimpArgs false
set_option maxRecDepth 1000000
namespace Go.Own
noncomputable abbrev PP:Program:=Go.Proofs.Tryz.prog
def ti3:TI:={ size:=1,bytes:=8,kind:=.int .i64,zero:=[.int .i64 0] }
def ti4:TI:={ size:=1,bytes:=1,kind:=.bool,zero:=[.bool false] }
def ti5:TI:={ size:=1,bytes:=1,kind:=.int .u8,zero:=[.int .u8 0] }
def ti9:TI:={ size:=1,bytes:=16,kind:=.str,zero:=[.string ⟨#[]⟩] }
def ti12:TI:={ size:=1,bytes:=8,kind:=.int .u64,zero:=[.int .u64 0] }
def ti13:TI:={ size:=2,bytes:=24,kind:=.struct [(0,9),(1,12)],zero:=[.string ⟨#[]⟩,.int .u64 0] }
def ti22:TI:={ size:=1,bytes:=24,kind:=.slice 189,zero:=[.slice none 0 0] }
def ti23:TI:={ size:=1,bytes:=24,kind:=.slice 193,zero:=[.slice none 0 0] }
def ti24:TI:={ size:=1,bytes:=24,kind:=.slice 199,zero:=[.slice none 0 0] }
def ti25:TI:={ size:=1,bytes:=24,kind:=.slice 9,zero:=[.slice none 0 0] }
def ti27:TI:={ size:=4,bytes:=96,kind:=.struct [(0,22),(1,23),(2,24),(3,25)],zero:=[.slice none 0 0,.slice none 0 0,.slice none 0 0,.slice none 0 0] }
def ti28:TI:={ size:=1,bytes:=24,kind:=.slice 96,zero:=[.slice none 0 0] }
def ti29:TI:={ size:=1,bytes:=24,kind:=.slice 105,zero:=[.slice none 0 0] }
def ti31:TI:={ size:=7,bytes:=152,kind:=.struct [(0,27),(4,28),(5,29),(6,3)],zero:=[.slice none 0 0,.slice none 0 0,.slice none 0 0,.slice none 0 0,.slice none 0 0,.slice none 0 0,.int .i64 0] }
def ti34:TI:={ size:=1,bytes:=24,kind:=.slice 132,zero:=[.slice none 0 0] }
def ti35:TI:={ size:=1,bytes:=24,kind:=.slice 83,zero:=[.slice none 0 0] }
def ti36:TI:={ size:=1,bytes:=24,kind:=.slice 137,zero:=[.slice none 0 0] }
def ti38:TI:={ size:=4,bytes:=96,kind:=.struct [(0,34),(1,35),(2,36),(3,25)],zero:=[.slice none 0 0,.slice none 0 0,.slice none 0 0,.slice none 0 0] }
def ti39:TI:={ size:=1,bytes:=24,kind:=.slice 112,zero:=[.slice none 0 0] }
def ti40:TI:={ size:=1,bytes:=24,kind:=.slice 125,zero:=[.slice none 0 0] }
def ti42:TI:={ size:=7,bytes:=152,kind:=.struct [(0,38),(4,39),(5,40),(6,3)],zero:=[.slice none 0 0,.slice none 0 0,.slice none 0 0,.slice none 0 0,.slice none 0 0,.slice none 0 0,.int .i64 0] }
def ti47:TI:={ size:=1,bytes:=24,kind:=.slice 4,zero:=[.slice none 0 0] }
def ti49:TI:={ size:=3,bytes:=72,kind:=.struct [(0,47),(1,47),(2,47)],zero:=[.slice none 0 0,.slice none 0 0,.slice none 0 0] }
def ti54:TI:={ size:=1,bytes:=24,kind:=.slice 3,zero:=[.slice none 0 0] }
def ti79:TI:={ size:=1,bytes:=24,kind:=.slice 115,zero:=[.slice none 0 0] }
def ti80:TI:={ size:=1,bytes:=24,kind:=.slice 130,zero:=[.slice none 0 0] }
def ti81:TI:={ size:=1,bytes:=24,kind:=.slice 212,zero:=[.slice none 0 0] }
def ti83:TI:={ size:=6,bytes:=120,kind:=.struct [(0,9),(1,3),(2,25),(3,79),(4,80),(5,81)],zero:=[.string ⟨#[]⟩,.int .i64 0,.slice none 0 0,.slice none 0 0,.slice none 0 0,.slice none 0 0] }
def ti91:TI:={ size:=1,bytes:=24,kind:=.slice 326,zero:=[.slice none 0 0] }
def ti92:TI:={ size:=1,bytes:=24,kind:=.slice 330,zero:=[.slice none 0 0] }
def ti94:TI:={ size:=6,bytes:=136,kind:=.struct [(0,9),(1,25),(2,25),(3,91),(4,92),(5,92)],zero:=[.string ⟨#[]⟩,.slice none 0 0,.slice none 0 0,.slice none 0 0,.slice none 0 0,.slice none 0 0] }
def ti96:TI:={ size:=8,bytes:=152,kind:=.struct [(0,94),(6,3),(7,3)],zero:=[.string ⟨#[]⟩,.slice none 0 0,.slice none 0 0,.slice none 0 0,.slice none 0 0,.slice none 0 0,.int .i64 0,.int .i64 0] }
def ti98:TI:={ size:=1,bytes:=24,kind:=.slice 333,zero:=[.slice none 0 0] }
def ti100:TI:={ size:=3,bytes:=32,kind:=.struct [(0,3),(1,3),(2,9)],zero:=[.int .i64 0,.int .i64 0,.string ⟨#[]⟩],eqk:=[.i,.i,.s] }
def ti101:TI:={ size:=1,bytes:=24,kind:=.slice 336,zero:=[.slice none 0 0] }
def ti103:TI:={ size:=9,bytes:=112,kind:=.struct [(0,3),(1,3),(2,3),(3,98),(4,100),(7,101),(8,3)],zero:=[.int .i64 0,.int .i64 0,.int .i64 0,.slice none 0 0,.int .i64 0,.int .i64 0,.string ⟨#[]⟩,.slice none 0 0,.int .i64 0] }
def ti105:TI:={ size:=10,bytes:=120,kind:=.struct [(0,3),(1,103)],zero:=[.int .i64 0,.int .i64 0,.int .i64 0,.int .i64 0,.slice none 0 0,.int .i64 0,.int .i64 0,.string ⟨#[]⟩,.slice none 0 0,.int .i64 0] }
def ti108:TI:={ size:=1,bytes:=24,kind:=.slice 214,zero:=[.slice none 0 0] }
def ti110:TI:={ size:=6,bytes:=136,kind:=.struct [(0,9),(1,25),(2,25),(3,81),(4,108),(5,108)],zero:=[.string ⟨#[]⟩,.slice none 0 0,.slice none 0 0,.slice none 0 0,.slice none 0 0,.slice none 0 0] }
def ti112:TI:={ size:=8,bytes:=152,kind:=.struct [(0,110),(6,3),(7,3)],zero:=[.string ⟨#[]⟩,.slice none 0 0,.slice none 0 0,.slice none 0 0,.slice none 0 0,.slice none 0 0,.int .i64 0,.int .i64 0] }
def ti115:TI:={ size:=3,bytes:=32,kind:=.struct [(0,3),(1,3),(2,9)],zero:=[.int .i64 0,.int .i64 0,.string ⟨#[]⟩],eqk:=[.i,.i,.s] }
def ti118:TI:={ size:=1,bytes:=24,kind:=.slice 110,zero:=[.slice none 0 0] }
def ti120:TI:={ size:=1,bytes:=24,kind:=.slice 257,zero:=[.slice none 0 0] }
def ti121:TI:={ size:=1,bytes:=24,kind:=.slice 220,zero:=[.slice none 0 0] }
def ti123:TI:={ size:=9,bytes:=112,kind:=.struct [(0,3),(1,3),(2,3),(3,120),(4,115),(7,121),(8,3)],zero:=[.int .i64 0,.int .i64 0,.int .i64 0,.slice none 0 0,.int .i64 0,.int .i64 0,.string ⟨#[]⟩,.slice none 0 0,.int .i64 0] }
def ti125:TI:={ size:=10,bytes:=120,kind:=.struct [(0,3),(1,123)],zero:=[.int .i64 0,.int .i64 0,.int .i64 0,.int .i64 0,.slice none 0 0,.int .i64 0,.int .i64 0,.string ⟨#[]⟩,.slice none 0 0,.int .i64 0] }
def ti130:TI:={ size:=3,bytes:=40,kind:=.struct [(0,9),(1,3),(2,9)],zero:=[.string ⟨#[]⟩,.int .i64 0,.string ⟨#[]⟩] }
def ti132:TI:={ size:=6,bytes:=88,kind:=.struct [(0,3),(1,9),(2,3),(3,3),(4,25),(5,79)],zero:=[.int .i64 0,.string ⟨#[]⟩,.int .i64 0,.int .i64 0,.slice none 0 0,.slice none 0 0] }
def ti133:TI:={ size:=1,bytes:=24,kind:=.slice 206,zero:=[.slice none 0 0] }
def ti135:TI:={ size:=2,bytes:=32,kind:=.struct [(0,133),(1,3)],zero:=[.slice none 0 0,.int .i64 0] }
def ti137:TI:={ size:=3,bytes:=40,kind:=.struct [(0,3),(1,135)],zero:=[.int .i64 0,.slice none 0 0,.int .i64 0] }
def ti147:TI:={ size:=1,bytes:=8,kind:=.oth,zero:=[.pointer none] }
def ti148:TI:={ size:=1,bytes:=8,kind:=.oth,zero:=[.pointer none] }
def ti150:TI:={ size:=7,bytes:=152,kind:=.struct [(0,148),(1,49),(4,54),(5,54),(6,54)],zero:=[.pointer none,.slice none 0 0,.slice none 0 0,.slice none 0 0,.slice none 0 0,.slice none 0 0,.slice none 0 0] }
def ti164:TI:={ size:=1,bytes:=8,kind:=.oth,zero:=[.pointer none] }
def ti165:TI:={ size:=1,bytes:=24,kind:=.slice 5,zero:=[.slice none 0 0] }
def ti167:TI:={ size:=2,bytes:=32,kind:=.struct [(0,164),(1,165)],zero:=[.pointer none,.slice none 0 0] }
def ti169:TI:={ size:=1,bytes:=16,kind:=.ifc,zero:=[.nilIface] }
def ti185:TI:={ size:=1,bytes:=8,kind:=.int .u64,zero:=[.int .u64 0] }
def ti187:TI:={ size:=1,bytes:=24,kind:=.slice 100,zero:=[.slice none 0 0] }
def ti189:TI:={ size:=6,bytes:=88,kind:=.struct [(0,3),(1,9),(2,3),(3,3),(4,25),(5,187)],zero:=[.int .i64 0,.string ⟨#[]⟩,.int .i64 0,.int .i64 0,.slice none 0 0,.slice none 0 0] }
def ti191:TI:={ size:=1,bytes:=24,kind:=.slice 324,zero:=[.slice none 0 0] }
def ti193:TI:={ size:=6,bytes:=120,kind:=.struct [(0,9),(1,3),(2,25),(3,187),(4,191),(5,91)],zero:=[.string ⟨#[]⟩,.int .i64 0,.slice none 0 0,.slice none 0 0,.slice none 0 0,.slice none 0 0] }
def ti195:TI:={ size:=1,bytes:=24,kind:=.slice 358,zero:=[.slice none 0 0] }
def ti197:TI:={ size:=2,bytes:=32,kind:=.struct [(0,195),(1,3)],zero:=[.slice none 0 0,.int .i64 0] }
def ti199:TI:={ size:=3,bytes:=40,kind:=.struct [(0,3),(1,197)],zero:=[.int .i64 0,.slice none 0 0,.int .i64 0] }
def ti206:TI:={ size:=5,bytes:=80,kind:=.struct [(0,3),(1,3),(2,9),(3,25),(4,54)],zero:=[.int .i64 0,.int .i64 0,.string ⟨#[]⟩,.slice none 0 0,.slice none 0 0] }
def ti212:TI:={ size:=2,bytes:=24,kind:=.struct [(0,9),(1,3)],zero:=[.string ⟨#[]⟩,.int .i64 0] }
def ti214:TI:={ size:=3,bytes:=48,kind:=.struct [(0,9),(1,135)],zero:=[.string ⟨#[]⟩,.slice none 0 0,.int .i64 0] }
def ti220:TI:={ size:=4,bytes:=64,kind:=.struct [(0,3),(1,3),(2,79),(3,120)],zero:=[.int .i64 0,.int .i64 0,.slice none 0 0,.slice none 0 0] }
def ti235:TI:={ size:=1,bytes:=8,kind:=.oth,zero:=[.pointer none] }
def ti240:TI:={ size:=1,bytes:=8,kind:=.oth,zero:=[.pointer none] }
def ti249:TI:={ size:=2,bytes:=48,kind:=.struct [(0,34),(1,165)],zero:=[.slice none 0 0,.slice none 0 0] }
def ti257:TI:={ size:=4,bytes:=48,kind:=.struct [(0,9),(1,115)],zero:=[.string ⟨#[]⟩,.int .i64 0,.int .i64 0,.string ⟨#[]⟩] }
def ti259:TI:={ size:=1,bytes:=8,kind:=.int .i64,zero:=[.int .i64 0] }
def ti314:TI:={ size:=1,bytes:=8,kind:=.oth,zero:=[.pointer none] }
def ti317:TI:={ size:=1,bytes:=8,kind:=.int .u64,zero:=[.int .u64 0] }
def ti321:TI:={ size:=1,bytes:=8,kind:=.oth,zero:=[.pointer none] }
def ti324:TI:={ size:=3,bytes:=40,kind:=.struct [(0,9),(1,3),(2,9)],zero:=[.string ⟨#[]⟩,.int .i64 0,.string ⟨#[]⟩] }
def ti326:TI:={ size:=2,bytes:=24,kind:=.struct [(0,9),(1,3)],zero:=[.string ⟨#[]⟩,.int .i64 0] }
def ti330:TI:={ size:=3,bytes:=48,kind:=.struct [(0,9),(1,197)],zero:=[.string ⟨#[]⟩,.slice none 0 0,.int .i64 0] }
def ti333:TI:={ size:=4,bytes:=48,kind:=.struct [(0,9),(1,100)],zero:=[.string ⟨#[]⟩,.int .i64 0,.int .i64 0,.string ⟨#[]⟩] }
def ti336:TI:={ size:=4,bytes:=64,kind:=.struct [(0,3),(1,3),(2,187),(3,98)],zero:=[.int .i64 0,.int .i64 0,.slice none 0 0,.slice none 0 0] }
def ti358:TI:={ size:=5,bytes:=80,kind:=.struct [(0,3),(1,3),(2,9),(3,25),(4,54)],zero:=[.int .i64 0,.int .i64 0,.string ⟨#[]⟩,.slice none 0 0,.slice none 0 0] }
def tt:Nat→Option TI
 |3=>some ti3
 |4=>some ti4
 |5=>some ti5
 |9=>some ti9
 |12=>some ti12
 |13=>some ti13
 |22=>some ti22
 |23=>some ti23
 |24=>some ti24
 |25=>some ti25
 |27=>some ti27
 |28=>some ti28
 |29=>some ti29
 |31=>some ti31
 |34=>some ti34
 |35=>some ti35
 |36=>some ti36
 |38=>some ti38
 |39=>some ti39
 |40=>some ti40
 |42=>some ti42
 |47=>some ti47
 |49=>some ti49
 |54=>some ti54
 |79=>some ti79
 |80=>some ti80
 |81=>some ti81
 |83=>some ti83
 |91=>some ti91
 |92=>some ti92
 |94=>some ti94
 |96=>some ti96
 |98=>some ti98
 |100=>some ti100
 |101=>some ti101
 |103=>some ti103
 |105=>some ti105
 |108=>some ti108
 |110=>some ti110
 |112=>some ti112
 |115=>some ti115
 |118=>some ti118
 |120=>some ti120
 |121=>some ti121
 |123=>some ti123
 |125=>some ti125
 |130=>some ti130
 |132=>some ti132
 |133=>some ti133
 |135=>some ti135
 |137=>some ti137
 |147=>some ti147
 |148=>some ti148
 |150=>some ti150
 |164=>some ti164
 |165=>some ti165
 |167=>some ti167
 |169=>some ti169
 |185=>some ti185
 |187=>some ti187
 |189=>some ti189
 |191=>some ti191
 |193=>some ti193
 |195=>some ti195
 |197=>some ti197
 |199=>some ti199
 |206=>some ti206
 |212=>some ti212
 |214=>some ti214
 |220=>some ti220
 |235=>some ti235
 |240=>some ti240
 |249=>some ti249
 |257=>some ti257
 |259=>some ti259
 |314=>some ti314
 |317=>some ti317
 |321=>some ti321
 |324=>some ti324
 |326=>some ti326
 |330=>some ti330
 |333=>some ti333
 |336=>some ti336
 |358=>some ti358
 |_=>none
def RowOk(t:Nat)(i:TI):Prop:=∃info d z,PP.info? t=some info∧PP.underlying t=some d∧info.size=i.size∧info.bytes=i.bytes∧info.zero=some z∧z.cells.toList=i.zero∧i.kind.ok d
theorem row3:RowOk 3 ti3:=⟨_,_,_,rfl,rfl,rfl,rfl,rfl,rfl,rfl⟩
theorem row4:RowOk 4 ti4:=⟨_,_,_,rfl,rfl,rfl,rfl,rfl,rfl,rfl⟩
theorem row5:RowOk 5 ti5:=⟨_,_,_,rfl,rfl,rfl,rfl,rfl,rfl,rfl⟩
theorem row9:RowOk 9 ti9:=⟨_,_,_,rfl,rfl,rfl,rfl,rfl,rfl,rfl⟩
theorem row12:RowOk 12 ti12:=⟨_,_,_,rfl,rfl,rfl,rfl,rfl,rfl,rfl⟩
theorem row13:RowOk 13 ti13:=⟨_,_,_,rfl,rfl,rfl,rfl,rfl,rfl,⟨_,rfl,rfl⟩⟩
theorem row22:RowOk 22 ti22:=⟨_,_,_,rfl,rfl,rfl,rfl,rfl,rfl,rfl⟩
theorem row23:RowOk 23 ti23:=⟨_,_,_,rfl,rfl,rfl,rfl,rfl,rfl,rfl⟩
theorem row24:RowOk 24 ti24:=⟨_,_,_,rfl,rfl,rfl,rfl,rfl,rfl,rfl⟩
theorem row25:RowOk 25 ti25:=⟨_,_,_,rfl,rfl,rfl,rfl,rfl,rfl,rfl⟩
theorem row27:RowOk 27 ti27:=⟨_,_,_,rfl,rfl,rfl,rfl,rfl,rfl,⟨_,rfl,rfl⟩⟩
theorem row28:RowOk 28 ti28:=⟨_,_,_,rfl,rfl,rfl,rfl,rfl,rfl,rfl⟩
theorem row29:RowOk 29 ti29:=⟨_,_,_,rfl,rfl,rfl,rfl,rfl,rfl,rfl⟩
theorem row31:RowOk 31 ti31:=⟨_,_,_,rfl,rfl,rfl,rfl,rfl,rfl,⟨_,rfl,rfl⟩⟩
theorem row34:RowOk 34 ti34:=⟨_,_,_,rfl,rfl,rfl,rfl,rfl,rfl,rfl⟩
theorem row35:RowOk 35 ti35:=⟨_,_,_,rfl,rfl,rfl,rfl,rfl,rfl,rfl⟩
theorem row36:RowOk 36 ti36:=⟨_,_,_,rfl,rfl,rfl,rfl,rfl,rfl,rfl⟩
theorem row38:RowOk 38 ti38:=⟨_,_,_,rfl,rfl,rfl,rfl,rfl,rfl,⟨_,rfl,rfl⟩⟩
theorem row39:RowOk 39 ti39:=⟨_,_,_,rfl,rfl,rfl,rfl,rfl,rfl,rfl⟩
theorem row40:RowOk 40 ti40:=⟨_,_,_,rfl,rfl,rfl,rfl,rfl,rfl,rfl⟩
theorem row42:RowOk 42 ti42:=⟨_,_,_,rfl,rfl,rfl,rfl,rfl,rfl,⟨_,rfl,rfl⟩⟩
theorem row47:RowOk 47 ti47:=⟨_,_,_,rfl,rfl,rfl,rfl,rfl,rfl,rfl⟩
theorem row49:RowOk 49 ti49:=⟨_,_,_,rfl,rfl,rfl,rfl,rfl,rfl,⟨_,rfl,rfl⟩⟩
theorem row54:RowOk 54 ti54:=⟨_,_,_,rfl,rfl,rfl,rfl,rfl,rfl,rfl⟩
theorem row79:RowOk 79 ti79:=⟨_,_,_,rfl,rfl,rfl,rfl,rfl,rfl,rfl⟩
theorem row80:RowOk 80 ti80:=⟨_,_,_,rfl,rfl,rfl,rfl,rfl,rfl,rfl⟩
theorem row81:RowOk 81 ti81:=⟨_,_,_,rfl,rfl,rfl,rfl,rfl,rfl,rfl⟩
theorem row83:RowOk 83 ti83:=⟨_,_,_,rfl,rfl,rfl,rfl,rfl,rfl,⟨_,rfl,rfl⟩⟩
theorem row91:RowOk 91 ti91:=⟨_,_,_,rfl,rfl,rfl,rfl,rfl,rfl,rfl⟩
theorem row92:RowOk 92 ti92:=⟨_,_,_,rfl,rfl,rfl,rfl,rfl,rfl,rfl⟩
theorem row94:RowOk 94 ti94:=⟨_,_,_,rfl,rfl,rfl,rfl,rfl,rfl,⟨_,rfl,rfl⟩⟩
theorem row96:RowOk 96 ti96:=⟨_,_,_,rfl,rfl,rfl,rfl,rfl,rfl,⟨_,rfl,rfl⟩⟩
theorem row98:RowOk 98 ti98:=⟨_,_,_,rfl,rfl,rfl,rfl,rfl,rfl,rfl⟩
theorem row100:RowOk 100 ti100:=⟨_,_,_,rfl,rfl,rfl,rfl,rfl,rfl,⟨_,rfl,rfl⟩⟩
theorem row101:RowOk 101 ti101:=⟨_,_,_,rfl,rfl,rfl,rfl,rfl,rfl,rfl⟩
theorem row103:RowOk 103 ti103:=⟨_,_,_,rfl,rfl,rfl,rfl,rfl,rfl,⟨_,rfl,rfl⟩⟩
theorem row105:RowOk 105 ti105:=⟨_,_,_,rfl,rfl,rfl,rfl,rfl,rfl,⟨_,rfl,rfl⟩⟩
theorem row108:RowOk 108 ti108:=⟨_,_,_,rfl,rfl,rfl,rfl,rfl,rfl,rfl⟩
theorem row110:RowOk 110 ti110:=⟨_,_,_,rfl,rfl,rfl,rfl,rfl,rfl,⟨_,rfl,rfl⟩⟩
theorem row112:RowOk 112 ti112:=⟨_,_,_,rfl,rfl,rfl,rfl,rfl,rfl,⟨_,rfl,rfl⟩⟩
theorem row115:RowOk 115 ti115:=⟨_,_,_,rfl,rfl,rfl,rfl,rfl,rfl,⟨_,rfl,rfl⟩⟩
theorem row118:RowOk 118 ti118:=⟨_,_,_,rfl,rfl,rfl,rfl,rfl,rfl,rfl⟩
theorem row120:RowOk 120 ti120:=⟨_,_,_,rfl,rfl,rfl,rfl,rfl,rfl,rfl⟩
theorem row121:RowOk 121 ti121:=⟨_,_,_,rfl,rfl,rfl,rfl,rfl,rfl,rfl⟩
theorem row123:RowOk 123 ti123:=⟨_,_,_,rfl,rfl,rfl,rfl,rfl,rfl,⟨_,rfl,rfl⟩⟩
theorem row125:RowOk 125 ti125:=⟨_,_,_,rfl,rfl,rfl,rfl,rfl,rfl,⟨_,rfl,rfl⟩⟩
theorem row130:RowOk 130 ti130:=⟨_,_,_,rfl,rfl,rfl,rfl,rfl,rfl,⟨_,rfl,rfl⟩⟩
theorem row132:RowOk 132 ti132:=⟨_,_,_,rfl,rfl,rfl,rfl,rfl,rfl,⟨_,rfl,rfl⟩⟩
theorem row133:RowOk 133 ti133:=⟨_,_,_,rfl,rfl,rfl,rfl,rfl,rfl,rfl⟩
theorem row135:RowOk 135 ti135:=⟨_,_,_,rfl,rfl,rfl,rfl,rfl,rfl,⟨_,rfl,rfl⟩⟩
theorem row137:RowOk 137 ti137:=⟨_,_,_,rfl,rfl,rfl,rfl,rfl,rfl,⟨_,rfl,rfl⟩⟩
theorem row147:RowOk 147 ti147:=⟨_,_,_,rfl,rfl,rfl,rfl,rfl,rfl,trivial⟩
theorem row148:RowOk 148 ti148:=⟨_,_,_,rfl,rfl,rfl,rfl,rfl,rfl,trivial⟩
theorem row150:RowOk 150 ti150:=⟨_,_,_,rfl,rfl,rfl,rfl,rfl,rfl,⟨_,rfl,rfl⟩⟩
theorem row164:RowOk 164 ti164:=⟨_,_,_,rfl,rfl,rfl,rfl,rfl,rfl,trivial⟩
theorem row165:RowOk 165 ti165:=⟨_,_,_,rfl,rfl,rfl,rfl,rfl,rfl,rfl⟩
theorem row167:RowOk 167 ti167:=⟨_,_,_,rfl,rfl,rfl,rfl,rfl,rfl,⟨_,rfl,rfl⟩⟩
theorem row169:RowOk 169 ti169:=⟨_,_,_,rfl,rfl,rfl,rfl,rfl,rfl,⟨_,rfl⟩⟩
theorem row185:RowOk 185 ti185:=⟨_,_,_,rfl,rfl,rfl,rfl,rfl,rfl,rfl⟩
theorem row187:RowOk 187 ti187:=⟨_,_,_,rfl,rfl,rfl,rfl,rfl,rfl,rfl⟩
theorem row189:RowOk 189 ti189:=⟨_,_,_,rfl,rfl,rfl,rfl,rfl,rfl,⟨_,rfl,rfl⟩⟩
theorem row191:RowOk 191 ti191:=⟨_,_,_,rfl,rfl,rfl,rfl,rfl,rfl,rfl⟩
theorem row193:RowOk 193 ti193:=⟨_,_,_,rfl,rfl,rfl,rfl,rfl,rfl,⟨_,rfl,rfl⟩⟩
theorem row195:RowOk 195 ti195:=⟨_,_,_,rfl,rfl,rfl,rfl,rfl,rfl,rfl⟩
theorem row197:RowOk 197 ti197:=⟨_,_,_,rfl,rfl,rfl,rfl,rfl,rfl,⟨_,rfl,rfl⟩⟩
theorem row199:RowOk 199 ti199:=⟨_,_,_,rfl,rfl,rfl,rfl,rfl,rfl,⟨_,rfl,rfl⟩⟩
theorem row206:RowOk 206 ti206:=⟨_,_,_,rfl,rfl,rfl,rfl,rfl,rfl,⟨_,rfl,rfl⟩⟩
theorem row212:RowOk 212 ti212:=⟨_,_,_,rfl,rfl,rfl,rfl,rfl,rfl,⟨_,rfl,rfl⟩⟩
theorem row214:RowOk 214 ti214:=⟨_,_,_,rfl,rfl,rfl,rfl,rfl,rfl,⟨_,rfl,rfl⟩⟩
theorem row220:RowOk 220 ti220:=⟨_,_,_,rfl,rfl,rfl,rfl,rfl,rfl,⟨_,rfl,rfl⟩⟩
theorem row235:RowOk 235 ti235:=⟨_,_,_,rfl,rfl,rfl,rfl,rfl,rfl,trivial⟩
theorem row240:RowOk 240 ti240:=⟨_,_,_,rfl,rfl,rfl,rfl,rfl,rfl,trivial⟩
theorem row249:RowOk 249 ti249:=⟨_,_,_,rfl,rfl,rfl,rfl,rfl,rfl,⟨_,rfl,rfl⟩⟩
theorem row257:RowOk 257 ti257:=⟨_,_,_,rfl,rfl,rfl,rfl,rfl,rfl,⟨_,rfl,rfl⟩⟩
theorem row259:RowOk 259 ti259:=⟨_,_,_,rfl,rfl,rfl,rfl,rfl,rfl,rfl⟩
theorem row314:RowOk 314 ti314:=⟨_,_,_,rfl,rfl,rfl,rfl,rfl,rfl,trivial⟩
theorem row317:RowOk 317 ti317:=⟨_,_,_,rfl,rfl,rfl,rfl,rfl,rfl,rfl⟩
theorem row321:RowOk 321 ti321:=⟨_,_,_,rfl,rfl,rfl,rfl,rfl,rfl,trivial⟩
theorem row324:RowOk 324 ti324:=⟨_,_,_,rfl,rfl,rfl,rfl,rfl,rfl,⟨_,rfl,rfl⟩⟩
theorem row326:RowOk 326 ti326:=⟨_,_,_,rfl,rfl,rfl,rfl,rfl,rfl,⟨_,rfl,rfl⟩⟩
theorem row330:RowOk 330 ti330:=⟨_,_,_,rfl,rfl,rfl,rfl,rfl,rfl,⟨_,rfl,rfl⟩⟩
theorem row333:RowOk 333 ti333:=⟨_,_,_,rfl,rfl,rfl,rfl,rfl,rfl,⟨_,rfl,rfl⟩⟩
theorem row336:RowOk 336 ti336:=⟨_,_,_,rfl,rfl,rfl,rfl,rfl,rfl,⟨_,rfl,rfl⟩⟩
theorem row358:RowOk 358 ti358:=⟨_,_,_,rfl,rfl,rfl,rfl,rfl,rfl,⟨_,rfl,rfl⟩⟩
theorem tt_ok:∀t i,tt t=some i→RowOk t i:=by
 intro t i h
 unfold tt at h
 split at h
 ·injection h with h;subst h;exact row3
 ·injection h with h;subst h;exact row4
 ·injection h with h;subst h;exact row5
 ·injection h with h;subst h;exact row9
 ·injection h with h;subst h;exact row12
 ·injection h with h;subst h;exact row13
 ·injection h with h;subst h;exact row22
 ·injection h with h;subst h;exact row23
 ·injection h with h;subst h;exact row24
 ·injection h with h;subst h;exact row25
 ·injection h with h;subst h;exact row27
 ·injection h with h;subst h;exact row28
 ·injection h with h;subst h;exact row29
 ·injection h with h;subst h;exact row31
 ·injection h with h;subst h;exact row34
 ·injection h with h;subst h;exact row35
 ·injection h with h;subst h;exact row36
 ·injection h with h;subst h;exact row38
 ·injection h with h;subst h;exact row39
 ·injection h with h;subst h;exact row40
 ·injection h with h;subst h;exact row42
 ·injection h with h;subst h;exact row47
 ·injection h with h;subst h;exact row49
 ·injection h with h;subst h;exact row54
 ·injection h with h;subst h;exact row79
 ·injection h with h;subst h;exact row80
 ·injection h with h;subst h;exact row81
 ·injection h with h;subst h;exact row83
 ·injection h with h;subst h;exact row91
 ·injection h with h;subst h;exact row92
 ·injection h with h;subst h;exact row94
 ·injection h with h;subst h;exact row96
 ·injection h with h;subst h;exact row98
 ·injection h with h;subst h;exact row100
 ·injection h with h;subst h;exact row101
 ·injection h with h;subst h;exact row103
 ·injection h with h;subst h;exact row105
 ·injection h with h;subst h;exact row108
 ·injection h with h;subst h;exact row110
 ·injection h with h;subst h;exact row112
 ·injection h with h;subst h;exact row115
 ·injection h with h;subst h;exact row118
 ·injection h with h;subst h;exact row120
 ·injection h with h;subst h;exact row121
 ·injection h with h;subst h;exact row123
 ·injection h with h;subst h;exact row125
 ·injection h with h;subst h;exact row130
 ·injection h with h;subst h;exact row132
 ·injection h with h;subst h;exact row133
 ·injection h with h;subst h;exact row135
 ·injection h with h;subst h;exact row137
 ·injection h with h;subst h;exact row147
 ·injection h with h;subst h;exact row148
 ·injection h with h;subst h;exact row150
 ·injection h with h;subst h;exact row164
 ·injection h with h;subst h;exact row165
 ·injection h with h;subst h;exact row167
 ·injection h with h;subst h;exact row169
 ·injection h with h;subst h;exact row185
 ·injection h with h;subst h;exact row187
 ·injection h with h;subst h;exact row189
 ·injection h with h;subst h;exact row191
 ·injection h with h;subst h;exact row193
 ·injection h with h;subst h;exact row195
 ·injection h with h;subst h;exact row197
 ·injection h with h;subst h;exact row199
 ·injection h with h;subst h;exact row206
 ·injection h with h;subst h;exact row212
 ·injection h with h;subst h;exact row214
 ·injection h with h;subst h;exact row220
 ·injection h with h;subst h;exact row235
 ·injection h with h;subst h;exact row240
 ·injection h with h;subst h;exact row249
 ·injection h with h;subst h;exact row257
 ·injection h with h;subst h;exact row259
 ·injection h with h;subst h;exact row314
 ·injection h with h;subst h;exact row317
 ·injection h with h;subst h;exact row321
 ·injection h with h;subst h;exact row324
 ·injection h with h;subst h;exact row326
 ·injection h with h;subst h;exact row330
 ·injection h with h;subst h;exact row333
 ·injection h with h;subst h;exact row336
 ·injection h with h;subst h;exact row358
 ·simp at h
theorem eqV_iis{xs ys:List Value}{b:Bool}(h:eqV [.i,.i,.s] xs ys=some b):∃a1 a2 a3 b1 b2 b3,xs=[.int .i64 a1,.int .i64 a2,.string a3]∧ys=[.int .i64 b1,.int .i64 b2,.string b3]∧b=(a1==b1&&(a2==b2&&(a3.toList==b3.toList&&true))):=by
 unfold eqV at h
 split at h<;>(try(simp at h;done))<;>rename_i hk<;>(try(simp at hk;done))
 rename_i x1 xs1 y1 ys1
 simp only[List.cons.injEq]at hk
 obtain⟨_,rfl⟩:=hk
 simp only[Option.map_eq_some_iff]at h
 obtain⟨r1,h,rfl⟩:=h
 unfold eqV at h
 split at h<;>(try(simp at h;done))<;>rename_i hk<;>(try(simp at hk;done))
 rename_i x2 xs2 y2 ys2
 simp only[List.cons.injEq]at hk
 obtain⟨_,rfl⟩:=hk
 simp only[Option.map_eq_some_iff]at h
 obtain⟨r2,h,rfl⟩:=h
 unfold eqV at h
 split at h<;>(try(simp at h;done))<;>rename_i hk<;>(try(simp at hk;done))
 rename_i x3 xs3 y3 ys3
 simp only[List.cons.injEq]at hk
 obtain⟨_,rfl⟩:=hk
 simp only[Option.map_eq_some_iff]at h
 obtain⟨r3,h,rfl⟩:=h
 unfold eqV at h
 split at h<;>(try(simp at h;done))<;>(try(rename_i hk;simp at hk;done))
 injection h with h
 subst h
 exact⟨x1,x2,x3,y1,y2,y3,rfl,rfl,rfl⟩
theorem eq_row(t:Nat)(h:t=115∨t=100):PP.eqGuardType PP.depth t=false∧∀(w:World) (xs ys:List Value) (b:Bool),eqV [.i,.i,.s] xs ys=some b→(Op.equal t (.agg xs.toArray) (.agg ys.toArray)).run PP w=.ok b w:=by
 refine⟨by rcases h with rfl|rfl<;>kernel_rfl,fun w xs ys b hb=>?_⟩
 obtain⟨a1,a2,a3,b1,b2,b3,rfl,rfl,rfl⟩:=eqV_iis hb
 have key:∀t,PP.underlying t=some (.struct (PP.fieldsOf t))→PP.stoodInHeld t=false→(PP.fieldsOf t)=(PP.fieldsOf 115)→(Op.equal t (.agg [Value.int .i64 a1,.int .i64 a2,.string a3].toArray) (.agg [Value.int .i64 b1,.int .i64 b2,.string b3].toArray)).run PP w=.ok (a1==b1&&(a2==b2&&(a3.toList==b3.toList&&true))) w:=by
  intro t h1 h2 h3
  simp only[Op.equal,Op.maxDepth]
  rw[run_equalIn_agg w _ t _ _ h1 h2,h3]
  have hf:(PP.fieldsOf 115).toList=[{ name := "Kind",type:=3,offset:=0,embedded:=false,tag := "",pkgPath := "",byteOffset:=0 },{ name := "N",type:=3,offset:=1,embedded:=false,tag := "",pkgPath := "",byteOffset:=8 },{ name := "S",type:=9,offset:=2,embedded:=false,tag := "",pkgPath := "",byteOffset:=16 }]:=rfl
  rw[hf]
  have u3:PP.underlying 3=some (.int .i64):=rfl
  have u9:PP.underlying 9=some .string:=rfl
  simp[Op.eqFields,part,isAgg,run_underlying u3,run_underlying u9,run_equalIn_int _ _ _ _ _ _ _ u3,run_equalIn_string _ _ _ _ _ u9]
  by_cases e1:a1=b1<;>by_cases e2:a2=b2<;>by_cases e3:a3.toList=b3.toList<;>simp[e1,e2,e3]
 rcases h with rfl|rfl
 ·exact key 115 rfl (by kernel_rfl) rfl
 ·exact key 100 rfl (by kernel_rfl) rfl
theorem tok:TOk PP tt where
 ok:=tt_ok
 mixed:=by kernel_rfl
 eq:=by
  intro t i h hne
  unfold tt at h
  split at h
  ·injection h with h;subst h;exact absurd rfl hne
  ·injection h with h;subst h;exact absurd rfl hne
  ·injection h with h;subst h;exact absurd rfl hne
  ·injection h with h;subst h;exact absurd rfl hne
  ·injection h with h;subst h;exact absurd rfl hne
  ·injection h with h;subst h;exact absurd rfl hne
  ·injection h with h;subst h;exact absurd rfl hne
  ·injection h with h;subst h;exact absurd rfl hne
  ·injection h with h;subst h;exact absurd rfl hne
  ·injection h with h;subst h;exact absurd rfl hne
  ·injection h with h;subst h;exact absurd rfl hne
  ·injection h with h;subst h;exact absurd rfl hne
  ·injection h with h;subst h;exact absurd rfl hne
  ·injection h with h;subst h;exact absurd rfl hne
  ·injection h with h;subst h;exact absurd rfl hne
  ·injection h with h;subst h;exact absurd rfl hne
  ·injection h with h;subst h;exact absurd rfl hne
  ·injection h with h;subst h;exact absurd rfl hne
  ·injection h with h;subst h;exact absurd rfl hne
  ·injection h with h;subst h;exact absurd rfl hne
  ·injection h with h;subst h;exact absurd rfl hne
  ·injection h with h;subst h;exact absurd rfl hne
  ·injection h with h;subst h;exact absurd rfl hne
  ·injection h with h;subst h;exact absurd rfl hne
  ·injection h with h;subst h;exact absurd rfl hne
  ·injection h with h;subst h;exact absurd rfl hne
  ·injection h with h;subst h;exact absurd rfl hne
  ·injection h with h;subst h;exact absurd rfl hne
  ·injection h with h;subst h;exact absurd rfl hne
  ·injection h with h;subst h;exact absurd rfl hne
  ·injection h with h;subst h;exact absurd rfl hne
  ·injection h with h;subst h;exact absurd rfl hne
  ·injection h with h;subst h;exact absurd rfl hne
  ·injection h with h;subst h;exact eq_row _ (by simp)
  ·injection h with h;subst h;exact absurd rfl hne
  ·injection h with h;subst h;exact absurd rfl hne
  ·injection h with h;subst h;exact absurd rfl hne
  ·injection h with h;subst h;exact absurd rfl hne
  ·injection h with h;subst h;exact absurd rfl hne
  ·injection h with h;subst h;exact absurd rfl hne
  ·injection h with h;subst h;exact eq_row _ (by simp)
  ·injection h with h;subst h;exact absurd rfl hne
  ·injection h with h;subst h;exact absurd rfl hne
  ·injection h with h;subst h;exact absurd rfl hne
  ·injection h with h;subst h;exact absurd rfl hne
  ·injection h with h;subst h;exact absurd rfl hne
  ·injection h with h;subst h;exact absurd rfl hne
  ·injection h with h;subst h;exact absurd rfl hne
  ·injection h with h;subst h;exact absurd rfl hne
  ·injection h with h;subst h;exact absurd rfl hne
  ·injection h with h;subst h;exact absurd rfl hne
  ·injection h with h;subst h;exact absurd rfl hne
  ·injection h with h;subst h;exact absurd rfl hne
  ·injection h with h;subst h;exact absurd rfl hne
  ·injection h with h;subst h;exact absurd rfl hne
  ·injection h with h;subst h;exact absurd rfl hne
  ·injection h with h;subst h;exact absurd rfl hne
  ·injection h with h;subst h;exact absurd rfl hne
  ·injection h with h;subst h;exact absurd rfl hne
  ·injection h with h;subst h;exact absurd rfl hne
  ·injection h with h;subst h;exact absurd rfl hne
  ·injection h with h;subst h;exact absurd rfl hne
  ·injection h with h;subst h;exact absurd rfl hne
  ·injection h with h;subst h;exact absurd rfl hne
  ·injection h with h;subst h;exact absurd rfl hne
  ·injection h with h;subst h;exact absurd rfl hne
  ·injection h with h;subst h;exact absurd rfl hne
  ·injection h with h;subst h;exact absurd rfl hne
  ·injection h with h;subst h;exact absurd rfl hne
  ·injection h with h;subst h;exact absurd rfl hne
  ·injection h with h;subst h;exact absurd rfl hne
  ·injection h with h;subst h;exact absurd rfl hne
  ·injection h with h;subst h;exact absurd rfl hne
  ·injection h with h;subst h;exact absurd rfl hne
  ·injection h with h;subst h;exact absurd rfl hne
  ·injection h with h;subst h;exact absurd rfl hne
  ·injection h with h;subst h;exact absurd rfl hne
  ·injection h with h;subst h;exact absurd rfl hne
  ·injection h with h;subst h;exact absurd rfl hne
  ·injection h with h;subst h;exact absurd rfl hne
  ·injection h with h;subst h;exact absurd rfl hne
  ·injection h with h;subst h;exact absurd rfl hne
  ·injection h with h;subst h;exact absurd rfl hne
  ·injection h with h;subst h;exact absurd rfl hne
  ·simp at h
@[simp] theorem tt_3:tt 3=some ti3:=rfl
@[simp] theorem ti3_size:ti3.size=1:=rfl
@[simp] theorem ti3_bytes:ti3.bytes=8:=rfl
@[simp] theorem ti3_kind:ti3.kind=.int .i64:=rfl
@[simp] theorem ti3_agg:ti3.kind.agg=false:=rfl
@[simp] theorem ti3_zero:ti3.zero=[.int .i64 0]:=rfl
@[simp] theorem ti3_eqk:ti3.eqk=[]:=rfl
@[simp] theorem kd_3:kd tt 3=some (.int .i64):=rfl
@[simp] theorem tt_4:tt 4=some ti4:=rfl
@[simp] theorem ti4_size:ti4.size=1:=rfl
@[simp] theorem ti4_bytes:ti4.bytes=1:=rfl
@[simp] theorem ti4_kind:ti4.kind=.bool:=rfl
@[simp] theorem ti4_agg:ti4.kind.agg=false:=rfl
@[simp] theorem ti4_zero:ti4.zero=[.bool false]:=rfl
@[simp] theorem ti4_eqk:ti4.eqk=[]:=rfl
@[simp] theorem kd_4:kd tt 4=some (.bool):=rfl
@[simp] theorem tt_5:tt 5=some ti5:=rfl
@[simp] theorem ti5_size:ti5.size=1:=rfl
@[simp] theorem ti5_bytes:ti5.bytes=1:=rfl
@[simp] theorem ti5_kind:ti5.kind=.int .u8:=rfl
@[simp] theorem ti5_agg:ti5.kind.agg=false:=rfl
@[simp] theorem ti5_zero:ti5.zero=[.int .u8 0]:=rfl
@[simp] theorem ti5_eqk:ti5.eqk=[]:=rfl
@[simp] theorem kd_5:kd tt 5=some (.int .u8):=rfl
@[simp] theorem tt_9:tt 9=some ti9:=rfl
@[simp] theorem ti9_size:ti9.size=1:=rfl
@[simp] theorem ti9_bytes:ti9.bytes=16:=rfl
@[simp] theorem ti9_kind:ti9.kind=.str:=rfl
@[simp] theorem ti9_agg:ti9.kind.agg=false:=rfl
@[simp] theorem ti9_zero:ti9.zero=[.string ⟨#[]⟩]:=rfl
@[simp] theorem ti9_eqk:ti9.eqk=[]:=rfl
@[simp] theorem kd_9:kd tt 9=some (.str):=rfl
@[simp] theorem tt_12:tt 12=some ti12:=rfl
@[simp] theorem ti12_size:ti12.size=1:=rfl
@[simp] theorem ti12_bytes:ti12.bytes=8:=rfl
@[simp] theorem ti12_kind:ti12.kind=.int .u64:=rfl
@[simp] theorem ti12_agg:ti12.kind.agg=false:=rfl
@[simp] theorem ti12_zero:ti12.zero=[.int .u64 0]:=rfl
@[simp] theorem ti12_eqk:ti12.eqk=[]:=rfl
@[simp] theorem kd_12:kd tt 12=some (.int .u64):=rfl
@[simp] theorem tt_13:tt 13=some ti13:=rfl
@[simp] theorem ti13_size:ti13.size=2:=rfl
@[simp] theorem ti13_bytes:ti13.bytes=24:=rfl
@[simp] theorem ti13_kind:ti13.kind=.struct [(0,9),(1,12)]:=rfl
@[simp] theorem ti13_agg:ti13.kind.agg=true:=rfl
@[simp] theorem ti13_zero:ti13.zero=[.string ⟨#[]⟩,.int .u64 0]:=rfl
@[simp] theorem ti13_eqk:ti13.eqk=[]:=rfl
@[simp] theorem kd_13:kd tt 13=some (.struct [(0,9),(1,12)]):=rfl
@[simp] theorem fieldT_13_0:fieldT tt 13 0=some (0,ti9):=rfl
@[simp] theorem fieldT_13_1:fieldT tt 13 1=some (1,ti12):=rfl
@[simp] theorem tt_22:tt 22=some ti22:=rfl
@[simp] theorem ti22_size:ti22.size=1:=rfl
@[simp] theorem ti22_bytes:ti22.bytes=24:=rfl
@[simp] theorem ti22_kind:ti22.kind=.slice 189:=rfl
@[simp] theorem ti22_agg:ti22.kind.agg=false:=rfl
@[simp] theorem ti22_zero:ti22.zero=[.slice none 0 0]:=rfl
@[simp] theorem ti22_eqk:ti22.eqk=[]:=rfl
@[simp] theorem kd_22:kd tt 22=some (.slice 189):=rfl
@[simp] theorem elemT_22:elemT tt 22=some (189,ti189):=rfl
@[simp] theorem tt_23:tt 23=some ti23:=rfl
@[simp] theorem ti23_size:ti23.size=1:=rfl
@[simp] theorem ti23_bytes:ti23.bytes=24:=rfl
@[simp] theorem ti23_kind:ti23.kind=.slice 193:=rfl
@[simp] theorem ti23_agg:ti23.kind.agg=false:=rfl
@[simp] theorem ti23_zero:ti23.zero=[.slice none 0 0]:=rfl
@[simp] theorem ti23_eqk:ti23.eqk=[]:=rfl
@[simp] theorem kd_23:kd tt 23=some (.slice 193):=rfl
@[simp] theorem elemT_23:elemT tt 23=some (193,ti193):=rfl
@[simp] theorem tt_24:tt 24=some ti24:=rfl
@[simp] theorem ti24_size:ti24.size=1:=rfl
@[simp] theorem ti24_bytes:ti24.bytes=24:=rfl
@[simp] theorem ti24_kind:ti24.kind=.slice 199:=rfl
@[simp] theorem ti24_agg:ti24.kind.agg=false:=rfl
@[simp] theorem ti24_zero:ti24.zero=[.slice none 0 0]:=rfl
@[simp] theorem ti24_eqk:ti24.eqk=[]:=rfl
@[simp] theorem kd_24:kd tt 24=some (.slice 199):=rfl
@[simp] theorem elemT_24:elemT tt 24=some (199,ti199):=rfl
@[simp] theorem tt_25:tt 25=some ti25:=rfl
@[simp] theorem ti25_size:ti25.size=1:=rfl
@[simp] theorem ti25_bytes:ti25.bytes=24:=rfl
@[simp] theorem ti25_kind:ti25.kind=.slice 9:=rfl
@[simp] theorem ti25_agg:ti25.kind.agg=false:=rfl
@[simp] theorem ti25_zero:ti25.zero=[.slice none 0 0]:=rfl
@[simp] theorem ti25_eqk:ti25.eqk=[]:=rfl
@[simp] theorem kd_25:kd tt 25=some (.slice 9):=rfl
@[simp] theorem elemT_25:elemT tt 25=some (9,ti9):=rfl
@[simp] theorem tt_27:tt 27=some ti27:=rfl
@[simp] theorem ti27_size:ti27.size=4:=rfl
@[simp] theorem ti27_bytes:ti27.bytes=96:=rfl
@[simp] theorem ti27_kind:ti27.kind=.struct [(0,22),(1,23),(2,24),(3,25)]:=rfl
@[simp] theorem ti27_agg:ti27.kind.agg=true:=rfl
@[simp] theorem ti27_zero:ti27.zero=[.slice none 0 0,.slice none 0 0,.slice none 0 0,.slice none 0 0]:=rfl
@[simp] theorem ti27_eqk:ti27.eqk=[]:=rfl
@[simp] theorem kd_27:kd tt 27=some (.struct [(0,22),(1,23),(2,24),(3,25)]):=rfl
@[simp] theorem fieldT_27_0:fieldT tt 27 0=some (0,ti22):=rfl
@[simp] theorem fieldT_27_1:fieldT tt 27 1=some (1,ti23):=rfl
@[simp] theorem fieldT_27_2:fieldT tt 27 2=some (2,ti24):=rfl
@[simp] theorem fieldT_27_3:fieldT tt 27 3=some (3,ti25):=rfl
@[simp] theorem tt_28:tt 28=some ti28:=rfl
@[simp] theorem ti28_size:ti28.size=1:=rfl
@[simp] theorem ti28_bytes:ti28.bytes=24:=rfl
@[simp] theorem ti28_kind:ti28.kind=.slice 96:=rfl
@[simp] theorem ti28_agg:ti28.kind.agg=false:=rfl
@[simp] theorem ti28_zero:ti28.zero=[.slice none 0 0]:=rfl
@[simp] theorem ti28_eqk:ti28.eqk=[]:=rfl
@[simp] theorem kd_28:kd tt 28=some (.slice 96):=rfl
@[simp] theorem elemT_28:elemT tt 28=some (96,ti96):=rfl
@[simp] theorem tt_29:tt 29=some ti29:=rfl
@[simp] theorem ti29_size:ti29.size=1:=rfl
@[simp] theorem ti29_bytes:ti29.bytes=24:=rfl
@[simp] theorem ti29_kind:ti29.kind=.slice 105:=rfl
@[simp] theorem ti29_agg:ti29.kind.agg=false:=rfl
@[simp] theorem ti29_zero:ti29.zero=[.slice none 0 0]:=rfl
@[simp] theorem ti29_eqk:ti29.eqk=[]:=rfl
@[simp] theorem kd_29:kd tt 29=some (.slice 105):=rfl
@[simp] theorem elemT_29:elemT tt 29=some (105,ti105):=rfl
@[simp] theorem tt_31:tt 31=some ti31:=rfl
@[simp] theorem ti31_size:ti31.size=7:=rfl
@[simp] theorem ti31_bytes:ti31.bytes=152:=rfl
@[simp] theorem ti31_kind:ti31.kind=.struct [(0,27),(4,28),(5,29),(6,3)]:=rfl
@[simp] theorem ti31_agg:ti31.kind.agg=true:=rfl
@[simp] theorem ti31_zero:ti31.zero=[.slice none 0 0,.slice none 0 0,.slice none 0 0,.slice none 0 0,.slice none 0 0,.slice none 0 0,.int .i64 0]:=rfl
@[simp] theorem ti31_eqk:ti31.eqk=[]:=rfl
@[simp] theorem kd_31:kd tt 31=some (.struct [(0,27),(4,28),(5,29),(6,3)]):=rfl
@[simp] theorem fieldT_31_0:fieldT tt 31 0=some (0,ti27):=rfl
@[simp] theorem fieldT_31_1:fieldT tt 31 1=some (4,ti28):=rfl
@[simp] theorem fieldT_31_2:fieldT tt 31 2=some (5,ti29):=rfl
@[simp] theorem fieldT_31_3:fieldT tt 31 3=some (6,ti3):=rfl
@[simp] theorem tt_34:tt 34=some ti34:=rfl
@[simp] theorem ti34_size:ti34.size=1:=rfl
@[simp] theorem ti34_bytes:ti34.bytes=24:=rfl
@[simp] theorem ti34_kind:ti34.kind=.slice 132:=rfl
@[simp] theorem ti34_agg:ti34.kind.agg=false:=rfl
@[simp] theorem ti34_zero:ti34.zero=[.slice none 0 0]:=rfl
@[simp] theorem ti34_eqk:ti34.eqk=[]:=rfl
@[simp] theorem kd_34:kd tt 34=some (.slice 132):=rfl
@[simp] theorem elemT_34:elemT tt 34=some (132,ti132):=rfl
@[simp] theorem tt_35:tt 35=some ti35:=rfl
@[simp] theorem ti35_size:ti35.size=1:=rfl
@[simp] theorem ti35_bytes:ti35.bytes=24:=rfl
@[simp] theorem ti35_kind:ti35.kind=.slice 83:=rfl
@[simp] theorem ti35_agg:ti35.kind.agg=false:=rfl
@[simp] theorem ti35_zero:ti35.zero=[.slice none 0 0]:=rfl
@[simp] theorem ti35_eqk:ti35.eqk=[]:=rfl
@[simp] theorem kd_35:kd tt 35=some (.slice 83):=rfl
@[simp] theorem elemT_35:elemT tt 35=some (83,ti83):=rfl
@[simp] theorem tt_36:tt 36=some ti36:=rfl
@[simp] theorem ti36_size:ti36.size=1:=rfl
@[simp] theorem ti36_bytes:ti36.bytes=24:=rfl
@[simp] theorem ti36_kind:ti36.kind=.slice 137:=rfl
@[simp] theorem ti36_agg:ti36.kind.agg=false:=rfl
@[simp] theorem ti36_zero:ti36.zero=[.slice none 0 0]:=rfl
@[simp] theorem ti36_eqk:ti36.eqk=[]:=rfl
@[simp] theorem kd_36:kd tt 36=some (.slice 137):=rfl
@[simp] theorem elemT_36:elemT tt 36=some (137,ti137):=rfl
@[simp] theorem tt_38:tt 38=some ti38:=rfl
@[simp] theorem ti38_size:ti38.size=4:=rfl
@[simp] theorem ti38_bytes:ti38.bytes=96:=rfl
@[simp] theorem ti38_kind:ti38.kind=.struct [(0,34),(1,35),(2,36),(3,25)]:=rfl
@[simp] theorem ti38_agg:ti38.kind.agg=true:=rfl
@[simp] theorem ti38_zero:ti38.zero=[.slice none 0 0,.slice none 0 0,.slice none 0 0,.slice none 0 0]:=rfl
@[simp] theorem ti38_eqk:ti38.eqk=[]:=rfl
@[simp] theorem kd_38:kd tt 38=some (.struct [(0,34),(1,35),(2,36),(3,25)]):=rfl
@[simp] theorem fieldT_38_0:fieldT tt 38 0=some (0,ti34):=rfl
@[simp] theorem fieldT_38_1:fieldT tt 38 1=some (1,ti35):=rfl
@[simp] theorem fieldT_38_2:fieldT tt 38 2=some (2,ti36):=rfl
@[simp] theorem fieldT_38_3:fieldT tt 38 3=some (3,ti25):=rfl
@[simp] theorem tt_39:tt 39=some ti39:=rfl
@[simp] theorem ti39_size:ti39.size=1:=rfl
@[simp] theorem ti39_bytes:ti39.bytes=24:=rfl
@[simp] theorem ti39_kind:ti39.kind=.slice 112:=rfl
@[simp] theorem ti39_agg:ti39.kind.agg=false:=rfl
@[simp] theorem ti39_zero:ti39.zero=[.slice none 0 0]:=rfl
@[simp] theorem ti39_eqk:ti39.eqk=[]:=rfl
@[simp] theorem kd_39:kd tt 39=some (.slice 112):=rfl
@[simp] theorem elemT_39:elemT tt 39=some (112,ti112):=rfl
@[simp] theorem tt_40:tt 40=some ti40:=rfl
@[simp] theorem ti40_size:ti40.size=1:=rfl
@[simp] theorem ti40_bytes:ti40.bytes=24:=rfl
@[simp] theorem ti40_kind:ti40.kind=.slice 125:=rfl
@[simp] theorem ti40_agg:ti40.kind.agg=false:=rfl
@[simp] theorem ti40_zero:ti40.zero=[.slice none 0 0]:=rfl
@[simp] theorem ti40_eqk:ti40.eqk=[]:=rfl
@[simp] theorem kd_40:kd tt 40=some (.slice 125):=rfl
@[simp] theorem elemT_40:elemT tt 40=some (125,ti125):=rfl
@[simp] theorem tt_42:tt 42=some ti42:=rfl
@[simp] theorem ti42_size:ti42.size=7:=rfl
@[simp] theorem ti42_bytes:ti42.bytes=152:=rfl
@[simp] theorem ti42_kind:ti42.kind=.struct [(0,38),(4,39),(5,40),(6,3)]:=rfl
@[simp] theorem ti42_agg:ti42.kind.agg=true:=rfl
@[simp] theorem ti42_zero:ti42.zero=[.slice none 0 0,.slice none 0 0,.slice none 0 0,.slice none 0 0,.slice none 0 0,.slice none 0 0,.int .i64 0]:=rfl
@[simp] theorem ti42_eqk:ti42.eqk=[]:=rfl
@[simp] theorem kd_42:kd tt 42=some (.struct [(0,38),(4,39),(5,40),(6,3)]):=rfl
@[simp] theorem fieldT_42_0:fieldT tt 42 0=some (0,ti38):=rfl
@[simp] theorem fieldT_42_1:fieldT tt 42 1=some (4,ti39):=rfl
@[simp] theorem fieldT_42_2:fieldT tt 42 2=some (5,ti40):=rfl
@[simp] theorem fieldT_42_3:fieldT tt 42 3=some (6,ti3):=rfl
@[simp] theorem tt_47:tt 47=some ti47:=rfl
@[simp] theorem ti47_size:ti47.size=1:=rfl
@[simp] theorem ti47_bytes:ti47.bytes=24:=rfl
@[simp] theorem ti47_kind:ti47.kind=.slice 4:=rfl
@[simp] theorem ti47_agg:ti47.kind.agg=false:=rfl
@[simp] theorem ti47_zero:ti47.zero=[.slice none 0 0]:=rfl
@[simp] theorem ti47_eqk:ti47.eqk=[]:=rfl
@[simp] theorem kd_47:kd tt 47=some (.slice 4):=rfl
@[simp] theorem elemT_47:elemT tt 47=some (4,ti4):=rfl
@[simp] theorem tt_49:tt 49=some ti49:=rfl
@[simp] theorem ti49_size:ti49.size=3:=rfl
@[simp] theorem ti49_bytes:ti49.bytes=72:=rfl
@[simp] theorem ti49_kind:ti49.kind=.struct [(0,47),(1,47),(2,47)]:=rfl
@[simp] theorem ti49_agg:ti49.kind.agg=true:=rfl
@[simp] theorem ti49_zero:ti49.zero=[.slice none 0 0,.slice none 0 0,.slice none 0 0]:=rfl
@[simp] theorem ti49_eqk:ti49.eqk=[]:=rfl
@[simp] theorem kd_49:kd tt 49=some (.struct [(0,47),(1,47),(2,47)]):=rfl
@[simp] theorem fieldT_49_0:fieldT tt 49 0=some (0,ti47):=rfl
@[simp] theorem fieldT_49_1:fieldT tt 49 1=some (1,ti47):=rfl
@[simp] theorem fieldT_49_2:fieldT tt 49 2=some (2,ti47):=rfl
@[simp] theorem tt_54:tt 54=some ti54:=rfl
@[simp] theorem ti54_size:ti54.size=1:=rfl
@[simp] theorem ti54_bytes:ti54.bytes=24:=rfl
@[simp] theorem ti54_kind:ti54.kind=.slice 3:=rfl
@[simp] theorem ti54_agg:ti54.kind.agg=false:=rfl
@[simp] theorem ti54_zero:ti54.zero=[.slice none 0 0]:=rfl
@[simp] theorem ti54_eqk:ti54.eqk=[]:=rfl
@[simp] theorem kd_54:kd tt 54=some (.slice 3):=rfl
@[simp] theorem elemT_54:elemT tt 54=some (3,ti3):=rfl
@[simp] theorem tt_79:tt 79=some ti79:=rfl
@[simp] theorem ti79_size:ti79.size=1:=rfl
@[simp] theorem ti79_bytes:ti79.bytes=24:=rfl
@[simp] theorem ti79_kind:ti79.kind=.slice 115:=rfl
@[simp] theorem ti79_agg:ti79.kind.agg=false:=rfl
@[simp] theorem ti79_zero:ti79.zero=[.slice none 0 0]:=rfl
@[simp] theorem ti79_eqk:ti79.eqk=[]:=rfl
@[simp] theorem kd_79:kd tt 79=some (.slice 115):=rfl
@[simp] theorem elemT_79:elemT tt 79=some (115,ti115):=rfl
@[simp] theorem tt_80:tt 80=some ti80:=rfl
@[simp] theorem ti80_size:ti80.size=1:=rfl
@[simp] theorem ti80_bytes:ti80.bytes=24:=rfl
@[simp] theorem ti80_kind:ti80.kind=.slice 130:=rfl
@[simp] theorem ti80_agg:ti80.kind.agg=false:=rfl
@[simp] theorem ti80_zero:ti80.zero=[.slice none 0 0]:=rfl
@[simp] theorem ti80_eqk:ti80.eqk=[]:=rfl
@[simp] theorem kd_80:kd tt 80=some (.slice 130):=rfl
@[simp] theorem elemT_80:elemT tt 80=some (130,ti130):=rfl
@[simp] theorem tt_81:tt 81=some ti81:=rfl
@[simp] theorem ti81_size:ti81.size=1:=rfl
@[simp] theorem ti81_bytes:ti81.bytes=24:=rfl
@[simp] theorem ti81_kind:ti81.kind=.slice 212:=rfl
@[simp] theorem ti81_agg:ti81.kind.agg=false:=rfl
@[simp] theorem ti81_zero:ti81.zero=[.slice none 0 0]:=rfl
@[simp] theorem ti81_eqk:ti81.eqk=[]:=rfl
@[simp] theorem kd_81:kd tt 81=some (.slice 212):=rfl
@[simp] theorem elemT_81:elemT tt 81=some (212,ti212):=rfl
@[simp] theorem tt_83:tt 83=some ti83:=rfl
@[simp] theorem ti83_size:ti83.size=6:=rfl
@[simp] theorem ti83_bytes:ti83.bytes=120:=rfl
@[simp] theorem ti83_kind:ti83.kind=.struct [(0,9),(1,3),(2,25),(3,79),(4,80),(5,81)]:=rfl
@[simp] theorem ti83_agg:ti83.kind.agg=true:=rfl
@[simp] theorem ti83_zero:ti83.zero=[.string ⟨#[]⟩,.int .i64 0,.slice none 0 0,.slice none 0 0,.slice none 0 0,.slice none 0 0]:=rfl
@[simp] theorem ti83_eqk:ti83.eqk=[]:=rfl
@[simp] theorem kd_83:kd tt 83=some (.struct [(0,9),(1,3),(2,25),(3,79),(4,80),(5,81)]):=rfl
@[simp] theorem fieldT_83_0:fieldT tt 83 0=some (0,ti9):=rfl
@[simp] theorem fieldT_83_1:fieldT tt 83 1=some (1,ti3):=rfl
@[simp] theorem fieldT_83_2:fieldT tt 83 2=some (2,ti25):=rfl
@[simp] theorem fieldT_83_3:fieldT tt 83 3=some (3,ti79):=rfl
@[simp] theorem fieldT_83_4:fieldT tt 83 4=some (4,ti80):=rfl
@[simp] theorem fieldT_83_5:fieldT tt 83 5=some (5,ti81):=rfl
@[simp] theorem tt_91:tt 91=some ti91:=rfl
@[simp] theorem ti91_size:ti91.size=1:=rfl
@[simp] theorem ti91_bytes:ti91.bytes=24:=rfl
@[simp] theorem ti91_kind:ti91.kind=.slice 326:=rfl
@[simp] theorem ti91_agg:ti91.kind.agg=false:=rfl
@[simp] theorem ti91_zero:ti91.zero=[.slice none 0 0]:=rfl
@[simp] theorem ti91_eqk:ti91.eqk=[]:=rfl
@[simp] theorem kd_91:kd tt 91=some (.slice 326):=rfl
@[simp] theorem elemT_91:elemT tt 91=some (326,ti326):=rfl
@[simp] theorem tt_92:tt 92=some ti92:=rfl
@[simp] theorem ti92_size:ti92.size=1:=rfl
@[simp] theorem ti92_bytes:ti92.bytes=24:=rfl
@[simp] theorem ti92_kind:ti92.kind=.slice 330:=rfl
@[simp] theorem ti92_agg:ti92.kind.agg=false:=rfl
@[simp] theorem ti92_zero:ti92.zero=[.slice none 0 0]:=rfl
@[simp] theorem ti92_eqk:ti92.eqk=[]:=rfl
@[simp] theorem kd_92:kd tt 92=some (.slice 330):=rfl
@[simp] theorem elemT_92:elemT tt 92=some (330,ti330):=rfl
@[simp] theorem tt_94:tt 94=some ti94:=rfl
@[simp] theorem ti94_size:ti94.size=6:=rfl
@[simp] theorem ti94_bytes:ti94.bytes=136:=rfl
@[simp] theorem ti94_kind:ti94.kind=.struct [(0,9),(1,25),(2,25),(3,91),(4,92),(5,92)]:=rfl
@[simp] theorem ti94_agg:ti94.kind.agg=true:=rfl
@[simp] theorem ti94_zero:ti94.zero=[.string ⟨#[]⟩,.slice none 0 0,.slice none 0 0,.slice none 0 0,.slice none 0 0,.slice none 0 0]:=rfl
@[simp] theorem ti94_eqk:ti94.eqk=[]:=rfl
@[simp] theorem kd_94:kd tt 94=some (.struct [(0,9),(1,25),(2,25),(3,91),(4,92),(5,92)]):=rfl
@[simp] theorem fieldT_94_0:fieldT tt 94 0=some (0,ti9):=rfl
@[simp] theorem fieldT_94_1:fieldT tt 94 1=some (1,ti25):=rfl
@[simp] theorem fieldT_94_2:fieldT tt 94 2=some (2,ti25):=rfl
@[simp] theorem fieldT_94_3:fieldT tt 94 3=some (3,ti91):=rfl
@[simp] theorem fieldT_94_4:fieldT tt 94 4=some (4,ti92):=rfl
@[simp] theorem fieldT_94_5:fieldT tt 94 5=some (5,ti92):=rfl
@[simp] theorem tt_96:tt 96=some ti96:=rfl
@[simp] theorem ti96_size:ti96.size=8:=rfl
@[simp] theorem ti96_bytes:ti96.bytes=152:=rfl
@[simp] theorem ti96_kind:ti96.kind=.struct [(0,94),(6,3),(7,3)]:=rfl
@[simp] theorem ti96_agg:ti96.kind.agg=true:=rfl
@[simp] theorem ti96_zero:ti96.zero=[.string ⟨#[]⟩,.slice none 0 0,.slice none 0 0,.slice none 0 0,.slice none 0 0,.slice none 0 0,.int .i64 0,.int .i64 0]:=rfl
@[simp] theorem ti96_eqk:ti96.eqk=[]:=rfl
@[simp] theorem kd_96:kd tt 96=some (.struct [(0,94),(6,3),(7,3)]):=rfl
@[simp] theorem fieldT_96_0:fieldT tt 96 0=some (0,ti94):=rfl
@[simp] theorem fieldT_96_1:fieldT tt 96 1=some (6,ti3):=rfl
@[simp] theorem fieldT_96_2:fieldT tt 96 2=some (7,ti3):=rfl
@[simp] theorem tt_98:tt 98=some ti98:=rfl
@[simp] theorem ti98_size:ti98.size=1:=rfl
@[simp] theorem ti98_bytes:ti98.bytes=24:=rfl
@[simp] theorem ti98_kind:ti98.kind=.slice 333:=rfl
@[simp] theorem ti98_agg:ti98.kind.agg=false:=rfl
@[simp] theorem ti98_zero:ti98.zero=[.slice none 0 0]:=rfl
@[simp] theorem ti98_eqk:ti98.eqk=[]:=rfl
@[simp] theorem kd_98:kd tt 98=some (.slice 333):=rfl
@[simp] theorem elemT_98:elemT tt 98=some (333,ti333):=rfl
@[simp] theorem tt_100:tt 100=some ti100:=rfl
@[simp] theorem ti100_size:ti100.size=3:=rfl
@[simp] theorem ti100_bytes:ti100.bytes=32:=rfl
@[simp] theorem ti100_kind:ti100.kind=.struct [(0,3),(1,3),(2,9)]:=rfl
@[simp] theorem ti100_agg:ti100.kind.agg=true:=rfl
@[simp] theorem ti100_zero:ti100.zero=[.int .i64 0,.int .i64 0,.string ⟨#[]⟩]:=rfl
@[simp] theorem ti100_eqk:ti100.eqk=[.i,.i,.s]:=rfl
@[simp] theorem kd_100:kd tt 100=some (.struct [(0,3),(1,3),(2,9)]):=rfl
@[simp] theorem fieldT_100_0:fieldT tt 100 0=some (0,ti3):=rfl
@[simp] theorem fieldT_100_1:fieldT tt 100 1=some (1,ti3):=rfl
@[simp] theorem fieldT_100_2:fieldT tt 100 2=some (2,ti9):=rfl
@[simp] theorem tt_101:tt 101=some ti101:=rfl
@[simp] theorem ti101_size:ti101.size=1:=rfl
@[simp] theorem ti101_bytes:ti101.bytes=24:=rfl
@[simp] theorem ti101_kind:ti101.kind=.slice 336:=rfl
@[simp] theorem ti101_agg:ti101.kind.agg=false:=rfl
@[simp] theorem ti101_zero:ti101.zero=[.slice none 0 0]:=rfl
@[simp] theorem ti101_eqk:ti101.eqk=[]:=rfl
@[simp] theorem kd_101:kd tt 101=some (.slice 336):=rfl
@[simp] theorem elemT_101:elemT tt 101=some (336,ti336):=rfl
@[simp] theorem tt_103:tt 103=some ti103:=rfl
@[simp] theorem ti103_size:ti103.size=9:=rfl
@[simp] theorem ti103_bytes:ti103.bytes=112:=rfl
@[simp] theorem ti103_kind:ti103.kind=.struct [(0,3),(1,3),(2,3),(3,98),(4,100),(7,101),(8,3)]:=rfl
@[simp] theorem ti103_agg:ti103.kind.agg=true:=rfl
@[simp] theorem ti103_zero:ti103.zero=[.int .i64 0,.int .i64 0,.int .i64 0,.slice none 0 0,.int .i64 0,.int .i64 0,.string ⟨#[]⟩,.slice none 0 0,.int .i64 0]:=rfl
@[simp] theorem ti103_eqk:ti103.eqk=[]:=rfl
@[simp] theorem kd_103:kd tt 103=some (.struct [(0,3),(1,3),(2,3),(3,98),(4,100),(7,101),(8,3)]):=rfl
@[simp] theorem fieldT_103_0:fieldT tt 103 0=some (0,ti3):=rfl
@[simp] theorem fieldT_103_1:fieldT tt 103 1=some (1,ti3):=rfl
@[simp] theorem fieldT_103_2:fieldT tt 103 2=some (2,ti3):=rfl
@[simp] theorem fieldT_103_3:fieldT tt 103 3=some (3,ti98):=rfl
@[simp] theorem fieldT_103_4:fieldT tt 103 4=some (4,ti100):=rfl
@[simp] theorem fieldT_103_5:fieldT tt 103 5=some (7,ti101):=rfl
@[simp] theorem fieldT_103_6:fieldT tt 103 6=some (8,ti3):=rfl
@[simp] theorem tt_105:tt 105=some ti105:=rfl
@[simp] theorem ti105_size:ti105.size=10:=rfl
@[simp] theorem ti105_bytes:ti105.bytes=120:=rfl
@[simp] theorem ti105_kind:ti105.kind=.struct [(0,3),(1,103)]:=rfl
@[simp] theorem ti105_agg:ti105.kind.agg=true:=rfl
@[simp] theorem ti105_zero:ti105.zero=[.int .i64 0,.int .i64 0,.int .i64 0,.int .i64 0,.slice none 0 0,.int .i64 0,.int .i64 0,.string ⟨#[]⟩,.slice none 0 0,.int .i64 0]:=rfl
@[simp] theorem ti105_eqk:ti105.eqk=[]:=rfl
@[simp] theorem kd_105:kd tt 105=some (.struct [(0,3),(1,103)]):=rfl
@[simp] theorem fieldT_105_0:fieldT tt 105 0=some (0,ti3):=rfl
@[simp] theorem fieldT_105_1:fieldT tt 105 1=some (1,ti103):=rfl
@[simp] theorem tt_108:tt 108=some ti108:=rfl
@[simp] theorem ti108_size:ti108.size=1:=rfl
@[simp] theorem ti108_bytes:ti108.bytes=24:=rfl
@[simp] theorem ti108_kind:ti108.kind=.slice 214:=rfl
@[simp] theorem ti108_agg:ti108.kind.agg=false:=rfl
@[simp] theorem ti108_zero:ti108.zero=[.slice none 0 0]:=rfl
@[simp] theorem ti108_eqk:ti108.eqk=[]:=rfl
@[simp] theorem kd_108:kd tt 108=some (.slice 214):=rfl
@[simp] theorem elemT_108:elemT tt 108=some (214,ti214):=rfl
@[simp] theorem tt_110:tt 110=some ti110:=rfl
@[simp] theorem ti110_size:ti110.size=6:=rfl
@[simp] theorem ti110_bytes:ti110.bytes=136:=rfl
@[simp] theorem ti110_kind:ti110.kind=.struct [(0,9),(1,25),(2,25),(3,81),(4,108),(5,108)]:=rfl
@[simp] theorem ti110_agg:ti110.kind.agg=true:=rfl
@[simp] theorem ti110_zero:ti110.zero=[.string ⟨#[]⟩,.slice none 0 0,.slice none 0 0,.slice none 0 0,.slice none 0 0,.slice none 0 0]:=rfl
@[simp] theorem ti110_eqk:ti110.eqk=[]:=rfl
@[simp] theorem kd_110:kd tt 110=some (.struct [(0,9),(1,25),(2,25),(3,81),(4,108),(5,108)]):=rfl
@[simp] theorem fieldT_110_0:fieldT tt 110 0=some (0,ti9):=rfl
@[simp] theorem fieldT_110_1:fieldT tt 110 1=some (1,ti25):=rfl
@[simp] theorem fieldT_110_2:fieldT tt 110 2=some (2,ti25):=rfl
@[simp] theorem fieldT_110_3:fieldT tt 110 3=some (3,ti81):=rfl
@[simp] theorem fieldT_110_4:fieldT tt 110 4=some (4,ti108):=rfl
@[simp] theorem fieldT_110_5:fieldT tt 110 5=some (5,ti108):=rfl
@[simp] theorem tt_112:tt 112=some ti112:=rfl
@[simp] theorem ti112_size:ti112.size=8:=rfl
@[simp] theorem ti112_bytes:ti112.bytes=152:=rfl
@[simp] theorem ti112_kind:ti112.kind=.struct [(0,110),(6,3),(7,3)]:=rfl
@[simp] theorem ti112_agg:ti112.kind.agg=true:=rfl
@[simp] theorem ti112_zero:ti112.zero=[.string ⟨#[]⟩,.slice none 0 0,.slice none 0 0,.slice none 0 0,.slice none 0 0,.slice none 0 0,.int .i64 0,.int .i64 0]:=rfl
@[simp] theorem ti112_eqk:ti112.eqk=[]:=rfl
@[simp] theorem kd_112:kd tt 112=some (.struct [(0,110),(6,3),(7,3)]):=rfl
@[simp] theorem fieldT_112_0:fieldT tt 112 0=some (0,ti110):=rfl
@[simp] theorem fieldT_112_1:fieldT tt 112 1=some (6,ti3):=rfl
@[simp] theorem fieldT_112_2:fieldT tt 112 2=some (7,ti3):=rfl
@[simp] theorem tt_115:tt 115=some ti115:=rfl
@[simp] theorem ti115_size:ti115.size=3:=rfl
@[simp] theorem ti115_bytes:ti115.bytes=32:=rfl
@[simp] theorem ti115_kind:ti115.kind=.struct [(0,3),(1,3),(2,9)]:=rfl
@[simp] theorem ti115_agg:ti115.kind.agg=true:=rfl
@[simp] theorem ti115_zero:ti115.zero=[.int .i64 0,.int .i64 0,.string ⟨#[]⟩]:=rfl
@[simp] theorem ti115_eqk:ti115.eqk=[.i,.i,.s]:=rfl
@[simp] theorem kd_115:kd tt 115=some (.struct [(0,3),(1,3),(2,9)]):=rfl
@[simp] theorem fieldT_115_0:fieldT tt 115 0=some (0,ti3):=rfl
@[simp] theorem fieldT_115_1:fieldT tt 115 1=some (1,ti3):=rfl
@[simp] theorem fieldT_115_2:fieldT tt 115 2=some (2,ti9):=rfl
@[simp] theorem tt_118:tt 118=some ti118:=rfl
@[simp] theorem ti118_size:ti118.size=1:=rfl
@[simp] theorem ti118_bytes:ti118.bytes=24:=rfl
@[simp] theorem ti118_kind:ti118.kind=.slice 110:=rfl
@[simp] theorem ti118_agg:ti118.kind.agg=false:=rfl
@[simp] theorem ti118_zero:ti118.zero=[.slice none 0 0]:=rfl
@[simp] theorem ti118_eqk:ti118.eqk=[]:=rfl
@[simp] theorem kd_118:kd tt 118=some (.slice 110):=rfl
@[simp] theorem elemT_118:elemT tt 118=some (110,ti110):=rfl
@[simp] theorem tt_120:tt 120=some ti120:=rfl
@[simp] theorem ti120_size:ti120.size=1:=rfl
@[simp] theorem ti120_bytes:ti120.bytes=24:=rfl
@[simp] theorem ti120_kind:ti120.kind=.slice 257:=rfl
@[simp] theorem ti120_agg:ti120.kind.agg=false:=rfl
@[simp] theorem ti120_zero:ti120.zero=[.slice none 0 0]:=rfl
@[simp] theorem ti120_eqk:ti120.eqk=[]:=rfl
@[simp] theorem kd_120:kd tt 120=some (.slice 257):=rfl
@[simp] theorem elemT_120:elemT tt 120=some (257,ti257):=rfl
@[simp] theorem tt_121:tt 121=some ti121:=rfl
@[simp] theorem ti121_size:ti121.size=1:=rfl
@[simp] theorem ti121_bytes:ti121.bytes=24:=rfl
@[simp] theorem ti121_kind:ti121.kind=.slice 220:=rfl
@[simp] theorem ti121_agg:ti121.kind.agg=false:=rfl
@[simp] theorem ti121_zero:ti121.zero=[.slice none 0 0]:=rfl
@[simp] theorem ti121_eqk:ti121.eqk=[]:=rfl
@[simp] theorem kd_121:kd tt 121=some (.slice 220):=rfl
@[simp] theorem elemT_121:elemT tt 121=some (220,ti220):=rfl
@[simp] theorem tt_123:tt 123=some ti123:=rfl
@[simp] theorem ti123_size:ti123.size=9:=rfl
@[simp] theorem ti123_bytes:ti123.bytes=112:=rfl
@[simp] theorem ti123_kind:ti123.kind=.struct [(0,3),(1,3),(2,3),(3,120),(4,115),(7,121),(8,3)]:=rfl
@[simp] theorem ti123_agg:ti123.kind.agg=true:=rfl
@[simp] theorem ti123_zero:ti123.zero=[.int .i64 0,.int .i64 0,.int .i64 0,.slice none 0 0,.int .i64 0,.int .i64 0,.string ⟨#[]⟩,.slice none 0 0,.int .i64 0]:=rfl
@[simp] theorem ti123_eqk:ti123.eqk=[]:=rfl
@[simp] theorem kd_123:kd tt 123=some (.struct [(0,3),(1,3),(2,3),(3,120),(4,115),(7,121),(8,3)]):=rfl
@[simp] theorem fieldT_123_0:fieldT tt 123 0=some (0,ti3):=rfl
@[simp] theorem fieldT_123_1:fieldT tt 123 1=some (1,ti3):=rfl
@[simp] theorem fieldT_123_2:fieldT tt 123 2=some (2,ti3):=rfl
@[simp] theorem fieldT_123_3:fieldT tt 123 3=some (3,ti120):=rfl
@[simp] theorem fieldT_123_4:fieldT tt 123 4=some (4,ti115):=rfl
@[simp] theorem fieldT_123_5:fieldT tt 123 5=some (7,ti121):=rfl
@[simp] theorem fieldT_123_6:fieldT tt 123 6=some (8,ti3):=rfl
@[simp] theorem tt_125:tt 125=some ti125:=rfl
@[simp] theorem ti125_size:ti125.size=10:=rfl
@[simp] theorem ti125_bytes:ti125.bytes=120:=rfl
@[simp] theorem ti125_kind:ti125.kind=.struct [(0,3),(1,123)]:=rfl
@[simp] theorem ti125_agg:ti125.kind.agg=true:=rfl
@[simp] theorem ti125_zero:ti125.zero=[.int .i64 0,.int .i64 0,.int .i64 0,.int .i64 0,.slice none 0 0,.int .i64 0,.int .i64 0,.string ⟨#[]⟩,.slice none 0 0,.int .i64 0]:=rfl
@[simp] theorem ti125_eqk:ti125.eqk=[]:=rfl
@[simp] theorem kd_125:kd tt 125=some (.struct [(0,3),(1,123)]):=rfl
@[simp] theorem fieldT_125_0:fieldT tt 125 0=some (0,ti3):=rfl
@[simp] theorem fieldT_125_1:fieldT tt 125 1=some (1,ti123):=rfl
@[simp] theorem tt_130:tt 130=some ti130:=rfl
@[simp] theorem ti130_size:ti130.size=3:=rfl
@[simp] theorem ti130_bytes:ti130.bytes=40:=rfl
@[simp] theorem ti130_kind:ti130.kind=.struct [(0,9),(1,3),(2,9)]:=rfl
@[simp] theorem ti130_agg:ti130.kind.agg=true:=rfl
@[simp] theorem ti130_zero:ti130.zero=[.string ⟨#[]⟩,.int .i64 0,.string ⟨#[]⟩]:=rfl
@[simp] theorem ti130_eqk:ti130.eqk=[]:=rfl
@[simp] theorem kd_130:kd tt 130=some (.struct [(0,9),(1,3),(2,9)]):=rfl
@[simp] theorem fieldT_130_0:fieldT tt 130 0=some (0,ti9):=rfl
@[simp] theorem fieldT_130_1:fieldT tt 130 1=some (1,ti3):=rfl
@[simp] theorem fieldT_130_2:fieldT tt 130 2=some (2,ti9):=rfl
@[simp] theorem tt_132:tt 132=some ti132:=rfl
@[simp] theorem ti132_size:ti132.size=6:=rfl
@[simp] theorem ti132_bytes:ti132.bytes=88:=rfl
@[simp] theorem ti132_kind:ti132.kind=.struct [(0,3),(1,9),(2,3),(3,3),(4,25),(5,79)]:=rfl
@[simp] theorem ti132_agg:ti132.kind.agg=true:=rfl
@[simp] theorem ti132_zero:ti132.zero=[.int .i64 0,.string ⟨#[]⟩,.int .i64 0,.int .i64 0,.slice none 0 0,.slice none 0 0]:=rfl
@[simp] theorem ti132_eqk:ti132.eqk=[]:=rfl
@[simp] theorem kd_132:kd tt 132=some (.struct [(0,3),(1,9),(2,3),(3,3),(4,25),(5,79)]):=rfl
@[simp] theorem fieldT_132_0:fieldT tt 132 0=some (0,ti3):=rfl
@[simp] theorem fieldT_132_1:fieldT tt 132 1=some (1,ti9):=rfl
@[simp] theorem fieldT_132_2:fieldT tt 132 2=some (2,ti3):=rfl
@[simp] theorem fieldT_132_3:fieldT tt 132 3=some (3,ti3):=rfl
@[simp] theorem fieldT_132_4:fieldT tt 132 4=some (4,ti25):=rfl
@[simp] theorem fieldT_132_5:fieldT tt 132 5=some (5,ti79):=rfl
@[simp] theorem tt_133:tt 133=some ti133:=rfl
@[simp] theorem ti133_size:ti133.size=1:=rfl
@[simp] theorem ti133_bytes:ti133.bytes=24:=rfl
@[simp] theorem ti133_kind:ti133.kind=.slice 206:=rfl
@[simp] theorem ti133_agg:ti133.kind.agg=false:=rfl
@[simp] theorem ti133_zero:ti133.zero=[.slice none 0 0]:=rfl
@[simp] theorem ti133_eqk:ti133.eqk=[]:=rfl
@[simp] theorem kd_133:kd tt 133=some (.slice 206):=rfl
@[simp] theorem elemT_133:elemT tt 133=some (206,ti206):=rfl
@[simp] theorem tt_135:tt 135=some ti135:=rfl
@[simp] theorem ti135_size:ti135.size=2:=rfl
@[simp] theorem ti135_bytes:ti135.bytes=32:=rfl
@[simp] theorem ti135_kind:ti135.kind=.struct [(0,133),(1,3)]:=rfl
@[simp] theorem ti135_agg:ti135.kind.agg=true:=rfl
@[simp] theorem ti135_zero:ti135.zero=[.slice none 0 0,.int .i64 0]:=rfl
@[simp] theorem ti135_eqk:ti135.eqk=[]:=rfl
@[simp] theorem kd_135:kd tt 135=some (.struct [(0,133),(1,3)]):=rfl
@[simp] theorem fieldT_135_0:fieldT tt 135 0=some (0,ti133):=rfl
@[simp] theorem fieldT_135_1:fieldT tt 135 1=some (1,ti3):=rfl
@[simp] theorem tt_137:tt 137=some ti137:=rfl
@[simp] theorem ti137_size:ti137.size=3:=rfl
@[simp] theorem ti137_bytes:ti137.bytes=40:=rfl
@[simp] theorem ti137_kind:ti137.kind=.struct [(0,3),(1,135)]:=rfl
@[simp] theorem ti137_agg:ti137.kind.agg=true:=rfl
@[simp] theorem ti137_zero:ti137.zero=[.int .i64 0,.slice none 0 0,.int .i64 0]:=rfl
@[simp] theorem ti137_eqk:ti137.eqk=[]:=rfl
@[simp] theorem kd_137:kd tt 137=some (.struct [(0,3),(1,135)]):=rfl
@[simp] theorem fieldT_137_0:fieldT tt 137 0=some (0,ti3):=rfl
@[simp] theorem fieldT_137_1:fieldT tt 137 1=some (1,ti135):=rfl
@[simp] theorem tt_147:tt 147=some ti147:=rfl
@[simp] theorem ti147_size:ti147.size=1:=rfl
@[simp] theorem ti147_bytes:ti147.bytes=8:=rfl
@[simp] theorem ti147_kind:ti147.kind=.oth:=rfl
@[simp] theorem ti147_agg:ti147.kind.agg=false:=rfl
@[simp] theorem ti147_zero:ti147.zero=[.pointer none]:=rfl
@[simp] theorem ti147_eqk:ti147.eqk=[]:=rfl
@[simp] theorem kd_147:kd tt 147=some (.oth):=rfl
@[simp] theorem tt_148:tt 148=some ti148:=rfl
@[simp] theorem ti148_size:ti148.size=1:=rfl
@[simp] theorem ti148_bytes:ti148.bytes=8:=rfl
@[simp] theorem ti148_kind:ti148.kind=.oth:=rfl
@[simp] theorem ti148_agg:ti148.kind.agg=false:=rfl
@[simp] theorem ti148_zero:ti148.zero=[.pointer none]:=rfl
@[simp] theorem ti148_eqk:ti148.eqk=[]:=rfl
@[simp] theorem kd_148:kd tt 148=some (.oth):=rfl
@[simp] theorem tt_150:tt 150=some ti150:=rfl
@[simp] theorem ti150_size:ti150.size=7:=rfl
@[simp] theorem ti150_bytes:ti150.bytes=152:=rfl
@[simp] theorem ti150_kind:ti150.kind=.struct [(0,148),(1,49),(4,54),(5,54),(6,54)]:=rfl
@[simp] theorem ti150_agg:ti150.kind.agg=true:=rfl
@[simp] theorem ti150_zero:ti150.zero=[.pointer none,.slice none 0 0,.slice none 0 0,.slice none 0 0,.slice none 0 0,.slice none 0 0,.slice none 0 0]:=rfl
@[simp] theorem ti150_eqk:ti150.eqk=[]:=rfl
@[simp] theorem kd_150:kd tt 150=some (.struct [(0,148),(1,49),(4,54),(5,54),(6,54)]):=rfl
@[simp] theorem fieldT_150_0:fieldT tt 150 0=some (0,ti148):=rfl
@[simp] theorem fieldT_150_1:fieldT tt 150 1=some (1,ti49):=rfl
@[simp] theorem fieldT_150_2:fieldT tt 150 2=some (4,ti54):=rfl
@[simp] theorem fieldT_150_3:fieldT tt 150 3=some (5,ti54):=rfl
@[simp] theorem fieldT_150_4:fieldT tt 150 4=some (6,ti54):=rfl
@[simp] theorem tt_164:tt 164=some ti164:=rfl
@[simp] theorem ti164_size:ti164.size=1:=rfl
@[simp] theorem ti164_bytes:ti164.bytes=8:=rfl
@[simp] theorem ti164_kind:ti164.kind=.oth:=rfl
@[simp] theorem ti164_agg:ti164.kind.agg=false:=rfl
@[simp] theorem ti164_zero:ti164.zero=[.pointer none]:=rfl
@[simp] theorem ti164_eqk:ti164.eqk=[]:=rfl
@[simp] theorem kd_164:kd tt 164=some (.oth):=rfl
@[simp] theorem tt_165:tt 165=some ti165:=rfl
@[simp] theorem ti165_size:ti165.size=1:=rfl
@[simp] theorem ti165_bytes:ti165.bytes=24:=rfl
@[simp] theorem ti165_kind:ti165.kind=.slice 5:=rfl
@[simp] theorem ti165_agg:ti165.kind.agg=false:=rfl
@[simp] theorem ti165_zero:ti165.zero=[.slice none 0 0]:=rfl
@[simp] theorem ti165_eqk:ti165.eqk=[]:=rfl
@[simp] theorem kd_165:kd tt 165=some (.slice 5):=rfl
@[simp] theorem elemT_165:elemT tt 165=some (5,ti5):=rfl
@[simp] theorem tt_167:tt 167=some ti167:=rfl
@[simp] theorem ti167_size:ti167.size=2:=rfl
@[simp] theorem ti167_bytes:ti167.bytes=32:=rfl
@[simp] theorem ti167_kind:ti167.kind=.struct [(0,164),(1,165)]:=rfl
@[simp] theorem ti167_agg:ti167.kind.agg=true:=rfl
@[simp] theorem ti167_zero:ti167.zero=[.pointer none,.slice none 0 0]:=rfl
@[simp] theorem ti167_eqk:ti167.eqk=[]:=rfl
@[simp] theorem kd_167:kd tt 167=some (.struct [(0,164),(1,165)]):=rfl
@[simp] theorem fieldT_167_0:fieldT tt 167 0=some (0,ti164):=rfl
@[simp] theorem fieldT_167_1:fieldT tt 167 1=some (1,ti165):=rfl
@[simp] theorem tt_169:tt 169=some ti169:=rfl
@[simp] theorem ti169_size:ti169.size=1:=rfl
@[simp] theorem ti169_bytes:ti169.bytes=16:=rfl
@[simp] theorem ti169_kind:ti169.kind=.ifc:=rfl
@[simp] theorem ti169_agg:ti169.kind.agg=false:=rfl
@[simp] theorem ti169_zero:ti169.zero=[.nilIface]:=rfl
@[simp] theorem ti169_eqk:ti169.eqk=[]:=rfl
@[simp] theorem kd_169:kd tt 169=some (.ifc):=rfl
@[simp] theorem tt_185:tt 185=some ti185:=rfl
@[simp] theorem ti185_size:ti185.size=1:=rfl
@[simp] theorem ti185_bytes:ti185.bytes=8:=rfl
@[simp] theorem ti185_kind:ti185.kind=.int .u64:=rfl
@[simp] theorem ti185_agg:ti185.kind.agg=false:=rfl
@[simp] theorem ti185_zero:ti185.zero=[.int .u64 0]:=rfl
@[simp] theorem ti185_eqk:ti185.eqk=[]:=rfl
@[simp] theorem kd_185:kd tt 185=some (.int .u64):=rfl
@[simp] theorem tt_187:tt 187=some ti187:=rfl
@[simp] theorem ti187_size:ti187.size=1:=rfl
@[simp] theorem ti187_bytes:ti187.bytes=24:=rfl
@[simp] theorem ti187_kind:ti187.kind=.slice 100:=rfl
@[simp] theorem ti187_agg:ti187.kind.agg=false:=rfl
@[simp] theorem ti187_zero:ti187.zero=[.slice none 0 0]:=rfl
@[simp] theorem ti187_eqk:ti187.eqk=[]:=rfl
@[simp] theorem kd_187:kd tt 187=some (.slice 100):=rfl
@[simp] theorem elemT_187:elemT tt 187=some (100,ti100):=rfl
@[simp] theorem tt_189:tt 189=some ti189:=rfl
@[simp] theorem ti189_size:ti189.size=6:=rfl
@[simp] theorem ti189_bytes:ti189.bytes=88:=rfl
@[simp] theorem ti189_kind:ti189.kind=.struct [(0,3),(1,9),(2,3),(3,3),(4,25),(5,187)]:=rfl
@[simp] theorem ti189_agg:ti189.kind.agg=true:=rfl
@[simp] theorem ti189_zero:ti189.zero=[.int .i64 0,.string ⟨#[]⟩,.int .i64 0,.int .i64 0,.slice none 0 0,.slice none 0 0]:=rfl
@[simp] theorem ti189_eqk:ti189.eqk=[]:=rfl
@[simp] theorem kd_189:kd tt 189=some (.struct [(0,3),(1,9),(2,3),(3,3),(4,25),(5,187)]):=rfl
@[simp] theorem fieldT_189_0:fieldT tt 189 0=some (0,ti3):=rfl
@[simp] theorem fieldT_189_1:fieldT tt 189 1=some (1,ti9):=rfl
@[simp] theorem fieldT_189_2:fieldT tt 189 2=some (2,ti3):=rfl
@[simp] theorem fieldT_189_3:fieldT tt 189 3=some (3,ti3):=rfl
@[simp] theorem fieldT_189_4:fieldT tt 189 4=some (4,ti25):=rfl
@[simp] theorem fieldT_189_5:fieldT tt 189 5=some (5,ti187):=rfl
@[simp] theorem tt_191:tt 191=some ti191:=rfl
@[simp] theorem ti191_size:ti191.size=1:=rfl
@[simp] theorem ti191_bytes:ti191.bytes=24:=rfl
@[simp] theorem ti191_kind:ti191.kind=.slice 324:=rfl
@[simp] theorem ti191_agg:ti191.kind.agg=false:=rfl
@[simp] theorem ti191_zero:ti191.zero=[.slice none 0 0]:=rfl
@[simp] theorem ti191_eqk:ti191.eqk=[]:=rfl
@[simp] theorem kd_191:kd tt 191=some (.slice 324):=rfl
@[simp] theorem elemT_191:elemT tt 191=some (324,ti324):=rfl
@[simp] theorem tt_193:tt 193=some ti193:=rfl
@[simp] theorem ti193_size:ti193.size=6:=rfl
@[simp] theorem ti193_bytes:ti193.bytes=120:=rfl
@[simp] theorem ti193_kind:ti193.kind=.struct [(0,9),(1,3),(2,25),(3,187),(4,191),(5,91)]:=rfl
@[simp] theorem ti193_agg:ti193.kind.agg=true:=rfl
@[simp] theorem ti193_zero:ti193.zero=[.string ⟨#[]⟩,.int .i64 0,.slice none 0 0,.slice none 0 0,.slice none 0 0,.slice none 0 0]:=rfl
@[simp] theorem ti193_eqk:ti193.eqk=[]:=rfl
@[simp] theorem kd_193:kd tt 193=some (.struct [(0,9),(1,3),(2,25),(3,187),(4,191),(5,91)]):=rfl
@[simp] theorem fieldT_193_0:fieldT tt 193 0=some (0,ti9):=rfl
@[simp] theorem fieldT_193_1:fieldT tt 193 1=some (1,ti3):=rfl
@[simp] theorem fieldT_193_2:fieldT tt 193 2=some (2,ti25):=rfl
@[simp] theorem fieldT_193_3:fieldT tt 193 3=some (3,ti187):=rfl
@[simp] theorem fieldT_193_4:fieldT tt 193 4=some (4,ti191):=rfl
@[simp] theorem fieldT_193_5:fieldT tt 193 5=some (5,ti91):=rfl
@[simp] theorem tt_195:tt 195=some ti195:=rfl
@[simp] theorem ti195_size:ti195.size=1:=rfl
@[simp] theorem ti195_bytes:ti195.bytes=24:=rfl
@[simp] theorem ti195_kind:ti195.kind=.slice 358:=rfl
@[simp] theorem ti195_agg:ti195.kind.agg=false:=rfl
@[simp] theorem ti195_zero:ti195.zero=[.slice none 0 0]:=rfl
@[simp] theorem ti195_eqk:ti195.eqk=[]:=rfl
@[simp] theorem kd_195:kd tt 195=some (.slice 358):=rfl
@[simp] theorem elemT_195:elemT tt 195=some (358,ti358):=rfl
@[simp] theorem tt_197:tt 197=some ti197:=rfl
@[simp] theorem ti197_size:ti197.size=2:=rfl
@[simp] theorem ti197_bytes:ti197.bytes=32:=rfl
@[simp] theorem ti197_kind:ti197.kind=.struct [(0,195),(1,3)]:=rfl
@[simp] theorem ti197_agg:ti197.kind.agg=true:=rfl
@[simp] theorem ti197_zero:ti197.zero=[.slice none 0 0,.int .i64 0]:=rfl
@[simp] theorem ti197_eqk:ti197.eqk=[]:=rfl
@[simp] theorem kd_197:kd tt 197=some (.struct [(0,195),(1,3)]):=rfl
@[simp] theorem fieldT_197_0:fieldT tt 197 0=some (0,ti195):=rfl
@[simp] theorem fieldT_197_1:fieldT tt 197 1=some (1,ti3):=rfl
@[simp] theorem tt_199:tt 199=some ti199:=rfl
@[simp] theorem ti199_size:ti199.size=3:=rfl
@[simp] theorem ti199_bytes:ti199.bytes=40:=rfl
@[simp] theorem ti199_kind:ti199.kind=.struct [(0,3),(1,197)]:=rfl
@[simp] theorem ti199_agg:ti199.kind.agg=true:=rfl
@[simp] theorem ti199_zero:ti199.zero=[.int .i64 0,.slice none 0 0,.int .i64 0]:=rfl
@[simp] theorem ti199_eqk:ti199.eqk=[]:=rfl
@[simp] theorem kd_199:kd tt 199=some (.struct [(0,3),(1,197)]):=rfl
@[simp] theorem fieldT_199_0:fieldT tt 199 0=some (0,ti3):=rfl
@[simp] theorem fieldT_199_1:fieldT tt 199 1=some (1,ti197):=rfl
@[simp] theorem tt_206:tt 206=some ti206:=rfl
@[simp] theorem ti206_size:ti206.size=5:=rfl
@[simp] theorem ti206_bytes:ti206.bytes=80:=rfl
@[simp] theorem ti206_kind:ti206.kind=.struct [(0,3),(1,3),(2,9),(3,25),(4,54)]:=rfl
@[simp] theorem ti206_agg:ti206.kind.agg=true:=rfl
@[simp] theorem ti206_zero:ti206.zero=[.int .i64 0,.int .i64 0,.string ⟨#[]⟩,.slice none 0 0,.slice none 0 0]:=rfl
@[simp] theorem ti206_eqk:ti206.eqk=[]:=rfl
@[simp] theorem kd_206:kd tt 206=some (.struct [(0,3),(1,3),(2,9),(3,25),(4,54)]):=rfl
@[simp] theorem fieldT_206_0:fieldT tt 206 0=some (0,ti3):=rfl
@[simp] theorem fieldT_206_1:fieldT tt 206 1=some (1,ti3):=rfl
@[simp] theorem fieldT_206_2:fieldT tt 206 2=some (2,ti9):=rfl
@[simp] theorem fieldT_206_3:fieldT tt 206 3=some (3,ti25):=rfl
@[simp] theorem fieldT_206_4:fieldT tt 206 4=some (4,ti54):=rfl
@[simp] theorem tt_212:tt 212=some ti212:=rfl
@[simp] theorem ti212_size:ti212.size=2:=rfl
@[simp] theorem ti212_bytes:ti212.bytes=24:=rfl
@[simp] theorem ti212_kind:ti212.kind=.struct [(0,9),(1,3)]:=rfl
@[simp] theorem ti212_agg:ti212.kind.agg=true:=rfl
@[simp] theorem ti212_zero:ti212.zero=[.string ⟨#[]⟩,.int .i64 0]:=rfl
@[simp] theorem ti212_eqk:ti212.eqk=[]:=rfl
@[simp] theorem kd_212:kd tt 212=some (.struct [(0,9),(1,3)]):=rfl
@[simp] theorem fieldT_212_0:fieldT tt 212 0=some (0,ti9):=rfl
@[simp] theorem fieldT_212_1:fieldT tt 212 1=some (1,ti3):=rfl
@[simp] theorem tt_214:tt 214=some ti214:=rfl
@[simp] theorem ti214_size:ti214.size=3:=rfl
@[simp] theorem ti214_bytes:ti214.bytes=48:=rfl
@[simp] theorem ti214_kind:ti214.kind=.struct [(0,9),(1,135)]:=rfl
@[simp] theorem ti214_agg:ti214.kind.agg=true:=rfl
@[simp] theorem ti214_zero:ti214.zero=[.string ⟨#[]⟩,.slice none 0 0,.int .i64 0]:=rfl
@[simp] theorem ti214_eqk:ti214.eqk=[]:=rfl
@[simp] theorem kd_214:kd tt 214=some (.struct [(0,9),(1,135)]):=rfl
@[simp] theorem fieldT_214_0:fieldT tt 214 0=some (0,ti9):=rfl
@[simp] theorem fieldT_214_1:fieldT tt 214 1=some (1,ti135):=rfl
@[simp] theorem tt_220:tt 220=some ti220:=rfl
@[simp] theorem ti220_size:ti220.size=4:=rfl
@[simp] theorem ti220_bytes:ti220.bytes=64:=rfl
@[simp] theorem ti220_kind:ti220.kind=.struct [(0,3),(1,3),(2,79),(3,120)]:=rfl
@[simp] theorem ti220_agg:ti220.kind.agg=true:=rfl
@[simp] theorem ti220_zero:ti220.zero=[.int .i64 0,.int .i64 0,.slice none 0 0,.slice none 0 0]:=rfl
@[simp] theorem ti220_eqk:ti220.eqk=[]:=rfl
@[simp] theorem kd_220:kd tt 220=some (.struct [(0,3),(1,3),(2,79),(3,120)]):=rfl
@[simp] theorem fieldT_220_0:fieldT tt 220 0=some (0,ti3):=rfl
@[simp] theorem fieldT_220_1:fieldT tt 220 1=some (1,ti3):=rfl
@[simp] theorem fieldT_220_2:fieldT tt 220 2=some (2,ti79):=rfl
@[simp] theorem fieldT_220_3:fieldT tt 220 3=some (3,ti120):=rfl
@[simp] theorem tt_235:tt 235=some ti235:=rfl
@[simp] theorem ti235_size:ti235.size=1:=rfl
@[simp] theorem ti235_bytes:ti235.bytes=8:=rfl
@[simp] theorem ti235_kind:ti235.kind=.oth:=rfl
@[simp] theorem ti235_agg:ti235.kind.agg=false:=rfl
@[simp] theorem ti235_zero:ti235.zero=[.pointer none]:=rfl
@[simp] theorem ti235_eqk:ti235.eqk=[]:=rfl
@[simp] theorem kd_235:kd tt 235=some (.oth):=rfl
@[simp] theorem tt_240:tt 240=some ti240:=rfl
@[simp] theorem ti240_size:ti240.size=1:=rfl
@[simp] theorem ti240_bytes:ti240.bytes=8:=rfl
@[simp] theorem ti240_kind:ti240.kind=.oth:=rfl
@[simp] theorem ti240_agg:ti240.kind.agg=false:=rfl
@[simp] theorem ti240_zero:ti240.zero=[.pointer none]:=rfl
@[simp] theorem ti240_eqk:ti240.eqk=[]:=rfl
@[simp] theorem kd_240:kd tt 240=some (.oth):=rfl
@[simp] theorem tt_249:tt 249=some ti249:=rfl
@[simp] theorem ti249_size:ti249.size=2:=rfl
@[simp] theorem ti249_bytes:ti249.bytes=48:=rfl
@[simp] theorem ti249_kind:ti249.kind=.struct [(0,34),(1,165)]:=rfl
@[simp] theorem ti249_agg:ti249.kind.agg=true:=rfl
@[simp] theorem ti249_zero:ti249.zero=[.slice none 0 0,.slice none 0 0]:=rfl
@[simp] theorem ti249_eqk:ti249.eqk=[]:=rfl
@[simp] theorem kd_249:kd tt 249=some (.struct [(0,34),(1,165)]):=rfl
@[simp] theorem fieldT_249_0:fieldT tt 249 0=some (0,ti34):=rfl
@[simp] theorem fieldT_249_1:fieldT tt 249 1=some (1,ti165):=rfl
@[simp] theorem tt_257:tt 257=some ti257:=rfl
@[simp] theorem ti257_size:ti257.size=4:=rfl
@[simp] theorem ti257_bytes:ti257.bytes=48:=rfl
@[simp] theorem ti257_kind:ti257.kind=.struct [(0,9),(1,115)]:=rfl
@[simp] theorem ti257_agg:ti257.kind.agg=true:=rfl
@[simp] theorem ti257_zero:ti257.zero=[.string ⟨#[]⟩,.int .i64 0,.int .i64 0,.string ⟨#[]⟩]:=rfl
@[simp] theorem ti257_eqk:ti257.eqk=[]:=rfl
@[simp] theorem kd_257:kd tt 257=some (.struct [(0,9),(1,115)]):=rfl
@[simp] theorem fieldT_257_0:fieldT tt 257 0=some (0,ti9):=rfl
@[simp] theorem fieldT_257_1:fieldT tt 257 1=some (1,ti115):=rfl
@[simp] theorem tt_259:tt 259=some ti259:=rfl
@[simp] theorem ti259_size:ti259.size=1:=rfl
@[simp] theorem ti259_bytes:ti259.bytes=8:=rfl
@[simp] theorem ti259_kind:ti259.kind=.int .i64:=rfl
@[simp] theorem ti259_agg:ti259.kind.agg=false:=rfl
@[simp] theorem ti259_zero:ti259.zero=[.int .i64 0]:=rfl
@[simp] theorem ti259_eqk:ti259.eqk=[]:=rfl
@[simp] theorem kd_259:kd tt 259=some (.int .i64):=rfl
@[simp] theorem tt_314:tt 314=some ti314:=rfl
@[simp] theorem ti314_size:ti314.size=1:=rfl
@[simp] theorem ti314_bytes:ti314.bytes=8:=rfl
@[simp] theorem ti314_kind:ti314.kind=.oth:=rfl
@[simp] theorem ti314_agg:ti314.kind.agg=false:=rfl
@[simp] theorem ti314_zero:ti314.zero=[.pointer none]:=rfl
@[simp] theorem ti314_eqk:ti314.eqk=[]:=rfl
@[simp] theorem kd_314:kd tt 314=some (.oth):=rfl
@[simp] theorem tt_317:tt 317=some ti317:=rfl
@[simp] theorem ti317_size:ti317.size=1:=rfl
@[simp] theorem ti317_bytes:ti317.bytes=8:=rfl
@[simp] theorem ti317_kind:ti317.kind=.int .u64:=rfl
@[simp] theorem ti317_agg:ti317.kind.agg=false:=rfl
@[simp] theorem ti317_zero:ti317.zero=[.int .u64 0]:=rfl
@[simp] theorem ti317_eqk:ti317.eqk=[]:=rfl
@[simp] theorem kd_317:kd tt 317=some (.int .u64):=rfl
@[simp] theorem tt_321:tt 321=some ti321:=rfl
@[simp] theorem ti321_size:ti321.size=1:=rfl
@[simp] theorem ti321_bytes:ti321.bytes=8:=rfl
@[simp] theorem ti321_kind:ti321.kind=.oth:=rfl
@[simp] theorem ti321_agg:ti321.kind.agg=false:=rfl
@[simp] theorem ti321_zero:ti321.zero=[.pointer none]:=rfl
@[simp] theorem ti321_eqk:ti321.eqk=[]:=rfl
@[simp] theorem kd_321:kd tt 321=some (.oth):=rfl
@[simp] theorem tt_324:tt 324=some ti324:=rfl
@[simp] theorem ti324_size:ti324.size=3:=rfl
@[simp] theorem ti324_bytes:ti324.bytes=40:=rfl
@[simp] theorem ti324_kind:ti324.kind=.struct [(0,9),(1,3),(2,9)]:=rfl
@[simp] theorem ti324_agg:ti324.kind.agg=true:=rfl
@[simp] theorem ti324_zero:ti324.zero=[.string ⟨#[]⟩,.int .i64 0,.string ⟨#[]⟩]:=rfl
@[simp] theorem ti324_eqk:ti324.eqk=[]:=rfl
@[simp] theorem kd_324:kd tt 324=some (.struct [(0,9),(1,3),(2,9)]):=rfl
@[simp] theorem fieldT_324_0:fieldT tt 324 0=some (0,ti9):=rfl
@[simp] theorem fieldT_324_1:fieldT tt 324 1=some (1,ti3):=rfl
@[simp] theorem fieldT_324_2:fieldT tt 324 2=some (2,ti9):=rfl
@[simp] theorem tt_326:tt 326=some ti326:=rfl
@[simp] theorem ti326_size:ti326.size=2:=rfl
@[simp] theorem ti326_bytes:ti326.bytes=24:=rfl
@[simp] theorem ti326_kind:ti326.kind=.struct [(0,9),(1,3)]:=rfl
@[simp] theorem ti326_agg:ti326.kind.agg=true:=rfl
@[simp] theorem ti326_zero:ti326.zero=[.string ⟨#[]⟩,.int .i64 0]:=rfl
@[simp] theorem ti326_eqk:ti326.eqk=[]:=rfl
@[simp] theorem kd_326:kd tt 326=some (.struct [(0,9),(1,3)]):=rfl
@[simp] theorem fieldT_326_0:fieldT tt 326 0=some (0,ti9):=rfl
@[simp] theorem fieldT_326_1:fieldT tt 326 1=some (1,ti3):=rfl
@[simp] theorem tt_330:tt 330=some ti330:=rfl
@[simp] theorem ti330_size:ti330.size=3:=rfl
@[simp] theorem ti330_bytes:ti330.bytes=48:=rfl
@[simp] theorem ti330_kind:ti330.kind=.struct [(0,9),(1,197)]:=rfl
@[simp] theorem ti330_agg:ti330.kind.agg=true:=rfl
@[simp] theorem ti330_zero:ti330.zero=[.string ⟨#[]⟩,.slice none 0 0,.int .i64 0]:=rfl
@[simp] theorem ti330_eqk:ti330.eqk=[]:=rfl
@[simp] theorem kd_330:kd tt 330=some (.struct [(0,9),(1,197)]):=rfl
@[simp] theorem fieldT_330_0:fieldT tt 330 0=some (0,ti9):=rfl
@[simp] theorem fieldT_330_1:fieldT tt 330 1=some (1,ti197):=rfl
@[simp] theorem tt_333:tt 333=some ti333:=rfl
@[simp] theorem ti333_size:ti333.size=4:=rfl
@[simp] theorem ti333_bytes:ti333.bytes=48:=rfl
@[simp] theorem ti333_kind:ti333.kind=.struct [(0,9),(1,100)]:=rfl
@[simp] theorem ti333_agg:ti333.kind.agg=true:=rfl
@[simp] theorem ti333_zero:ti333.zero=[.string ⟨#[]⟩,.int .i64 0,.int .i64 0,.string ⟨#[]⟩]:=rfl
@[simp] theorem ti333_eqk:ti333.eqk=[]:=rfl
@[simp] theorem kd_333:kd tt 333=some (.struct [(0,9),(1,100)]):=rfl
@[simp] theorem fieldT_333_0:fieldT tt 333 0=some (0,ti9):=rfl
@[simp] theorem fieldT_333_1:fieldT tt 333 1=some (1,ti100):=rfl
@[simp] theorem tt_336:tt 336=some ti336:=rfl
@[simp] theorem ti336_size:ti336.size=4:=rfl
@[simp] theorem ti336_bytes:ti336.bytes=64:=rfl
@[simp] theorem ti336_kind:ti336.kind=.struct [(0,3),(1,3),(2,187),(3,98)]:=rfl
@[simp] theorem ti336_agg:ti336.kind.agg=true:=rfl
@[simp] theorem ti336_zero:ti336.zero=[.int .i64 0,.int .i64 0,.slice none 0 0,.slice none 0 0]:=rfl
@[simp] theorem ti336_eqk:ti336.eqk=[]:=rfl
@[simp] theorem kd_336:kd tt 336=some (.struct [(0,3),(1,3),(2,187),(3,98)]):=rfl
@[simp] theorem fieldT_336_0:fieldT tt 336 0=some (0,ti3):=rfl
@[simp] theorem fieldT_336_1:fieldT tt 336 1=some (1,ti3):=rfl
@[simp] theorem fieldT_336_2:fieldT tt 336 2=some (2,ti187):=rfl
@[simp] theorem fieldT_336_3:fieldT tt 336 3=some (3,ti98):=rfl
@[simp] theorem tt_358:tt 358=some ti358:=rfl
@[simp] theorem ti358_size:ti358.size=5:=rfl
@[simp] theorem ti358_bytes:ti358.bytes=80:=rfl
@[simp] theorem ti358_kind:ti358.kind=.struct [(0,3),(1,3),(2,9),(3,25),(4,54)]:=rfl
@[simp] theorem ti358_agg:ti358.kind.agg=true:=rfl
@[simp] theorem ti358_zero:ti358.zero=[.int .i64 0,.int .i64 0,.string ⟨#[]⟩,.slice none 0 0,.slice none 0 0]:=rfl
@[simp] theorem ti358_eqk:ti358.eqk=[]:=rfl
@[simp] theorem kd_358:kd tt 358=some (.struct [(0,3),(1,3),(2,9),(3,25),(4,54)]):=rfl
@[simp] theorem fieldT_358_0:fieldT tt 358 0=some (0,ti3):=rfl
@[simp] theorem fieldT_358_1:fieldT tt 358 1=some (1,ti3):=rfl
@[simp] theorem fieldT_358_2:fieldT tt 358 2=some (2,ti9):=rfl
@[simp] theorem fieldT_358_3:fieldT tt 358 3=some (3,ti25):=rfl
@[simp] theorem fieldT_358_4:fieldT tt 358 4=some (4,ti54):=rfl
theorem cof(nt:Nat){f:Nat}{fn:Func}{c:Go.Code}{ins:List AV}{ob:List (Nat×Root)}{keep:List Nat}{Φ:AV→List (Nat×Root)→Prop}{rs:List ResultVar}[Laid]
  (hf:PP.funcs[f]?=some fn) (h:∀G,WPc PP c (entSt nt G ins ob) (endP tt nt rs G ins keep Φ)) (hn:(fn.name == "runtime.NumGoroutine")=false:=by kernel_rfl) (hb:fn.body=some c:=by exact rfl) (hnt:fn.ntmps=nt:=by exact rfl)
  (hrs:fn.results.toList=rs:=by exact rfl) (hl:ins.length≤nt:=by exact Nat.le_of_ble_eq_true rfl):Con PP f ins ob keep Φ:=Con.of tok hf hn hb hnt hrs hl h
end Go.Own
namespace Go.Proofs
open Go.Shelf
def Tryz.lays137_ren:Go.Shelf.Ren:=⟨fun|137=>285|217=>296|266=>305|n=>n,fun|9=>9|5=>5|3=>3|n=>n,fun|n=>n⟩
theorem Tryz.lays137:Go.Proofs.Lays.n137 Tryz.prog Tryz.lays137_ren:={
 mixed:=by kernel_rfl
 f137:=Tryz.func285.trans (congrArg some (by kernel_rfl))
 f217:=Tryz.func296.trans (congrArg some (by kernel_rfl))
 f266:=Tryz.func305.trans (congrArg some (by kernel_rfl))
 t3:=Tryz.underlying3
 a3:=Tryz.isAgg3
 z3:=Tryz.sizeOf3
 v3:=Tryz.zeroValue3
 t5:=Tryz.underlying5
 a5:=Tryz.isAgg5
 z5:=Tryz.sizeOf5
 v5:=Tryz.zeroValue5
 t9:=Tryz.underlying9
 a9:=Tryz.isAgg9
 z9:=Tryz.sizeOf9
 v9:=Tryz.zeroValue9 }
open Go.RowKit in
theorem Tryz.strings_IndexByte(s:ByteArray)(c:Int)(w:World) :
  Calls Tryz.prog 285 #[.string s,.int .u8 c] w fun e w'=>e=.returned (.int .i64 (Lib.indexByte s.data.toList c.toNat.toUInt8))∧w'=w:=Any.strings_IndexByte Tryz.lays137 s c w
def Tryz.laysM171_ren:Go.Shelf.Ren:=⟨fun|171=>166|243=>239|246=>278|283=>289|284=>290|285=>291|286=>292|129=>182|317=>300|318=>301|319=>302|320=>303|337=>312|338=>313|n=>n,fun|3=>3|9=>9|2=>2|4=>4|171=>364|0=>0|53=>269|37=>165|5=>5|173=>366|212=>371|51=>267|20=>20|213=>372|46=>185|232=>385|233=>386|n=>n,fun|17=>0|18=>4|19=>5|n=>n⟩
theorem Tryz.laysM171:Go.Proofs.LaysM.n171 Tryz.prog Tryz.laysM171_ren:={
 mixed:=by kernel_rfl
 f129:=Tryz.func182.trans (congrArg some (by kernel_rfl))
 f171:=Tryz.func166.trans (congrArg some (by kernel_rfl))
 f243:=Tryz.func239.trans (congrArg some (by kernel_rfl))
 f246:=Tryz.func278.trans (congrArg some (by kernel_rfl))
 f283:=Tryz.func289.trans (congrArg some (by kernel_rfl))
 f284:=Tryz.func290.trans (congrArg some (by kernel_rfl))
 f285:=Tryz.func291.trans (congrArg some (by kernel_rfl))
 f286:=Tryz.func292.trans (congrArg some (by kernel_rfl))
 f317:=Tryz.func300.trans (congrArg some (by kernel_rfl))
 f318:=Tryz.func301.trans (congrArg some (by kernel_rfl))
 f319:=Tryz.func302.trans (congrArg some (by kernel_rfl))
 f320:=Tryz.func303.trans (congrArg some (by kernel_rfl))
 f337:=Tryz.func312.trans (congrArg some (by kernel_rfl))
 f338:=Tryz.func313.trans (congrArg some (by kernel_rfl))
 t0:=Tryz.underlying0
 a0:=Tryz.isAgg0
 z0:=Tryz.sizeOf0
 v0:=Tryz.zeroValue0
 t2:=Tryz.underlying2
 a2:=Tryz.isAgg2
 z2:=Tryz.sizeOf2
 v2:=Tryz.zeroValue2
 t3:=Tryz.underlying3
 a3:=Tryz.isAgg3
 z3:=Tryz.sizeOf3
 v3:=Tryz.zeroValue3
 t4:=Tryz.underlying4
 a4:=Tryz.isAgg4
 z4:=Tryz.sizeOf4
 v4:=Tryz.zeroValue4
 t5:=Tryz.underlying5
 a5:=Tryz.isAgg5
 z5:=Tryz.sizeOf5
 v5:=Tryz.zeroValue5
 t9:=Tryz.underlying9
 a9:=Tryz.isAgg9
 z9:=Tryz.sizeOf9
 v9:=Tryz.zeroValue9
 t20:=Tryz.underlying20
 a20:=Tryz.isAgg20
 z20:=Tryz.sizeOf20
 v20:=Tryz.zeroValue20
 t37:=Tryz.underlying165
 a37:=Tryz.isAgg165
 z37:=Tryz.sizeOf165
 v37:=Tryz.zeroValue165
 t46:=Tryz.underlying185
 a46:=Tryz.isAgg185
 z46:=Tryz.sizeOf185
 v46:=Tryz.zeroValue185
 t51:=Tryz.underlying267
 a51:=Tryz.isAgg267
 z51:=Tryz.sizeOf267
 v51:=Tryz.zeroValue267
 t53:=Tryz.underlying269
 a53:=Tryz.isAgg269
 z53:=Tryz.sizeOf269
 v53:=Tryz.zeroValue269
 t171:=Tryz.underlying364
 a171:=Tryz.isAgg364
 z171:=Tryz.sizeOf364
 v171:=Tryz.zeroValue364
 t173:=Tryz.underlying366
 a173:=Tryz.isAgg366
 z173:=Tryz.sizeOf366
 v173:=Tryz.zeroValue366
 t212:=Tryz.underlying371
 a212:=Tryz.isAgg371
 z212:=Tryz.sizeOf371
 v212:=Tryz.zeroValue371
 t213:=Tryz.underlying372
 a213:=Tryz.isAgg372
 z213:=Tryz.sizeOf372
 t232:=Tryz.underlying385
 a232:=Tryz.isAgg385
 z232:=Tryz.sizeOf385
 v232:=Tryz.zeroValue385
 t233:=Tryz.underlying386
 a233:=Tryz.isAgg386
 z233:=Tryz.sizeOf386
 v233:=Tryz.zeroValue386
 g17:=by kernel_rfl
 g18:=by kernel_rfl
 g19:=by kernel_rfl
 i0:=by kernel_rfl
 i2:=by kernel_rfl
 i3:=by kernel_rfl
 i4:=by kernel_rfl
 i5:=by kernel_rfl
 i9:=by kernel_rfl
 i20:=by kernel_rfl
 i37:=by kernel_rfl
 i46:=by kernel_rfl
 i51:=by kernel_rfl
 i53:=by kernel_rfl
 i171:=by kernel_rfl
 i173:=by kernel_rfl
 i212:=by kernel_rfl
 i232:=by kernel_rfl
 i233:=by kernel_rfl
 m17:=by kernel_rfl
 m18:=by kernel_rfl
 m19:=by kernel_rfl }
open Go.RowKit Go.Sort Go.Lib in
theorem Tryz.strconv_Itoa(n:Int)(h0 : -9223372036854775808≤n)(h1:n≤9223372036854775807)(w:World)(htab:Lib.TabIs Tryz.prog w "internal/strconv.uint64pow10" .u64 Lib.pow10Tab) :
  Calls Tryz.prog 166 #[.int .i64 n] w fun e w'=>e=.returned (.string ⟨(Lib.itoa n).toArray⟩)∧∃k os,w'=grow (w.drewN k) os:=Any.strconv_Itoa Tryz.laysM171 n h0 h1 w htab
def Tryz.laysC172_ren:Go.Shelf.Ren:=⟨fun|172=>287|244=>298|245=>299|247=>307|279=>308|280=>309|281=>310|282=>311|287=>317|316=>318|171=>166|205=>319|321=>321|322=>322|243=>239|246=>278|283=>289|284=>290|285=>291|286=>292|129=>182|317=>300|318=>301|319=>302|320=>303|337=>312|338=>313|n=>n,fun|9=>9|3=>3|75=>169|76=>170|4=>4|5=>5|167=>373|37=>165|0=>0|85=>374|2=>2|168=>376|53=>269|175=>379|46=>185|210=>383|127=>252|145=>392|143=>390|21=>21|171=>364|173=>366|212=>371|51=>267|20=>20|213=>372|232=>385|233=>386|80=>73|n=>n,fun|15=>2|16=>3|17=>0|18=>4|19=>5|n=>n⟩
theorem Tryz.laysC172:Go.Proofs.LaysC.n172 Tryz.prog Tryz.laysC172_ren:={
 mixed:=by kernel_rfl
 f129:=Tryz.func182.trans (congrArg some (by kernel_rfl))
 f171:=Tryz.func166.trans (congrArg some (by kernel_rfl))
 f172:=Tryz.func287.trans (congrArg some (by kernel_rfl))
 f205:=Tryz.func319.trans (congrArg some (by kernel_rfl))
 f243:=Tryz.func239.trans (congrArg some (by kernel_rfl))
 f244:=Tryz.func298.trans (congrArg some (by kernel_rfl))
 f245:=Tryz.func299.trans (congrArg some (by kernel_rfl))
 f246:=Tryz.func278.trans (congrArg some (by kernel_rfl))
 f247:=Tryz.func307.trans (congrArg some (by kernel_rfl))
 f279:=Tryz.func308.trans (congrArg some (by kernel_rfl))
 f280:=Tryz.func309.trans (congrArg some (by kernel_rfl))
 f281:=Tryz.func310.trans (congrArg some (by kernel_rfl))
 f282:=Tryz.func311.trans (congrArg some (by kernel_rfl))
 f283:=Tryz.func289.trans (congrArg some (by kernel_rfl))
 f284:=Tryz.func290.trans (congrArg some (by kernel_rfl))
 f285:=Tryz.func291.trans (congrArg some (by kernel_rfl))
 f286:=Tryz.func292.trans (congrArg some (by kernel_rfl))
 f287:=Tryz.func317.trans (congrArg some (by kernel_rfl))
 f316:=Tryz.func318.trans (congrArg some (by kernel_rfl))
 f317:=Tryz.func300.trans (congrArg some (by kernel_rfl))
 f318:=Tryz.func301.trans (congrArg some (by kernel_rfl))
 f319:=Tryz.func302.trans (congrArg some (by kernel_rfl))
 f320:=Tryz.func303.trans (congrArg some (by kernel_rfl))
 f321:=Tryz.func321.trans (congrArg some (by kernel_rfl))
 f322:=Tryz.func322.trans (congrArg some (by kernel_rfl))
 f337:=Tryz.func312.trans (congrArg some (by kernel_rfl))
 f338:=Tryz.func313.trans (congrArg some (by kernel_rfl))
 t0:=Tryz.underlying0
 a0:=Tryz.isAgg0
 z0:=Tryz.sizeOf0
 v0:=Tryz.zeroValue0
 t2:=Tryz.underlying2
 a2:=Tryz.isAgg2
 z2:=Tryz.sizeOf2
 v2:=Tryz.zeroValue2
 t3:=Tryz.underlying3
 a3:=Tryz.isAgg3
 z3:=Tryz.sizeOf3
 v3:=Tryz.zeroValue3
 t4:=Tryz.underlying4
 a4:=Tryz.isAgg4
 z4:=Tryz.sizeOf4
 v4:=Tryz.zeroValue4
 t5:=Tryz.underlying5
 a5:=Tryz.isAgg5
 z5:=Tryz.sizeOf5
 v5:=Tryz.zeroValue5
 t9:=Tryz.underlying9
 a9:=Tryz.isAgg9
 z9:=Tryz.sizeOf9
 v9:=Tryz.zeroValue9
 t20:=Tryz.underlying20
 a20:=Tryz.isAgg20
 z20:=Tryz.sizeOf20
 v20:=Tryz.zeroValue20
 t21:=Tryz.underlying21
 a21:=Tryz.isAgg21
 z21:=Tryz.sizeOf21
 v21:=Tryz.zeroValue21
 t37:=Tryz.underlying165
 a37:=Tryz.isAgg165
 z37:=Tryz.sizeOf165
 v37:=Tryz.zeroValue165
 t46:=Tryz.underlying185
 a46:=Tryz.isAgg185
 z46:=Tryz.sizeOf185
 v46:=Tryz.zeroValue185
 t51:=Tryz.underlying267
 a51:=Tryz.isAgg267
 z51:=Tryz.sizeOf267
 v51:=Tryz.zeroValue267
 t53:=Tryz.underlying269
 a53:=Tryz.isAgg269
 z53:=Tryz.sizeOf269
 v53:=Tryz.zeroValue269
 t75:=Tryz.underlying169
 a75:=Tryz.isAgg169
 z75:=Tryz.sizeOf169
 v75:=Tryz.zeroValue169
 t76:=Tryz.underlying170
 a76:=Tryz.isAgg170
 z76:=Tryz.sizeOf170
 v76:=Tryz.zeroValue170
 t85:=Tryz.underlying374
 a85:=Tryz.isAgg374
 z85:=Tryz.sizeOf374
 v85:=Tryz.zeroValue374
 t127:=Tryz.underlying252
 a127:=Tryz.isAgg252
 z127:=Tryz.sizeOf252
 v127:=Tryz.zeroValue252
 t143:=Tryz.underlying390
 a143:=Tryz.isAgg390
 z143:=Tryz.sizeOf390
 v143:=Tryz.zeroValue390
 t145:=Tryz.underlying392
 a145:=Tryz.isAgg392
 z145:=Tryz.sizeOf392
 v145:=Tryz.zeroValue392
 t167:=Tryz.underlying373
 a167:=Tryz.isAgg373
 z167:=Tryz.sizeOf373
 v167:=Tryz.zeroValue373
 t168:=Tryz.underlying376
 a168:=Tryz.isAgg376
 z168:=Tryz.sizeOf376
 v168:=Tryz.zeroValue376
 t171:=Tryz.underlying364
 a171:=Tryz.isAgg364
 z171:=Tryz.sizeOf364
 v171:=Tryz.zeroValue364
 t173:=Tryz.underlying366
 a173:=Tryz.isAgg366
 z173:=Tryz.sizeOf366
 v173:=Tryz.zeroValue366
 t175:=Tryz.underlying379
 a175:=Tryz.isAgg379
 z175:=Tryz.sizeOf379
 v175:=Tryz.zeroValue379
 t210:=Tryz.underlying383
 a210:=Tryz.isAgg383
 z210:=Tryz.sizeOf383
 v210:=Tryz.zeroValue383
 t212:=Tryz.underlying371
 a212:=Tryz.isAgg371
 z212:=Tryz.sizeOf371
 v212:=Tryz.zeroValue371
 t213:=Tryz.underlying372
 a213:=Tryz.isAgg372
 z213:=Tryz.sizeOf372
 t232:=Tryz.underlying385
 a232:=Tryz.isAgg385
 z232:=Tryz.sizeOf385
 v232:=Tryz.zeroValue385
 t233:=Tryz.underlying386
 a233:=Tryz.isAgg386
 z233:=Tryz.sizeOf386
 v233:=Tryz.zeroValue386
 g15:=by kernel_rfl
 g16:=by kernel_rfl
 g17:=by kernel_rfl
 g18:=by kernel_rfl
 g19:=by kernel_rfl
 t80:=Tryz.underlying73
 a80:=Tryz.isAgg73
 z80:=Tryz.sizeOf73
 v80:=Tryz.zeroValue73
 i0:=by kernel_rfl
 i2:=by kernel_rfl
 i3:=by kernel_rfl
 i4:=by kernel_rfl
 i5:=by kernel_rfl
 i9:=by kernel_rfl
 i20:=by kernel_rfl
 i21:=by kernel_rfl
 i37:=by kernel_rfl
 i46:=by kernel_rfl
 i51:=by kernel_rfl
 i53:=by kernel_rfl
 i75:=by kernel_rfl
 i76:=by kernel_rfl
 i80:=by kernel_rfl
 i85:=by kernel_rfl
 i127:=by kernel_rfl
 i143:=by kernel_rfl
 i145:=by kernel_rfl
 i167:=by kernel_rfl
 i168:=by kernel_rfl
 i171:=by kernel_rfl
 i173:=by kernel_rfl
 i175:=by kernel_rfl
 i210:=by kernel_rfl
 i212:=by kernel_rfl
 i232:=by kernel_rfl
 i233:=by kernel_rfl
 m15:=by kernel_rfl
 m16:=by kernel_rfl
 m17:=by kernel_rfl
 m18:=by kernel_rfl
 m19:=by kernel_rfl
 c0:=by kernel_rfl
 c2:=by kernel_rfl
 c3:=by kernel_rfl
 c4:=by kernel_rfl
 c5:=by kernel_rfl
 c9:=by kernel_rfl
 c20:=by kernel_rfl
 c21:=by kernel_rfl
 c37:=by kernel_rfl
 c46:=by kernel_rfl
 c51:=by kernel_rfl
 c53:=by kernel_rfl
 c75:=by kernel_rfl
 c76:=by kernel_rfl
 c80:=by kernel_rfl
 c85:=by kernel_rfl
 c127:=by kernel_rfl
 c143:=by kernel_rfl
 c145:=by kernel_rfl
 c167:=by kernel_rfl
 c168:=by kernel_rfl
 c171:=by kernel_rfl
 c173:=by kernel_rfl
 c175:=by kernel_rfl
 c210:=by kernel_rfl
 c212:=by kernel_rfl
 c213:=by kernel_rfl
 c232:=by kernel_rfl
 c233:=by kernel_rfl }
open Go.RowKit in
theorem Tryz.strconv_Atoi_ok(s:ByteArray)(hmax:s.size≤9223372036854775806)(v:Int)(h:Lib.atoiAll s.data.toList=.ok v)(w:World) :
  Calls Tryz.prog 287 #[.string s] w fun e w'=>e=.returned (.tuple #[.int .i64 v,.nilIface])∧(w'=w∨∃t,w'=Lib.bytesWorld w 5 t):=Any.strconv_Atoi_ok Tryz.laysC172 s hmax v h w
open Go.RowKit in
theorem Tryz.strconv_Atoi_syntax(s:ByteArray)(hlim:s.size≤281474976710656)(h:Lib.atoiAll s.data.toList=Lib.atoiAll [])(ev:Value)(w:World)(hv:w.cell? ⟨2,0,none⟩=some ev)(hev:ev=.nilIface∨∃te pe,ev=.iface te pe) :
  Calls Tryz.prog 287 #[.string s] w fun e w'=>∃N,e=.returned (.tuple #[.int .i64 (0),.iface 376 (.pointer (some ⟨N,0,none⟩))])∧w.heap.size≤N∧w'.heap[N]?=some (.cells #[.string ⟨#[65,116,111,105]⟩,.string s,ev] 383 (0,0))∧Below w.heap.size w w':=Any.strconv_Atoi_syntax Tryz.laysC172 s hlim h ev w hv hev
open Go.RowKit in
theorem Tryz.strconv_Atoi_range(s:ByteArray)(hlim:s.size≤281474976710656)(h:Lib.atoiAll s.data.toList=.range)(ev:Value)(w:World)(hv:w.cell? ⟨3,0,none⟩=some ev)(hev:ev=.nilIface∨∃te pe,ev=.iface te pe) :
  Calls Tryz.prog 287 #[.string s] w fun e w'=>∃N,e=.returned (.tuple #[.int .i64 (Lib.atoiSat s.data.toList),.iface 376 (.pointer (some ⟨N,0,none⟩))])∧w.heap.size≤N∧w'.heap[N]?=some (.cells #[.string ⟨#[65,116,111,105]⟩,.string s,ev] 383 (0,0))∧Below w.heap.size w w':=Any.strconv_Atoi_range Tryz.laysC172 s hlim h ev w hv hev
def Tryz.lays144_ren:Go.Shelf.Ren:=⟨fun|144=>283|143=>295|219=>304|217=>296|225=>314|224=>315|267=>316|266=>305|314=>320|n=>n,fun|9=>9|4=>4|3=>3|5=>5|46=>185|146=>387|51=>267|n=>n,fun|1=>1|n=>n⟩
theorem Tryz.lays144:Go.Proofs.Lays.n144 Tryz.prog Tryz.lays144_ren:={
 mixed:=by kernel_rfl
 f143:=Tryz.func295.trans (congrArg some (by kernel_rfl))
 f144:=Tryz.func283.trans (congrArg some (by kernel_rfl))
 f217:=Tryz.func296.trans (congrArg some (by kernel_rfl))
 f219:=Tryz.func304.trans (congrArg some (by kernel_rfl))
 f224:=Tryz.func315.trans (congrArg some (by kernel_rfl))
 f225:=Tryz.func314.trans (congrArg some (by kernel_rfl))
 f266:=Tryz.func305.trans (congrArg some (by kernel_rfl))
 f267:=Tryz.func316.trans (congrArg some (by kernel_rfl))
 f314:=Tryz.func320.trans (congrArg some (by kernel_rfl))
 t3:=Tryz.underlying3
 a3:=Tryz.isAgg3
 z3:=Tryz.sizeOf3
 v3:=Tryz.zeroValue3
 t4:=Tryz.underlying4
 a4:=Tryz.isAgg4
 z4:=Tryz.sizeOf4
 v4:=Tryz.zeroValue4
 t5:=Tryz.underlying5
 a5:=Tryz.isAgg5
 z5:=Tryz.sizeOf5
 v5:=Tryz.zeroValue5
 t9:=Tryz.underlying9
 a9:=Tryz.isAgg9
 z9:=Tryz.sizeOf9
 v9:=Tryz.zeroValue9
 t46:=Tryz.underlying185
 a46:=Tryz.isAgg185
 z46:=Tryz.sizeOf185
 v46:=Tryz.zeroValue185
 t51:=Tryz.underlying267
 a51:=Tryz.isAgg267
 z51:=Tryz.sizeOf267
 v51:=Tryz.zeroValue267
 t146:=Tryz.underlying387
 a146:=Tryz.isAgg387
 z146:=Tryz.sizeOf387
 v146:=Tryz.zeroValue387
 g1:=by kernel_rfl }
open Go.RowKit Go.Lib in
theorem Tryz.strings_Contains(s sub:ByteArray)(m:Int)(w:World)(hs:s.size<4294967281)(hm:w.cell? ⟨1,0,none⟩=some (.int .i64 m)) :
  Calls Tryz.prog 283 #[.string s,.string sub] w fun e w'=>e=.returned (.bool (Lib.contains s.data.toList sub.data.toList))∧w'=w:=Any.strings_Contains Tryz.lays144 s sub m w hs hm
def Tryz.lays101_ren:Go.Shelf.Ren:=⟨fun|101=>286|208=>297|206=>306|n=>n,fun|9=>9|4=>4|3=>3|n=>n,fun|n=>n⟩
theorem Tryz.lays101:Go.Proofs.Lays.n101 Tryz.prog Tryz.lays101_ren:={
 mixed:=by kernel_rfl
 f101:=Tryz.func286.trans (congrArg some (by kernel_rfl))
 f206:=Tryz.func306.trans (congrArg some (by kernel_rfl))
 f208:=Tryz.func297.trans (congrArg some (by kernel_rfl))
 t3:=Tryz.underlying3
 a3:=Tryz.isAgg3
 z3:=Tryz.sizeOf3
 v3:=Tryz.zeroValue3
 t4:=Tryz.underlying4
 a4:=Tryz.isAgg4
 z4:=Tryz.sizeOf4
 v4:=Tryz.zeroValue4
 t9:=Tryz.underlying9
 a9:=Tryz.isAgg9
 z9:=Tryz.sizeOf9
 v9:=Tryz.zeroValue9 }
open Go.RowKit Go.Lib in
theorem Tryz.strings_TrimPrefix(s p:ByteArray)(w:World) :
  Calls Tryz.prog 286 #[.string s,.string p] w fun e w'=>e=.returned (.string ⟨(Lib.trimPrefix s.data.toList p.data.toList).toArray⟩)∧w'=w:=Any.strings_TrimPrefix Tryz.lays101 s p w
end Go.Proofs
set_option linter.unusedSectionVars false
set_option maxRecDepth 1000000
set_option maxHeartbeats 4000000
namespace Go.Own
open Go.RowKit
structure Facts(w:World):Prop where
 maxLen:∃m,w.cell? ⟨1,0,none⟩=some (.int .i64 m)
 syn:∃ev,w.cell? ⟨2,0,none⟩=some ev∧(ev=.nilIface∨∃te pe,ev=.iface te pe)
 rng:∃ev,w.cell? ⟨3,0,none⟩=some ev∧(ev=.nilIface∨∃te pe,ev=.iface te pe)
 pow:Lib.TabIs PP w "internal/strconv.uint64pow10" .u64 Lib.pow10Tab
class Facts.Of[Laid]:Prop where
 facts:∀w,Laid.ok w→Facts w
variable [Laid]
theorem args_of{vals:List Value}{β:Blk}{w:World}{args:Array Value}(h1:args.size=(vals.map AV.sc).length)(h2:∀i v,(vals.map AV.sc)[i]?=some v→VR β w v (args.getD i undef)):args=vals.toArray:=by
 apply Array.ext
 ·simpa using h1
 ·intro i h3 h4
  have hi:i<vals.length:=by simpa using h4
  have:=(h2 i (.sc vals[i]) (by simp[hi])).sc_inv
  simp only[Array.getD_eq_getD_getElem?,Array.getElem?_eq_getElem h3,Option.getD_some]at this
  simpa using this
theorem Con.lib{f:Nat}{fn:Func}{vals:List Value}{Φ:AV→List (Nat×Root)→Prop}(hf:PP.funcs[f]?=some fn)(hn:(fn.name == "runtime.NumGoroutine")=false)(hb:fn.body.isNone=false)
  (h:∀w,Laid.ok w→Calls PP f vals.toArray w (fun e w'=>∃v,e=.returned v∧Φ (.sc v) []∧Below w.heap.size w w')):Con PP f (vals.map .sc) [] [] Φ:=by
 refine⟨⟨fn,hf,hn,hb⟩,fun β w args hl h1 h2 h3 h4 h5=>?_⟩
 have:=args_of h1 h2
 subst this
 refine(h w hl.ok).mono fun e w' ⟨v,he,hv,hbl⟩=>⟨v,.sc v,[],β,he,?_⟩
 exact{ ok:=hv,res:=.sc v,ob:=fun id e k es hl=>by simp[lo]at hl,uq:=h4,lt:=fun b x hb=>Nat.lt_of_lt_of_le (h5 b x hb) hbl.size,keep:=fun i hi=>by simp at hi,fr:=fun b hb _=>hbl.block b hb,old:=fun b x hb _=>by rw[hb];simp,hs:=hbl.size,os:=hbl.os,tape:=hbl.tape,output:=hbl.output,to:=fun b id p hb _=>⟨hb,hbl.block b (h5 b _ hb)⟩,back:=fun b id p hb _=>hb }
theorem c_strings_IndexByte(s:ByteArray)(c:Int):Con PP 285 [.sc (.string s),.sc (.int .u8 c)] [] [] (fun r o=>r=.sc (.int .i64 (Lib.indexByte s.data.toList c.toNat.toUInt8))):=
 Con.lib (vals:=[.string s,.int .u8 c]) Go.Proofs.Tryz.func285 (by kernel_rfl) (by kernel_rfl) fun w _=>(Go.Proofs.Tryz.strings_IndexByte s c w).mono fun e w' ⟨h1,h2⟩=>⟨_,h1,rfl,h2▸Below.refl _ _⟩
theorem c_strings_TrimPrefix(s p:ByteArray):Con PP 286 [.sc (.string s),.sc (.string p)] [] [] (fun r o=>r=.sc (.string ⟨(Lib.trimPrefix s.data.toList p.data.toList).toArray⟩)):=
 Con.lib (vals:=[.string s,.string p]) Go.Proofs.Tryz.func286 (by kernel_rfl) (by kernel_rfl) fun w _=>(Go.Proofs.Tryz.strings_TrimPrefix s p w).mono fun e w' ⟨h1,h2⟩=>⟨_,h1,rfl,h2▸Below.refl _ _⟩
theorem c_strings_Contains[F:Facts.Of](s p:ByteArray)(hs:s.size<4294967281):Con PP 283 [.sc (.string s),.sc (.string p)] [] [] (fun r o=>r=.sc (.bool (Lib.contains s.data.toList p.data.toList))):=
 Con.lib (vals:=[.string s,.string p]) Go.Proofs.Tryz.func283 (by kernel_rfl) (by kernel_rfl) fun w hw=>by
  obtain⟨m,hm⟩:=(F.facts w hw).maxLen
  exact(Go.Proofs.Tryz.strings_Contains s p m w hs hm).mono fun e w' ⟨h1,h2⟩=>⟨_,h1,rfl,h2▸Below.refl _ _⟩
theorem c_strconv_Itoa[F:Facts.Of](n:Int)(h0 : -9223372036854775808≤n)(h1:n≤9223372036854775807):Con PP 166 [.sc (.int .i64 n)] [] [] (fun r o=>r=.sc (.string ⟨(Lib.itoa n).toArray⟩)):=
 Con.lib (vals:=[.int .i64 n]) Go.Proofs.Tryz.func166 (by kernel_rfl) (by kernel_rfl) fun w hw=>by
  refine(Go.Proofs.Tryz.strconv_Itoa n h0 h1 w (F.facts w hw).pow).mono fun e w' ⟨h1,k,os,h2⟩=>⟨_,h1,rfl,?_⟩
  subst h2
  exact Go.Lib.below_grow _ _ (Nat.le_refl _) _ _
end Go.Own
set_option maxRecDepth 1000000
set_option maxHeartbeats 4000000
namespace Go.Own
attribute [local irreducible] WPc WPL WPS HAny endP
variable [Laid]
structure V where
 k:Int
 n:Int
 s:ByteArray
 deriving DecidableEq
abbrev zs:ByteArray:=⟨#[]⟩
def V.av(v:V):AV:=.agg [.sc (.int .i64 v.k),.sc (.int .i64 v.n),.sc (.string v.s)]
def V.cs(v:V):List C:=[.sc (.int .i64 v.k),.sc (.int .i64 v.n),.sc (.string v.s)]
theorem eqA_iis{a1 a2 b1 b2:Int}{a3 b3:ByteArray}{t:Nat}(h:t=115∨t=100):eqA tt t [.sc (.int .i64 a1),.sc (.int .i64 a2),.sc (.string a3)] [.sc (.int .i64 b1),.sc (.int .i64 b2),.sc (.string b3)]=some (decide (a1=b1∧a2=b2∧a3=b3)):=by
 rcases h with rfl|rfl<;>simp only[eqA,tt_115,tt_100,ti115_eqk,ti100_eqk,scs,Option.map_some,Option.bind_some,List.isEmpty_cons,Bool.false_eq_true,if_false,eqV,toList_inj,beq_dec]<;>simp[Bool.decide_and]
def V.eqb(a b:V):Bool:=decide (a=b)
@[simp] theorem bin_eql29{a1 a2 b1 b2:Int}{a3 b3:ByteArray}:binA tt .eql 115 (.agg [.sc (.int .i64 a1),.sc (.int .i64 a2),.sc (.string a3)]) (.agg [.sc (.int .i64 b1),.sc (.int .i64 b2),.sc (.string b3)])=some (.sc (.bool (V.eqb ⟨a1,a2,a3⟩ ⟨b1,b2,b3⟩))):=by
 simp only[binA,eqA_iis (.inl rfl),Option.map_some,V.eqb,V.mk.injEq]
@[simp] theorem bin_neq29{a1 a2 b1 b2:Int}{a3 b3:ByteArray}:binA tt .neq 115 (.agg [.sc (.int .i64 a1),.sc (.int .i64 a2),.sc (.string a3)]) (.agg [.sc (.int .i64 b1),.sc (.int .i64 b2),.sc (.string b3)])=some (.sc (.bool (!V.eqb ⟨a1,a2,a3⟩ ⟨b1,b2,b3⟩))):=by
 simp only[binA,eqA_iis (.inl rfl),Option.map_some,V.eqb,V.mk.injEq]
theorem all_at{α:Type}{p:α→Bool}{vs:List α}{i:Nat}{v:α}(hv:vs[i]?=some v)(h:p v=false):vs.all p=false:=by
 rw[List.all_eq_false];exact⟨v,List.mem_of_getElem? hv,by simp[h]⟩
theorem all_next{α:Type}{p:α→Bool}{vs:List α}{i:Nat}{v:α}(hv:vs[i]?=some v)(h:p v=true)(h0:(vs.take i).all p=true):(vs.take (i+1)).all p=true:=by
 rw[List.take_add_one,hv];simp[h0,h]
theorem any_at{α:Type}{p:α→Bool}{vs:List α}{i:Nat}{v:α}(hv:vs[i]?=some v)(h:p v=true):vs.any p=true:=by
 rw[List.any_eq_true];exact⟨v,List.mem_of_getElem? hv,h⟩
theorem any_next{α:Type}{p:α→Bool}{vs:List α}{i:Nat}{v:α}(hv:vs[i]?=some v)(h:p v=false)(h0:(vs.take i).any p=false):(vs.take (i+1)).any p=false:=by
 rw[List.take_add_one,hv];simp only[Option.toList_some,List.any_append,h0,List.any_cons,h,List.any_nil,Bool.or_false]
def inRange(n lo hi:Int):Bool:=decide (lo≤n)&&decide (n≤hi)
theorem c_impl_inRange(n lo hi:Int):Con PP 73 [.sc (.int .i64 n),.sc (.int .i64 lo),.sc (.int .i64 hi)] [] [] (fun r o=>r=.sc (.bool (inRange n lo hi))):=by
 refine cof 15 Go.Proofs.Tryz.func73 fun G=>?_
 simp only[entSt,tmOf,List.append_nil,List.cons_append,List.nil_append]
 refine go (L:=_∧_∧True) wb0 wb0 wb0 wb0 wb0 ⟨fun _ _=>?_,fun _ _=>?_,wb0⟩
 all_goals (simp_all[inRange];try omega)
theorem c_spec_l1In(n lo hi:Int):Con PP 59 [.sc (.int .i64 n),.sc (.int .i64 lo),.sc (.int .i64 hi)] [] [] (fun r o=>r=.sc (.bool (inRange n lo hi))):=by
 refine cof 15 Go.Proofs.Tryz.func59 fun G=>?_
 simp only[entSt,tmOf,List.append_nil,List.cons_append,List.nil_append]
 refine go (L:=_∧_∧True) wb0 wb0 wb0 wb0 wb0 ⟨fun _ _=>?_,fun _ _=>?_,wb0⟩
 all_goals (simp_all[inRange];try omega)
def cellKind(k:Int):Int:=if k=5 then 1 else if k=6 then 2 else if k=7 then 3 else 0
theorem c_impl_cellKind(k:Int):Con PP 227 [.sc (.int .i64 k)] [] [] (fun r o=>r=.sc (.int .i64 (cellKind k))):=by
 refine cof 10 Go.Proofs.Tryz.func227 fun G=>?_
 simp only[entSt,tmOf,List.append_nil,List.cons_append,List.nil_append]
 refine go (L:=_∧_∧_∧_∧True) wb0 wb0 wb0 wb0 wb0 ⟨fun _ hq=>?_,fun _ hq hq=>?_,fun _ hq hq hq=>?_,fun _ hq hq hq=>?_,wb0⟩
 all_goals simp_all[cellKind]
def isBelow(n:Int)(v:V):Bool := !(decide (cellKind v.k≠0)&&decide (n≤v.n))
theorem c_impl_areBelow(vs:List V)(n:Int):Con PP 213 [.fz (vs.map V.cs),.sc (.int .i64 n)] [] [] (fun r o=>r=.sc (.bool (vs.all (isBelow n)))):=by
 refine cof 24 Go.Proofs.Tryz.func213 fun G=>?_
 simp only[entSt,tmOf,List.append_nil,List.cons_append,List.nil_append]
 refine WPc.len 0 (by simp;rfl) fun hlen=>?_
 simp at hlen
 refine go (L:=_∧True) wb0 wb0 wb0 wb0 wb0 ⟨fun _=>?_,wb0⟩
 refine WPc.loopK (σ:=Nat) (fun i=>i≤vs.length∧(vs.take i).all (isBelow n)=true) (fun i=>vs.length-i) (fun i=>[(9,.sc (.int .i64 i))]) [1,7,8] 0 (by simp) (by simp) (by simp) ?_
 rintro i ⟨hi,hall⟩ s hs
 simp at hs
 subst hs
 by_cases hlt:i<vs.length
 ·have hv:=List.getElem?_eq_getElem hlt
  refine go (L:=_∧_∧_∧True) (wa2 @V.cs.eq_1 @hlt) (wb1 (fun v0 (_:True)=>c_impl_cellKind v0)) wb0 wb0 wb0 ⟨fun _ _ hq=>?_,fun _ _ hq=>?_,fun _ _=>?_,wb0⟩
  ·rw[all_at hv (by simp_all[isBelow])]
  all_goals
   refine⟨i+1,⟨⟨by omega,all_next hv (by simp_all[isBelow]) hall⟩,by first|omega|(simp only;omega)|assumption⟩,rfl,rfl,?_,?_⟩<;>simp (disch:=omega) [wrap64]
 ·refine go (L:=_∧True) (wa1 @hlt) wb0 wb0 wb0 wb0 ⟨fun _=>?_,wb0⟩
  rw[←hall,List.take_of_length_le (by omega)]
end Go.Own
namespace Go.Own
open Go.Lib
theorem contains_nil(sub:List UInt8):contains [] sub=sub.isEmpty:=by
 unfold contains index
 cases sub<;>simp
theorem contains_cons(b:UInt8)(l sub:List UInt8):contains (b::l) sub=(sub.isPrefixOf (b::l)||contains l sub):=by
 unfold contains
 have:=index_ge l sub
 rw[index]
 split
 ·rename_i h;simp[h]
 ·rename_i h
  simp only[h,Bool.false_or]
  split
  ·rename_i h2
   have h2:index l sub = -1:=by simpa using h2
   rw[h2]
  ·rename_i h2
   have h2:index l sub≠-1:=by simpa using h2
   by_cases h3:0≤index l sub
   ·rw[decide_eq_true h3,decide_eq_true (by omega)]
   ·omega
theorem contains_skip(sub:List UInt8):∀(w rest:List UInt8),32∉w→contains (w++rest) (32::sub)=contains rest (32::sub)
 |[],rest,_=>rfl
 |c::w,rest,h=>by
  simp only[List.mem_cons,not_or]at h
  rw[List.cons_append,contains_cons,contains_skip sub w rest h.2]
  have:(32::sub).isPrefixOf (c::(w++rest))=false:=by
   simp only[List.isPrefixOf,Bool.and_eq_false_iff,beq_eq_false_iff_ne]
   exact .inl h.1
  rw[this,Bool.false_or]
theorem pre_eq:∀(s w rest:List UInt8),32∉s→32∉w→(s++[32]).isPrefixOf (w++32::rest)=decide (s=w)
 |[],[],rest,_,_=>by simp
 |[],c::w,rest,_,hw=>by
  simp only[List.mem_cons,not_or]at hw
  simp[List.isPrefixOf,hw.1]
 |c::s,[],rest,hs,_=>by
  simp only[List.mem_cons,not_or]at hs
  simp[List.isPrefixOf,Ne.symm hs.1]
 |c::s,d::w,rest,hs,hw=>by
  simp only[List.mem_cons,not_or]at hs hw
  have ih:=pre_eq s w rest hs.2 hw.2
  simp only[List.cons_append,List.isPrefixOf,ih]
  by_cases h:c=d<;>simp[h]
def rowOf(ws:List (List UInt8)):List UInt8:=ws.flatMap (fun w=>32::w)++[32]
theorem row_head:∀ws:List (List UInt8),∃r,rowOf ws=32::r
 |[]=>⟨[],rfl⟩
 |w::ws=>⟨w++rowOf ws,by simp[rowOf]⟩
theorem contains_row(s:List UInt8)(hs:32∉s)(h0:s≠[]):∀ws:List (List UInt8),(∀w,w∈ws→32∉w)→contains (rowOf ws) (32::(s++[32]))=decide (s∈ws)
 |[],_=>by
  have:rowOf []=[32]:=rfl
  rw[this,contains_cons,contains_nil]
  cases s with
  |nil=>exact absurd rfl h0
  |cons c s=>simp[List.isPrefixOf]
 |w::ws,h=>by
  have hw:=h w (by simp)
  have ih:=contains_row s hs h0 ws (fun w hw=>h w (by simp[hw]))
  have e:rowOf (w::ws)=32::(w++rowOf ws):=by simp[rowOf]
  rw[e,contains_cons,contains_skip _ _ _ hw,ih]
  obtain⟨r,hr⟩:=row_head ws
  have:(32::(s++[32])).isPrefixOf (32::(w++rowOf ws))=decide (s=w):=by
   rw[hr,List.isPrefixOf,pre_eq s w r hs hw];simp
  rw[this]
  by_cases h1:s=w<;>simp[h1]
theorem contains_one:∀(l:List UInt8) (c:UInt8),contains l [c]=decide (c∈l)
 |[],c=>by rw[contains_nil];simp
 |b::l,c=>by
  rw[contains_cons,contains_one l c]
  by_cases h:c=b
  ·subst h;simp[List.isPrefixOf]
  ·simp[List.isPrefixOf,h]
def oneOf(s list:ByteArray):Bool :=
 decide (s≠⟨#[]⟩) && !Lib.contains s.data.toList [32]&&Lib.contains (⟨#[32]⟩++list++⟨#[32]⟩:ByteArray).data.toList (⟨#[32]⟩++s++⟨#[32]⟩:ByteArray).data.toList
theorem ba_ext{a b:ByteArray}(h:a.data.toList=b.data.toList):a=b:=by
 cases a;cases b;simp only[ByteArray.mk.injEq];exact Array.toList_inj.1 h
def isW(ws:List ByteArray)(s:ByteArray):Bool:=ws.any fun w=>decide (s=w)
theorem isW_iff{ws:List ByteArray}{s:ByteArray}:isW ws s=true↔s∈ws:=by simp[isW]
theorem isW_not{ws:List ByteArray}{s:ByteArray}(h:s∉ws):isW ws s=false:=by
 rw[←Bool.not_eq_true,isW_iff];exact h
theorem oneOf_eq(s list:ByteArray)(ws:List ByteArray)(h1:32::list.data.toList++[32]=rowOf (ws.map (·.data.toList)))(h2:∀w,w∈ws→32∉w.data.toList)(h3:(⟨#[]⟩:ByteArray)∉ws):oneOf s list=isW ws s:=by
 have e1:(⟨#[32]⟩++list++⟨#[32]⟩:ByteArray).data.toList=32::list.data.toList++[32]:=by simp
 have e2:(⟨#[32]⟩++s++⟨#[32]⟩:ByteArray).data.toList=32::(s.data.toList++[32]):=by simp
 unfold oneOf
 rw[e1,e2,h1,contains_one]
 by_cases g0:s=⟨#[]⟩
 ·subst g0;rw[isW_not h3];simp
 ·by_cases g1:32∈s.data.toList
  ·have:s∉ws:=fun hm=>h2 s hm g1
   rw[isW_not this];simp[g1]
  ·rw[contains_row _ g1 (fun h=>g0 (ba_ext (by simpa using h))) _ (fun w hw=>by obtain⟨x,hx,rfl⟩:=List.mem_map.1 hw;exact h2 x hx)]
   have hmem:s.data.toList∈ws.map (·.data.toList)↔s∈ws:=by
    constructor
    ·intro h;obtain⟨x,hx,he⟩:=List.mem_map.1 h;exact ba_ext he▸hx
    ·intro h;exact List.mem_map.2 ⟨s,h,rfl⟩
   by_cases h:s∈ws
   ·rw[isW_iff.2 h];simp only[decide_eq_true (hmem.2 h)];simp[g0,g1]
   ·rw[isW_not h];simp only[decide_eq_false (fun x=>h (hmem.1 x))];simp
end Go.Own
set_option maxRecDepth 1000000
set_option maxHeartbeats 4000000
namespace Go.Own
attribute [local irreducible] WPc WPL WPS HAny endP
variable [Laid]
open Go.Lib
def w2:List ByteArray:=[⟨#[43]⟩,⟨#[45]⟩,⟨#[42]⟩,⟨#[60]⟩,⟨#[61]⟩,⟨#[101,113,63]⟩,⟨#[99,111,110,115]⟩]
@[simp] theorem oneOf_w2(s:ByteArray):oneOf s ⟨#[43,32,45,32,42,32,60,32,61,32,101,113,63,32,99,111,110,115]⟩=isW w2 s:=oneOf_eq _ _ _ (by decide +kernel) (by decide +kernel) (by simp[w2])
def w1:List ByteArray:=[⟨#[99,97,114]⟩,⟨#[99,100,114]⟩,⟨#[110,117,108,108,63]⟩,⟨#[112,97,105,114,63]⟩,⟨#[110,111,116]⟩,⟨#[112,114,105,110,116]⟩,⟨#[101,114,114,111,114]⟩,⟨#[102,105,101,108,100]⟩,⟨#[105,115]⟩]
@[simp] theorem oneOf_w1(s:ByteArray):oneOf s ⟨#[99,97,114,32,99,100,114,32,110,117,108,108,63,32,112,97,105,114,63,32,110,111,116,32,112,114,105,110,116,32,101,114,114,111,114,32,102,105,101,108,100,32,105,115]⟩=isW w1 s:=oneOf_eq _ _ _ (by decide +kernel) (by decide +kernel) (by simp[w1])
def wTyped:List ByteArray:=[⟨#[112,114,105,110,116]⟩,⟨#[101,114,114,111,114]⟩,⟨#[102,105,101,108,100]⟩,⟨#[105,115]⟩]
@[simp] theorem oneOf_wTyped(s:ByteArray):oneOf s ⟨#[112,114,105,110,116,32,101,114,114,111,114,32,102,105,101,108,100,32,105,115]⟩=isW wTyped s:=oneOf_eq _ _ _ (by decide +kernel) (by decide +kernel) (by simp[wTyped])
def wWord:List ByteArray:=[⟨#[113,117,111,116,101]⟩,⟨#[105,102]⟩,⟨#[108,97,109,98,100,97]⟩,⟨#[98,101,103,105,110]⟩,⟨#[115,101,116,33]⟩,⟨#[108,101,116]⟩,⟨#[108,101,116,42]⟩,⟨#[99,111,110,100]⟩,⟨#[101,108,115,101]⟩,⟨#[97,110,100]⟩,⟨#[111,114]⟩,⟨#[119,104,101,110]⟩,⟨#[100,101,102,105,110,101]⟩]
@[simp] theorem oneOf_wWord(s:ByteArray):oneOf s ⟨#[113,117,111,116,101,32,105,102,32,108,97,109,98,100,97,32,98,101,103,105,110,32,115,101,116,33,32,108,101,116,32,108,101,116,42,32,99,111,110,100,32,101,108,115,101,32,97,110,100,32,111,114,32,119,104,101,110,32,100,101,102,105,110,101]⟩=isW wWord s:=oneOf_eq _ _ _ (by decide +kernel) (by decide +kernel) (by simp[wWord])
def arity(s:ByteArray):Int:=if isW w2 s=true then 2 else if isW w1 s=true then 1 else if s=⟨#[109,97,107,101]⟩ then 0 else -1
theorem c_impl_isOneOf[F:Facts.Of](s list:ByteArray)(h1:s.size<4294967000)(h2:list.size<4294967000):Con PP 266 [.sc (.string s),.sc (.string list)] [] [] (fun r o=>r=.sc (.bool (oneOf s list))):=by
 have e1:(⟨#[32]⟩:ByteArray).size=1:=rfl
 refine cof 21 Go.Proofs.Tryz.func266 fun G=>?_
 simp only[entSt,tmOf,List.append_nil,List.cons_append,List.nil_append]
 have s1:SAdd ⟨#[32]⟩ list:=by unfold SAdd;rw[e1];omega
 have s2:SAdd (⟨#[32]⟩++list) ⟨#[32]⟩:=by unfold SAdd;simp only[ByteArray.size_append,e1];omega
 have s3:SAdd ⟨#[32]⟩ s:=by unfold SAdd;rw[e1];omega
 have s4:SAdd (⟨#[32]⟩++s) ⟨#[32]⟩:=by unfold SAdd;simp only[ByteArray.size_append,e1];omega
 repeat' (first
  |apply WPc.sq
  |(refine WPc.ret (endP.val (.inr rfl) rfl rfl (by simp;rfl) ?_))
  |refine WPL.nil ?_
  |(apply WPL.cL (c_strings_Contains _ _ ?g1);(case q=>(repeat' (first|refine And.intro ?_ ?_|intro _|(with_reducible exact cleanOut_nil)|(refine Eqv.mk ?_;first|rfl|(simp -implicitDefEqProofs [s1,s2,s3,s4];done))|(simp -implicitDefEqProofs [s1,s2,s3,s4];done)|(simp -implicitDefEqProofs [s1,s2,s3,s4];rfl)|(simp;done)|(simp;rfl)|rfl)));(case g1=>(first|omega|(simp only[ByteArray.size_append,e1];omega))))
  |(refine WPL.call0f ?_ ?_ ?_;(focus(simp;done));(focus(simp;done)))
  |((first|refine WPc.rq tok rfl fun K hK=>?_|refine WPL.rn tok _ (by simp[ahead,isFn];rfl) fun K hK=>?_);simp -implicitDefEqProofs +contextual [-Int.not_le,-Int.not_lt,-Nat.not_le,-Nat.not_lt,-List.all_eq_true,-List.all_eq_false,-List.any_eq_true,-List.any_eq_false,s1,s2,s3,s4];(repeat1' (first|apply hK|apply And.intro|intro _))<;>clear hK K<;>(try dsimp only[List.drop]))
  |(refine WPc.region ?_;simp only[List.toList_toArray]))
 all_goals simp_all[oneOf]
theorem c_impl_Arity[F:Facts.Of](s:ByteArray)(h1:s.size<4294967000):Con PP 267 [.sc (.string s)] [] [] (fun r o=>r=.sc (.int .i64 (arity s))):=by
 refine cof 12 Go.Proofs.Tryz.func267 fun G=>?_
 simp only[entSt,tmOf,List.append_nil,List.cons_append,List.nil_append]
 refine go (L:=_∧_∧_∧_∧True) wb0 (wb1 (fun v0 v1 (h:_∧_)=>c_impl_isOneOf v0 v1 h.1 h.2)) wb0 wb0 wb0 ⟨fun _ hq=>?_,fun _ hq hq=>?_,fun _ hq hq hq=>?_,fun _ hq hq hq=>?_,wb0⟩
 all_goals simp_all[arity]
theorem c_spec_Arity(s:ByteArray):Con PP 197 [.sc (.string s)] [] [] (fun r o=>r=.sc (.int .i64 (arity s))):=by
 refine cof 24 Go.Proofs.Tryz.func197 fun G=>?_
 simp only[entSt,tmOf,List.append_nil,List.cons_append,List.nil_append]
 repeat' (first
  |apply WPc.sq
  |apply WPc.block
  |(refine WPc.ret (endP.val (.inr rfl) rfl rfl (by simp;rfl) ?_))
  |apply WPc.skip
  |(refine WPc.rq tok rfl fun K hK=>?_;simp -implicitDefEqProofs +contextual [-Int.not_le,-Int.not_lt,-Nat.not_le,-Nat.not_lt,-List.all_eq_true,-List.all_eq_false,-List.any_eq_true,-List.any_eq_false];(repeat1' (first|apply hK|apply And.intro|intro _))<;>clear hK K<;>(try dsimp only[List.drop]))
  |(refine WPc.condT ?_ ?_;(focus(simp;done)))
  |(refine WPc.cond (by simp[-Bool.not_eq_eq_eq_not];rfl) (fun hq=>?_) (fun hq=>?_)<;>simp only[hq]<;>(try(exfalso;(simp only[decide_eq_true_eq,decide_eq_false_iff_not]at hq);omega))))
 all_goals simp_all[arity,isW,w1,w2]
def plainP(s:ByteArray):Bool:=decide (0<arity s) && !isW wTyped s
def sC(s:ByteArray):List C:=[.sc (.string s)]
theorem c_spec_l3In(ws:List ByteArray)(s:ByteArray):Con PP 193 [.fz (ws.map sC),.sc (.string s)] [] [] (fun r o=>r=.sc (.bool (isW ws s))):=by
 refine cof 18 Go.Proofs.Tryz.func193 fun G=>?_
 simp only[entSt,tmOf,List.append_nil,List.cons_append,List.nil_append]
 refine WPc.len 0 (by simp;rfl) fun hlen=>?_
 simp at hlen
 refine go (L:=_∧True) wb0 wb0 wb0 wb0 wb0 ⟨fun _=>?_,wb0⟩
 refine WPc.loopK (σ:=Nat) (fun i=>i≤ws.length∧(ws.take i).any (fun w=>decide (s=w))=false) (fun i=>ws.length-i) (fun i=>[(5,.sc (.int .i64 i))]) [0,1] 0 (by simp) (by simp) (by simp) ?_
 rintro i ⟨hi,hall⟩ s hs
 simp at hs
 subst hs
 by_cases hlt:i<ws.length
 ·have hv:=List.getElem?_eq_getElem hlt
  refine go (L:=_∧_∧True) (wa2 @hlt @sC.eq_1) wb0 wb0 wb0 wb0 ⟨fun _ hq=>?_,fun _ hq=>?_,wb0⟩
  ·rw[isW,any_at hv (by simp_all)]
  all_goals
   refine⟨i+1,⟨⟨by omega,any_next hv (by simp at hq ⊢;exact fun e=>hq e.symm) hall⟩,by first|omega|(simp only;omega)|assumption⟩,rfl,rfl,?_,?_⟩<;>simp (disch:=omega) [wrap64]
 ·refine go (L:=_∧True) (wa1 @hlt) wb0 wb0 wb0 wb0 ⟨fun _=>?_,wb0⟩
  rw[List.take_of_length_le (by omega)]at hall
  rw[isW,hall]
theorem c_spec_l3In_word(s:ByteArray):Con PP 193 [.fz [[.sc (.string ⟨#[113,117,111,116,101]⟩)],[.sc (.string ⟨#[105,102]⟩)],[.sc (.string ⟨#[108,97,109,98,100,97]⟩)],[.sc (.string ⟨#[98,101,103,105,110]⟩)],[.sc (.string ⟨#[115,101,116,33]⟩)],[.sc (.string ⟨#[108,101,116]⟩)],[.sc (.string ⟨#[108,101,116,42]⟩)],[.sc (.string ⟨#[99,111,110,100]⟩)],[.sc (.string ⟨#[101,108,115,101]⟩)],[.sc (.string ⟨#[97,110,100]⟩)],[.sc (.string ⟨#[111,114]⟩)],[.sc (.string ⟨#[119,104,101,110]⟩)],[.sc (.string ⟨#[100,101,102,105,110,101]⟩)]],.sc (.string s)] [] [] (fun r o=>r=.sc (.bool (isW wWord s))):=c_spec_l3In wWord s
theorem c_spec_l3Word(s:ByteArray):Con PP 196 [.sc (.string s)] [] [] (fun r o=>r=.sc (.bool (isW wWord s))):=by
 refine cof 6 Go.Proofs.Tryz.func196 fun G=>?_
 simp only[entSt,tmOf,List.append_nil,List.cons_append,List.nil_append]
 refine go (L:=_∧True) (wa1 @sC.eq_1) (wb1 (fun v0 (_:True)=>c_spec_l3In_word v0)) wb0 wb0 wb0 ⟨fun _=>?_,wb0⟩
 all_goals rfl
end Go.Own
set_option maxRecDepth 1000000
set_option maxHeartbeats 4000000
namespace Go.Own
attribute [local irreducible] WPc WPL WPS HAny endP
variable [Laid]
open Go.Lib
@[simp] theorem bt_nonneg(s:ByteArray)(i:Int):0≤bt s i:=by unfold bt;split<;>omega
@[simp] theorem bt_le(s:ByteArray)(i:Int):bt s i≤255:=by
 unfold bt;split
 ·have:=(s[i.toNat]'(by assumption)).toNat_lt;omega
 ·omega
def dec(n:Int):ByteArray:=⟨(itoa n).toArray⟩
theorem c_impl_Dec[F:Facts.Of](n:Int)(h0 : -9223372036854775808≤n)(h1:n≤9223372036854775807):Con PP 93 [.sc (.int .i64 n)] [] [] (fun r o=>r=.sc (.string (dec n))):=by
 refine cof 5 Go.Proofs.Tryz.func93 fun G=>?_
 simp only[entSt,tmOf,List.append_nil,List.cons_append,List.nil_append]
 refine go (L:=_∧True) wb0 (wb1 (fun v0 (h:_∧_)=>c_strconv_Itoa v0 h.1 h.2)) wb0 wb0 wb0 ⟨fun _=>?_,wb0⟩
 all_goals rfl
def isDigit(c:Int):Bool:=decide (48≤c)&&decide (c≤57)
def isSym(c:Int):Bool:=decide (97≤c)&&decide (c≤122)||isDigit c||[33,63,42,47,60,61,62,43,45,95].contains c
theorem sym_impl:∀n:Fin 256,((decide (97≤(n.val:Int))&&decide ((n.val:Int)≤122))||(decide (48≤(n.val:Int))&&decide ((n.val:Int)≤57))||decide (0≤Lib.indexByte [33,63,42,47,60,61,62,43,45,95] (n.val:Int).toNat.toUInt8))=isSym n.val:=by decide +kernel
theorem c_impl_isSymByte(c:Int)(h0:0≤c)(h1:c≤255):Con PP 270 [.sc (.int .u8 c)] [] [] (fun r o=>r=.sc (.bool (isSym c))):=by
 have key:=sym_impl ⟨c.toNat,by omega⟩
 simp only[show ((c.toNat:Nat):Int)=c by omega]at key
 rw[←key]
 refine cof 22 Go.Proofs.Tryz.func270 fun G=>?_
 simp only[entSt,tmOf,List.append_nil,List.cons_append,List.nil_append]
 refine go (L:=_∧_∧_∧_∧_∧_∧_∧True) wb0 (wb1 (fun v0 v1 (_:True)=>c_strings_IndexByte v0 v1)) wb0 wb0 wb0 ⟨fun _ _ _ _ _=>?_,fun _ _ _ _ _=>?_,fun _ _ _ _=>?_,fun _ _ _=>?_,fun _ _ _ _=>?_,fun _ _ _ _=>?_,fun _ _ _=>?_,wb0⟩
 all_goals (simp_all;try omega)
theorem c_spec_l2Digit(c:Int):Con PP 257 [.sc (.int .u8 c)] [] [] (fun r o=>r=.sc (.bool (isDigit c))):=by
 refine cof 9 Go.Proofs.Tryz.func257 fun G=>?_
 simp only[entSt,tmOf,List.append_nil,List.cons_append,List.nil_append]
 refine go (L:=_∧_∧True) wb0 wb0 wb0 wb0 wb0 ⟨fun _ _=>?_,fun _ _=>?_,wb0⟩
 all_goals (simp_all[isDigit];try omega)
def inSet(b:Int)(s:ByteArray):Bool:=(List.range s.size).any fun i=>decide (bt s i=b)
theorem c_spec_l2In(b:Int)(s:ByteArray)(hs:s.size≤9223372036854775807):Con PP 281 [.sc (.int .u8 b),.sc (.string s)] [] [] (fun r o=>r=.sc (.bool (inSet b s))):=by
 refine cof 17 Go.Proofs.Tryz.func281 fun G=>?_
 simp only[entSt,tmOf,List.append_nil,List.cons_append,List.nil_append]
 refine go (L:=_∧True) wb0 wb0 wb0 wb0 wb0 ⟨fun _=>?_,wb0⟩
 refine WPc.loopK (σ:=Nat) (fun i=>i≤s.size∧((List.range s.size).take i).any (fun i=>decide (bt s i=b))=false) (fun i=>s.size-i) (fun i=>[(5,.sc (.int .i64 i))]) [0,1] 0 (by simp) (by simp) (by simp) ?_
 rintro i ⟨hi,hall⟩ s hs
 simp at hs
 subst hs
 by_cases hlt:i<s.size
 ·have hv:(List.range s.size)[i]?=some i:=List.getElem?_range hlt
  refine go (L:=_∧_∧True) (wa1 @hlt) wb0 wb0 wb0 wb0 ⟨fun _ hq=>?_,fun _ hq=>?_,wb0⟩
  ·rw[inSet,any_at hv (by simp_all)]
  all_goals
   refine⟨i+1,⟨⟨by omega,any_next hv (by simp_all) hall⟩,by first|omega|(simp only;omega)|assumption⟩,rfl,rfl,?_,?_⟩<;>simp (disch:=omega) [wrap64]
 ·refine go (L:=_∧True) (wa1 @hlt) wb0 wb0 wb0 wb0 ⟨fun _=>?_,wb0⟩
  rw[List.take_of_length_le (by simp;omega)]at hall
  rw[inSet,hall]
theorem sym_spec:∀n:Fin 256,((decide (97≤(n.val:Int))&&decide ((n.val:Int)≤122))||isDigit n.val||inSet n.val ⟨#[33,63,42,47,60,61,62,43,45,95]⟩)=isSym n.val:=by decide +kernel
theorem c_spec_l2Sign(c:Int)(h0:0≤c)(h1:c≤255):Con PP 258 [.sc (.int .u8 c)] [] [] (fun r o=>r=.sc (.bool (isSym c))):=by
 have key:=sym_spec ⟨c.toNat,by omega⟩
 simp only[show ((c.toNat:Nat):Int)=c by omega]at key
 rw[←key]
 refine cof 17 Go.Proofs.Tryz.func258 fun G=>?_
 simp only[entSt,tmOf,List.append_nil,List.cons_append,List.nil_append]
 refine go (L:=_∧_∧_∧_∧_∧True) wb0 (wb2 (fun v0 (_:True)=>c_spec_l2Digit v0) (fun v0 v1 (h:_)=>c_spec_l2In v0 v1 h)) wb0 wb0 wb0 ⟨fun _ _ _ _=>?_,fun _ _ _ _=>?_,fun _ _ _=>?_,fun _ _ _=>?_,fun _ _ _=>?_,wb0⟩
 all_goals (simp_all;try omega)
end Go.Own
namespace Go.Own
open Go.Lib
def isDigB(c:UInt8):Bool:=decide (48≤c.toNat)&&decide (c.toNat≤57)
def foldD(acc:Nat)(l:List UInt8):Nat:=l.foldl (fun n c=>if isDigB c then n*10+(c.toNat-48) else n) acc
def cntD(l:List UInt8):Nat:=l.countP isDigB
def decVal(l:List UInt8):Int:=if l.head?=some 45 then -(foldD 0 l:Int) else foldD 0 l
def readDec(l:List UInt8):Option Int:=if itoa (decVal l)=l∧-999999999≤decVal l∧decVal l≤999999999 then some (decVal l) else none
theorem foldD_append(acc:Nat)(a b:List UInt8):foldD acc (a++b)=foldD (foldD acc a) b:=by simp[foldD]
theorem dig_toNat{d:Nat}(h:d<10):(UInt8.ofNat (48+d)).toNat=48+d:=by simp[UInt8.toNat_ofNat'];omega
theorem dig_isDig{d:Nat}(h:d<10):isDigB (UInt8.ofNat (48+d))=true:=by
 unfold isDigB;rw[dig_toNat h];simp;omega
theorem dec_all:∀(u:Nat) (c:UInt8),c∈decDigits u→isDigB c=true:=by
 intro u
 induction u using Nat.strongRecOn with
 |_ u ih =>
  intro c hc
  rw[decDigits]at hc
  split at hc
  ·rename_i h
   simp only[List.mem_cons,List.not_mem_nil,or_false]at hc
   subst hc;exact dig_isDig h
  ·rcases List.mem_append.1 hc with hc|hc
   ·exact ih _ (by omega) c hc
   ·simp only[List.mem_cons,List.not_mem_nil,or_false]at hc
    subst hc;exact dig_isDig (Nat.mod_lt _ (by omega))
theorem foldD_dec:∀u,foldD 0 (decDigits u)=u:=by
 intro u
 induction u using Nat.strongRecOn with
 |_ u ih =>
  rw[decDigits]
  split
  ·rename_i h
   simp only[foldD,List.foldl_cons,List.foldl_nil,dig_isDig h,if_true,dig_toNat h];omega
  ·rename_i h
   rw[foldD_append,ih _ (by omega)]
   have h2:u % 10<10:=Nat.mod_lt _ (by omega)
   simp only[foldD,List.foldl_cons,List.foldl_nil,dig_isDig h2,if_true,dig_toNat h2];omega
theorem cnt_all{l:List UInt8}(h:∀c,c∈l→isDigB c=true):cntD l=l.length:=List.countP_eq_length.2 h
theorem cnt_dec(u:Nat):cntD (decDigits u)=nDigits u:=by rw[cnt_all (dec_all u),decDigits_length]
theorem nDigits_le:∀(k u:Nat),1≤k→u<10 ^ k→nDigits u≤k
 |0,u,h,_=>by omega
 |1,u,_,h=>by rw[nDigits_small (by simpa using h)];exact Nat.le_refl _
 |k+2,u,_,h=>by
  by_cases hu:u<10
  ·rw[nDigits_small hu];omega
  ·rw[nDigits_big hu]
   have:=nDigits_le (k+1) (u / 10) (by omega) (by rw[Nat.pow_succ]at h;omega)
   omega
theorem nDigits_9(u:Nat):nDigits u≤9↔u≤999999999:=by
 constructor
 ·intro h
  have h1:=lt_pow_nDigits u
  have h2:10 ^ nDigits u≤10 ^ 9:=Nat.pow_le_pow_right (by omega) h
  omega
 ·intro h;exact nDigits_le 9 u (by omega) (by omega)
theorem decDigits_ne(u:Nat):decDigits u≠[]:=fun h=>by
 have h1:=decDigits_length u
 rw[h]at h1
 have h2:=nDigits_pos u
 simp at h1;omega
theorem minus_not:isDigB 45=false:=by decide
theorem head_dec(u:Nat):(decDigits u).head?≠some 45:=fun h=>by
 have hm:(45:UInt8)∈decDigits u:=List.mem_of_head? h
 have:=dec_all u _ hm
 rw[minus_not]at this
 exact absurd this (by simp)
theorem decVal_itoa(n:Int):decVal (itoa n)=n:=by
 unfold itoa decVal
 split
 ·simp only[List.head?_cons,if_true]
  have:foldD 0 (45::decDigits n.natAbs)=foldD 0 (decDigits n.natAbs):=by simp[foldD,minus_not]
  rw[this,foldD_dec];omega
 ·rw[if_neg (head_dec _),foldD_dec];omega
theorem readDec_itoa{n:Int}(h0 : -999999999≤n)(h1:n≤999999999):readDec (itoa n)=some n:=by
 unfold readDec;rw[decVal_itoa,if_pos ⟨rfl,h0,h1⟩]
theorem readDec_some{l:List UInt8}{n:Int}:readDec l=some n↔itoa n=l∧-999999999≤n∧n≤999999999:=by
 constructor
 ·intro h
  unfold readDec at h
  split at h
  ·injection h with h;subst h;assumption
  ·simp at h
 ·rintro⟨rfl,h0,h1⟩;exact readDec_itoa h0 h1
theorem cnt_itoa(n:Int):cntD (itoa n)=nDigits n.natAbs:=by
 unfold itoa
 split
 ·simp only[cntD,List.countP_cons,minus_not]
  exact cnt_dec _
 ·rw[cnt_dec];congr 1;omega
theorem len_itoa(n:Int):(itoa n).length=nDigits n.natAbs+if n<0 then 1 else 0:=by
 unfold itoa
 split
 ·simp[decDigits_length]
 ·rw[decDigits_length,Nat.add_zero];congr 1;omega
theorem foldD_mono(l:List UInt8):∀acc,(∀c,c∈l→isDigB c=true)→acc≤foldD acc l:=by
 induction l with
 |nil=>intro acc _;exact Nat.le_refl _
 |cons c l ih =>
  intro acc h
  have hc:=h c (by simp)
  have:=ih (acc*10+(c.toNat-48)) (fun c hc=>h c (by simp[hc]))
  have e:foldD acc (c::l)=foldD (acc*10+(c.toNat-48)) l:=by simp[foldD,hc]
  rw[e];omega
theorem parse_fold:∀(l:List UInt8) (acc:Nat),(∀c,c∈l→isDigB c=true)→foldD acc l<18446744073709551616→parseUint10 acc l=.ok (foldD acc l)
 |[],acc,_,_=>rfl
 |c::l,acc,h,hlt=>by
  have hc:=h c (by simp)
  have hl:∀c,c∈l→isDigB c=true:=fun c hc=>h c (by simp[hc])
  have e:foldD acc (c::l)=foldD (acc*10+(c.toNat-48)) l:=by simp[foldD,hc]
  rw[e]at hlt ⊢
  have hm:=foldD_mono l (acc*10+(c.toNat-48)) hl
  simp only[isDigB,Bool.and_eq_true,decide_eq_true_eq]at hc
  rw[parseUint10,if_pos hc,if_neg (by omega),if_neg (by omega)]
  exact parse_fold l _ hl hlt
theorem atoi_itoa{n:Int}(h0 : -999999999≤n)(h1:n≤999999999):atoiAll (itoa n)=.ok n:=by
 unfold itoa
 split
 ·rename_i hn
  unfold atoiAll
  simp only[show (45:UInt8).toNat=45 from rfl,or_true,if_true,true_and,not_true,false_and,if_false]
  have hp:=parse_fold (decDigits n.natAbs) 0 (dec_all _) (by rw[foldD_dec];omega)
  unfold parseMag
  rw[if_neg (decDigits_ne _),hp,foldD_dec]
  simp only
  rw[if_neg (by omega)]
  congr 1;omega
 ·rename_i hn
  have hp:=parse_fold (decDigits n.toNat) 0 (dec_all _) (by rw[foldD_dec];omega)
  have hall:=dec_all n.toNat
  have hne:=decDigits_ne n.toNat
  rw[foldD_dec]at hp
  generalize decDigits n.toNat=l at hp hall hne
  cases l with
  |nil=>exact absurd rfl hne
  |cons c r =>
   have hc:=hall c (by simp)
   simp only[isDigB,Bool.and_eq_true,decide_eq_true_eq]at hc
   unfold atoiAll
   simp only
   rw[if_neg (by omega)]
   unfold parseMag
   rw[if_neg (by simp),hp]
   simp only
   rw[if_neg (by omega),if_neg (by omega),if_neg (by omega)]
   congr 1;omega
end Go.Own
namespace Go.Own
open Go.Lib
theorem trim_itoa(n:Int):(trimPrefix (itoa n) [45]).length=nDigits n.natAbs:=by
 unfold trimPrefix itoa
 split
 ·simp[hasPrefix,decDigits_length,List.isPrefixOf]
 ·have hh:=head_dec n.toNat
  have hn:n.toNat=n.natAbs:=by omega
  rw[hn]at hh ⊢
  cases hd:decDigits n.natAbs with
  |nil=>exact absurd hd (decDigits_ne _)
  |cons c r =>
   rw[hd]at hh
   simp only[List.head?_cons,ne_eq,Option.some.injEq]at hh
   have:hasPrefix (c::r) [45]=false:=by
    simp[hasPrefix,List.isPrefixOf];exact fun h=>hh h.symm
   rw[this]
   simp only[Bool.false_eq_true,if_false]
   rw[←hd,decDigits_length]
theorem readDec_none_len{l:List UInt8}(h:¬(1≤(trimPrefix l [45]).length∧(trimPrefix l [45]).length≤9)):readDec l=none:=by
 cases hr:readDec l with
 |none=>rfl
 |some n =>
  obtain⟨rfl,h0,h1⟩:=readDec_some.1 hr
  rw[trim_itoa]at h
  exact absurd ⟨nDigits_pos _,(nDigits_9 _).2 (by omega)⟩ h
theorem readDec_ok{l:List UInt8}{v:Int}(h:(trimPrefix l [45]).length≤9)(hv:itoa v=l):readDec l=some v:=by
 subst hv
 rw[trim_itoa]at h
 have:=(nDigits_9 _).1 h
 exact readDec_itoa (by omega) (by omega)
theorem readDec_off{l:List UInt8}{v:Int}(h:atoiAll l=.ok v)(hv:itoa v≠l):readDec l=none:=by
 cases hr:readDec l with
 |none=>rfl
 |some n =>
  obtain⟨rfl,h0,h1⟩:=readDec_some.1 hr
  rw[atoi_itoa h0 h1]at h
  injection h with h
  subst h
  exact absurd rfl hv
theorem readDec_bad{l:List UInt8}(h:∀v,atoiAll l≠.ok v):readDec l=none:=by
 cases hr:readDec l with
 |none=>rfl
 |some n =>
  obtain⟨rfl,h0,h1⟩:=readDec_some.1 hr
  exact absurd (atoi_itoa h0 h1) (h n)
def ddig(m:Int):List UInt8:=if m=0 then [] else decDigits m.natAbs
theorem ddig_step{m:Int}(h:m≠0):ddig m=ddig (m.tdiv 10)++[UInt8.ofNat (48+m.natAbs % 10)]:=by
 have h1:(m.tdiv 10).natAbs=m.natAbs / 10:=by rw[Int.natAbs_tdiv];rfl
 unfold ddig
 rw[if_neg h,decDigits]
 split
 ·rename_i hlt
  rw[if_pos (by omega)]
  simp[Nat.mod_eq_of_lt hlt]
 ·rw[if_neg (by omega),h1]
theorem tmod_abs(m:Int):(m.tmod 10).natAbs=m.natAbs % 10:=by rw[Int.natAbs_tmod];rfl
theorem foldD_lt:∀(l:List UInt8),foldD 0 l<10 ^ l.length:=by
 intro l
 induction h:l.length generalizing l with
 |zero=>have:=List.eq_nil_of_length_eq_zero h;subst this;simp[foldD]
 |succ n ih =>
  have hne:l≠[]:=fun e=>by subst e;simp at h
  rw[←List.dropLast_concat_getLast hne,foldD_append]
  have:=ih l.dropLast (by simp[h])
  simp only[foldD,List.foldl_cons,List.foldl_nil]at this ⊢
  rw[Nat.pow_succ]
  split
  ·rename_i hd
   simp only[isDigB,Bool.and_eq_true,decide_eq_true_eq]at hd
   omega
  ·omega
theorem foldD_snoc{l:List UInt8}{i:Nat}{c:UInt8}(h:l[i]?=some c):foldD 0 (l.take (i+1))=if isDigB c then foldD 0 (l.take i)*10+(c.toNat-48) else foldD 0 (l.take i):=by
 rw[List.take_add_one,h,Option.toList_some,foldD_append];simp[foldD]
theorem cntD_snoc{l:List UInt8}{i:Nat}{c:UInt8}(h:l[i]?=some c):cntD (l.take (i+1))=if isDigB c then cntD (l.take i)+1 else cntD (l.take i):=by
 rw[List.take_add_one,h,Option.toList_some,cntD,List.countP_append];simp[cntD,List.countP_cons];split<;>simp
theorem readDec_spec{l:List UInt8}(hl:l.length≤10)(hk:cntD l≤9)(h:itoa (decVal l)=l):readDec l=some (decVal l):=by
 have h1:=cnt_itoa (decVal l)
 rw[h]at h1
 have:=(nDigits_9 (decVal l).natAbs).1 (by omega)
 exact readDec_some.2 ⟨h,by omega,by omega⟩
theorem readDec_spec_no{l:List UInt8}(h:¬(l.length≤10∧cntD l≤9∧itoa (decVal l)=l)):readDec l=none:=by
 cases hr:readDec l with
 |none=>rfl
 |some n =>
  obtain⟨rfl,h0,h1⟩:=readDec_some.1 hr
  have h2:=(nDigits_9 n.natAbs).2 (by omega)
  refine absurd ⟨?_,?_,?_⟩ h
  ·rw[len_itoa];split<;>omega
  ·rw[cnt_itoa];exact h2
  ·rw[decVal_itoa]
end Go.Own
set_option maxRecDepth 1000000
set_option maxHeartbeats 4000000
namespace Go.Own
attribute [local irreducible] WPc WPL WPS HAny endP
variable [Laid]
open Go.Lib Go.RowKit
theorem Con.lib2{f:Nat}{fn:Func}{vals:List Value}{Φ:AV→List (Nat×Root)→Prop}(hf:PP.funcs[f]?=some fn)(hn:(fn.name == "runtime.NumGoroutine")=false)(hb:fn.body.isNone=false)
  (h:∀w,Laid.ok w→Calls PP f vals.toArray w (fun e w'=>∃u v,e=.returned (.tuple #[u,v])∧Φ (.tup [.sc u,.sc v]) []∧Below w.heap.size w w')):Con PP f (vals.map .sc) [] [] Φ:=by
 refine⟨⟨fn,hf,hn,hb⟩,fun β w args hl h1 h2 h3 h4 h5=>?_⟩
 have:=args_of h1 h2
 subst this
 refine(h w hl.ok).mono fun e w' ⟨u,v,he,hv,hbl⟩=>⟨.tuple #[u,v],.tup [.sc u,.sc v],[],β,he,?_⟩
 exact{ ok:=hv,res:=.tup _ _ (fun n=>#[u,v].getD n undef) rfl (fun n x hx=>by
      match n,hx with
      |0,hx=>rfl
      |1,hx=>rfl
      |n+2,hx=>simp at hx) (fun n x hx=>by
      match n,hx with
      |0,hx=>simp at hx;subst hx;exact .sc _
      |1,hx=>simp at hx;subst hx;exact .sc _
      |n+2,hx=>simp at hx),ob:=fun id e k es hl=>by simp[lo]at hl,uq:=h4,lt:=fun b x hb=>Nat.lt_of_lt_of_le (h5 b x hb) hbl.size,keep:=fun i hi=>by simp at hi,fr:=fun b hb _=>hbl.block b hb,old:=fun b x hb _=>by rw[hb];simp,hs:=hbl.size,os:=hbl.os,tape:=hbl.tape,output:=hbl.output,to:=fun b id p hb _=>⟨hb,hbl.block b (h5 b _ hb)⟩,back:=fun b id p hb _=>hb }
theorem k_Atoi_ok(s:ByteArray)(hmax:s.size≤9223372036854775806)(v:Int)(h:atoiAll s.data.toList=.ok v):Con PP 287 [.sc (.string s)] [] [] (fun r o=>r=.tup [.sc (.int .i64 v),.sc .nilIface]):=
 Con.lib2 (vals:=[.string s]) Go.Proofs.Tryz.func287 (by kernel_rfl) (by kernel_rfl) fun w _=>(Go.Proofs.Tryz.strconv_Atoi_ok s hmax v h w).mono fun e w' ⟨h1,h2⟩=>⟨_,_,h1,rfl,by
  rcases h2 with rfl|⟨t,rfl⟩
  ·exact Below.refl _ _
  ·exact bytesWorld_below _ _ _⟩
theorem k_Atoi_bad[F:Facts.Of](s:ByteArray)(hmax:s.size≤281474976710656)(h:∀v,atoiAll s.data.toList≠.ok v):Con PP 287 [.sc (.string s)] [] [] (fun r o=>∃y:Int×Nat×Value,True∧r=.tup [.sc (.int .i64 y.1),.sc (.iface y.2.1 y.2.2)]∧o=[]):=
 Con.lib2 (vals:=[.string s]) Go.Proofs.Tryz.func287 (by kernel_rfl) (by kernel_rfl) fun w hw=>by
  rcases ha:atoiAll s.data.toList with v|_|_
  ·exact absurd ha (h v)
  ·obtain⟨ev,h1,h2⟩:=(F.facts w hw).syn
   exact(Go.Proofs.Tryz.strconv_Atoi_syntax s hmax (ha.trans rfl) ev w h1 h2).mono fun e w' ⟨N,g1,g2,g3,g4⟩=>⟨_,_,g1,⟨(_,_,_),trivial,rfl,rfl⟩,g4⟩
  ·obtain⟨ev,h1,h2⟩:=(F.facts w hw).rng
   exact(Go.Proofs.Tryz.strconv_Atoi_range s hmax ha ev w h1 h2).mono fun e w' ⟨N,g1,g2,g3,g4⟩=>⟨_,_,g1,⟨(_,_,_),trivial,rfl,rfl⟩,g4⟩
def rd(s:ByteArray):Option Int:=readDec s.data.toList
theorem dec_ne{v:Int}{s:ByteArray}:dec v=s↔itoa v=s.data.toList:=by
 constructor
 ·rintro rfl;simp[dec]
 ·intro h;unfold dec;exact ba_ext (by simp[h])
theorem c_impl_ReadDec[F:Facts.Of](s:ByteArray)(h1:s.size≤281474976710656):Con PP 271 [.sc (.string s)] [] [] (fun r o=>r=.tup [.sc (.int .i64 ((rd s).getD 0)),.sc (.bool (rd s).isSome)]):=by
 by_cases hlen:1≤(trimPrefix s.data.toList [45]).length∧(trimPrefix s.data.toList [45]).length≤9
 ·have hin:inRange ((trimPrefix s.data.toList [45]).length:Nat) 1 9=true:=by simp[inRange];omega
  by_cases hok:∃v,atoiAll s.data.toList=.ok v
  ·obtain⟨v,hv⟩:=hok
   obtain⟨b1,b2⟩:=atoiAll_bounds hv
   have hr:rd s=if dec v=s then some v else none:=by
    split
    ·rename_i h;exact readDec_ok hlen.2 (dec_ne.1 h)
    ·rename_i h;exact readDec_off hv (fun e=>h (dec_ne.2 e))
   rw[hr]
   have kA:=k_Atoi_ok s (by omega) v hv
   refine cof 27 Go.Proofs.Tryz.func271 fun G=>?_
   simp only[entSt,tmOf,List.append_nil,List.cons_append,List.nil_append]
   repeat' (first
    |apply WPc.sq
    |(refine WPc.ret (endP.val (.inr rfl) rfl rfl (by simp;rfl) ?_))
    |apply WPc.skip
    |refine WPL.nil ?_
    |(apply WPL.cL (c_strings_TrimPrefix _ _);(case q=>(repeat' (first|refine And.intro ?_ ?_|intro _|(with_reducible exact cleanOut_nil)|(refine Eqv.mk ?_;first|rfl|(simp -implicitDefEqProofs [hin,ByteArray.size];done))|(simp -implicitDefEqProofs [hin,ByteArray.size];done)|(simp -implicitDefEqProofs [hin,ByteArray.size];rfl)|(simp;done)|(simp;rfl)|rfl))))
    |(apply WPL.cL (c_impl_inRange _ _ _);(case q=>(repeat' (first|refine And.intro ?_ ?_|intro _|(with_reducible exact cleanOut_nil)|(refine Eqv.mk ?_;first|rfl|(simp -implicitDefEqProofs [hin,ByteArray.size];done))|(simp -implicitDefEqProofs [hin,ByteArray.size];done)|(simp -implicitDefEqProofs [hin,ByteArray.size];rfl)|(simp;done)|(simp;rfl)|rfl))))
    |(apply WPL.cL kA;(case q=>(repeat' (first|refine And.intro ?_ ?_|intro _|(with_reducible exact cleanOut_nil)|(refine Eqv.mk ?_;first|rfl|(simp -implicitDefEqProofs [hin,ByteArray.size];done))|(simp -implicitDefEqProofs [hin,ByteArray.size];done)|(simp -implicitDefEqProofs [hin,ByteArray.size];rfl)|(simp;done)|(simp;rfl)|rfl))))
    |(apply WPL.cL (c_impl_Dec _ ?g1 ?g2);(case q=>(repeat' (first|refine And.intro ?_ ?_|intro _|(with_reducible exact cleanOut_nil)|(refine Eqv.mk ?_;first|rfl|(simp -implicitDefEqProofs [hin,ByteArray.size];done))|(simp -implicitDefEqProofs [hin,ByteArray.size];done)|(simp -implicitDefEqProofs [hin,ByteArray.size];rfl)|(simp;done)|(simp;rfl)|rfl)));(case g1=>(first|assumption|omega|decide|(simp;done)|(simp_all;done)|(intros;omega)));(case g2=>(first|assumption|omega|decide|(simp;done)|(simp_all;done)|(intros;omega))))
    |((first|refine WPc.rq tok rfl fun K hK=>?_|refine WPL.rn tok _ (by simp[ahead,isFn];rfl) fun K hK=>?_);simp -implicitDefEqProofs +contextual [-Int.not_le,-Int.not_lt,-Nat.not_le,-Nat.not_lt,-List.all_eq_true,-List.all_eq_false,-List.any_eq_true,-List.any_eq_false,hin,ByteArray.size];(repeat1' (first|apply hK|apply And.intro|intro _))<;>clear hK K<;>(try dsimp only[List.drop]))
    |(refine WPc.region ?_;simp only[List.toList_toArray])
    |(refine WPc.condF ?_ ?_;(focus(simp;done)))
    |(refine WPc.cond (by simp[-Bool.not_eq_eq_eq_not];rfl) (fun hq=>?_) (fun hq=>?_)<;>simp only[hq]<;>(try(exfalso;(simp only[decide_eq_true_eq,decide_eq_false_iff_not]at hq);omega))))
   all_goals simp_all
  ·have hr:rd s=none:=readDec_bad fun v h=>hok ⟨v,h⟩
   rw[hr]
   have kA:=k_Atoi_bad s h1 fun v h=>hok ⟨v,h⟩
   refine cof 27 Go.Proofs.Tryz.func271 fun G=>?_
   simp only[entSt,tmOf,List.append_nil,List.cons_append,List.nil_append]
   repeat' (first
    |apply WPc.sq
    |(refine WPc.ret (endP.val (.inr rfl) rfl rfl (by simp;rfl) ?_))
    |apply WPc.skip
    |refine WPL.nil ?_
    |(apply WPL.cL (c_strings_TrimPrefix _ _);(case q=>(repeat' (first|refine And.intro ?_ ?_|intro _|(with_reducible exact cleanOut_nil)|(refine Eqv.mk ?_;first|rfl|(simp -implicitDefEqProofs [hin,ByteArray.size];done))|(simp -implicitDefEqProofs [hin,ByteArray.size];done)|(simp -implicitDefEqProofs [hin,ByteArray.size];rfl)|(simp;done)|(simp;rfl)|rfl))))
    |(apply WPL.cL (c_impl_inRange _ _ _);(case q=>(repeat' (first|refine And.intro ?_ ?_|intro _|(with_reducible exact cleanOut_nil)|(refine Eqv.mk ?_;first|rfl|(simp -implicitDefEqProofs [hin,ByteArray.size];done))|(simp -implicitDefEqProofs [hin,ByteArray.size];done)|(simp -implicitDefEqProofs [hin,ByteArray.size];rfl)|(simp;done)|(simp;rfl)|rfl))))
    |(apply WPL.cR kA;(case q=>(repeat' (first|refine And.intro ?_ ?_|intro _|(with_reducible exact cleanOut_nil)|(refine Eqv.mk ?_;first|rfl|(simp -implicitDefEqProofs [hin,ByteArray.size];done))|(simp -implicitDefEqProofs [hin,ByteArray.size];done)|(simp -implicitDefEqProofs [hin,ByteArray.size];rfl)|(simp;done)|(simp;rfl)|rfl)));(intro y hy s hs;simp at hs;subst hs))
    |(refine WPL.call0f ?_ ?_ ?_;(focus(simp;done));(focus(simp;done)))
    |((first|refine WPc.rq tok rfl fun K hK=>?_|refine WPL.rn tok _ (by simp[ahead,isFn];rfl) fun K hK=>?_);simp -implicitDefEqProofs +contextual [-Int.not_le,-Int.not_lt,-Nat.not_le,-Nat.not_lt,-List.all_eq_true,-List.all_eq_false,-List.any_eq_true,-List.any_eq_false,hin,ByteArray.size];(repeat1' (first|apply hK|apply And.intro|intro _))<;>clear hK K<;>(try dsimp only[List.drop]))
    |(refine WPc.region ?_;simp only[List.toList_toArray])
    |(refine WPc.condT ?_ ?_;(focus(simp;done)))
    |(refine WPc.condF ?_ ?_;(focus(simp;done))))
   all_goals simp_all
 ·have hr:rd s=none:=readDec_none_len hlen
  have hin:inRange ((trimPrefix s.data.toList [45]).length:Nat) 1 9=false:=by simp[inRange];omega
  rw[hr]
  refine cof 27 Go.Proofs.Tryz.func271 fun G=>?_
  simp only[entSt,tmOf,List.append_nil,List.cons_append,List.nil_append]
  repeat' (first
   |apply WPc.sq
   |(refine WPc.ret (endP.val (.inr rfl) rfl rfl (by simp;rfl) ?_))
   |refine WPL.nil ?_
   |(apply WPL.cL (c_strings_TrimPrefix _ _);(case q=>(repeat' (first|refine And.intro ?_ ?_|intro _|(with_reducible exact cleanOut_nil)|(refine Eqv.mk ?_;first|rfl|(simp -implicitDefEqProofs [hin,ByteArray.size];done))|(simp -implicitDefEqProofs [hin,ByteArray.size];done)|(simp -implicitDefEqProofs [hin,ByteArray.size];rfl)|(simp;done)|(simp;rfl)|rfl))))
   |(apply WPL.cL (c_impl_inRange _ _ _);(case q=>(repeat' (first|refine And.intro ?_ ?_|intro _|(with_reducible exact cleanOut_nil)|(refine Eqv.mk ?_;first|rfl|(simp -implicitDefEqProofs [hin,ByteArray.size];done))|(simp -implicitDefEqProofs [hin,ByteArray.size];done)|(simp -implicitDefEqProofs [hin,ByteArray.size];rfl)|(simp;done)|(simp;rfl)|rfl))))
   |((first|refine WPc.rq tok rfl fun K hK=>?_|refine WPL.rn tok _ (by simp[ahead,isFn];rfl) fun K hK=>?_);simp -implicitDefEqProofs +contextual [-Int.not_le,-Int.not_lt,-Nat.not_le,-Nat.not_lt,-List.all_eq_true,-List.all_eq_false,-List.any_eq_true,-List.any_eq_false,hin,ByteArray.size];(repeat1' (first|apply hK|apply And.intro|intro _))<;>clear hK K<;>(try dsimp only[List.drop]))
   |(refine WPc.region ?_;simp only[List.toList_toArray])
   |(refine WPc.condT ?_ ?_;(focus(simp;done))))
  all_goals rfl
end Go.Own
set_option maxRecDepth 1000000
set_option maxHeartbeats 4000000
namespace Go.Own
attribute [local irreducible] WPc WPL WPS HAny endP
variable [Laid]
open Go.Lib Go.RowKit
structure DecI(n m:Int)(out:ByteArray):Prop where
 eq:decDigits n.natAbs=ddig m++out.data.toList
 pos:0≤n→0≤m
 neg:n<0→m≤0
 le:m.natAbs≤n.natAbs
 sz:out.size≤20
def nextD(m:Int)(out:ByteArray):ByteArray:=⟨#[UInt8.ofNat (48+m.natAbs % 10)]⟩++out
theorem DecI.next{n m:Int}{out:ByteArray}(h:DecI n m out)(hb:n.natAbs<18446744073709551616)(hm:m≠0):DecI n (m.tdiv 10) (nextD m out):=by
 have hd:(m.tdiv 10).natAbs=m.natAbs / 10:=by rw[Int.natAbs_tdiv];rfl
 have he:decDigits n.natAbs=ddig (m.tdiv 10)++(nextD m out).data.toList:=by
  rw[h.eq,ddig_step hm,nextD,ByteArray.data_append,Array.toList_append,List.append_assoc]
 refine⟨he,fun h0=>?_,fun h0=>?_,by have:=h.le;omega,?_⟩
 ·have:=h.pos h0;exact Int.tdiv_nonneg this (by omega)
 ·have:=h.neg h0
  have:m.tdiv 10 = -((-m).tdiv 10):=by rw[Int.neg_tdiv,Int.neg_neg]
  have h2:0≤(-m).tdiv 10:=Int.tdiv_nonneg (by omega) (by omega)
  omega
 ·have:=congrArg List.length he
  rw[decDigits_length,List.length_append]at this
  have h20:=nDigits_le20 n.natAbs hb
  have:(nextD m out).size=(nextD m out).data.toList.length:=Array.length_toList.symm
  omega
theorem digit_byte(m:Int):(strOfNums [IntKind.u8.wrap (IntKind.i64.wrap (48+if m.tmod 10<0 then IntKind.i64.wrap (-(m.tmod 10)) else m.tmod 10))])=⟨#[UInt8.ofNat (48+m.natAbs % 10)]⟩:=by
 have h:=tmod_abs m
 have h2:m.natAbs % 10<10:=Nat.mod_lt _ (by omega)
 have e:(if m.tmod 10<0 then IntKind.i64.wrap (-(m.tmod 10)) else m.tmod 10)=((m.natAbs % 10:Nat):Int):=by
  split
  ·rw[wrap64 (by omega) (by omega)];omega
  ·omega
 rw[e,wrap64 (by omega) (by omega),IntKind.wrap_u8]
 simp only[strOfNums,List.map_cons,List.map_nil]
 rw[show ((48+((m.natAbs % 10:Nat):Int)) % 256).toNat=48+m.natAbs % 10 by omega]
theorem c_spec_Dec(n:Int)(h0 : -9223372036854775808≤n)(h1:n≤9223372036854775807):Con PP 88 [.sc (.int .i64 n)] [] [] (fun r o=>r=.sc (.string (dec n))):=by
 by_cases hz:n=0
 ·subst hz
  refine cof 31 Go.Proofs.Tryz.func88 fun G=>?_
  simp only[entSt,tmOf,List.append_nil,List.cons_append,List.nil_append]
  refine go (L:=_∧True) wb0 wb0 wb0 wb0 wb0 ⟨fun _=>?_,wb0⟩
  all_goals (try rfl)
  all_goals (rw[show dec 0=⟨#[48]⟩ from by simp[dec,itoa,decDigits]])
 have hdiv:∀m out,DecI n m out→IntKind.i64.wrap (m.tdiv 10)=m.tdiv 10:=fun m out hI=>by
  have:=hI.le
  have h2:(m.tdiv 10).natAbs=m.natAbs / 10:=by rw[Int.natAbs_tdiv];rfl
  rcases Int.le_total 0 n with h|h
  ·have:=hI.pos h
   have:=Int.tdiv_nonneg this (show (0:Int)≤10 by omega)
   exact wrap64 (by omega) (by omega)
  ·exact wrap64 (by omega) (by omega)
 refine cof 31 Go.Proofs.Tryz.func88 fun G=>?_
 simp only[entSt,tmOf,List.append_nil,List.cons_append,List.nil_append]
 refine go (L:=_∧True) (wa1 @hz) wb0 wb0 wb0 wb0 ⟨fun _=>?_,wb0⟩
 refine WPc.loopK (σ:=Int×ByteArray) (fun x=>DecI n x.1 x.2) (fun x=>x.1.natAbs) (fun x=>[(0,.sc (.int .i64 x.1)),(3,.sc (.string x.2))]) [4] (n,⟨#[]⟩) (by simp) (by simp) (⟨by simp[ddig,hz],by simp,by simp;omega,by simp,by simp[ByteArray.size]⟩) ?_
 rintro⟨m,out⟩ hI s hs
 simp at hs
 subst hs
 have hs:=hI.sz
 dsimp only at hs hI
 by_cases hm:m=0
 ·subst hm
  have s1:SAdd ⟨#[45]⟩ out:=by unfold SAdd;have:(⟨#[45]⟩:ByteArray).size=1:=rfl;omega
  have he:=hI.eq
  simp only[ddig,if_true,List.nil_append]at he
  have hd:dec n=if n<0 then ⟨#[45]⟩++out else out:=by
   unfold dec itoa
   split
   ·rw[he];exact ba_ext (by simp)
   ·rw[show n.toNat=n.natAbs by omega,he]
  rw[hd]
  refine go (L:=_∧_∧True) (wa1 @s1) wb0 wb0 wb0 wb0 ⟨fun _ hq=>?_,fun _ hq=>?_,wb0⟩
  ·rw[if_pos (by simpa using hq)]
  ·rw[if_neg (by simpa using hq)]
 ·have s1:∀c:Int,SAdd (strOfNums [c]) out:=fun c=>by unfold SAdd;rw[strOfNums_size];simp;omega
  have hb:=digit_byte m
  have hn:=hI.next (by omega) hm
  have hmm:(m.tdiv 10).natAbs<m.natAbs:=by rw[Int.natAbs_tdiv];show m.natAbs / 10<_;omega
  refine go (L:=_∧_∧True) (wa2 @hm @s1) wb0 wb0 wb0 wb0 ⟨fun _ hq=>?_,fun _ hq=>?_,wb0⟩
  all_goals (first|(have g:m.tmod 10<0:=(by simpa using hq);rw[if_pos g]at hb)|(have g:¬m.tmod 10<0:=(by simpa using hq);rw[if_neg g]at hb))
  all_goals
   refine⟨(m.tdiv 10,nextD m out),⟨hn,by first|omega|(simp only;omega)|assumption⟩,rfl,rfl,?_,?_⟩<;>simp (disch:=omega) [wrap64,nextD,hb,hdiv _ _ hI]
theorem bt_get{s:ByteArray}{i:Nat}(h:i<s.size):∃c,s.data.toList[i]?=some c∧bt s i=(c.toNat:Int):=by
 refine⟨s[i],?_,?_⟩
 ·have:i<s.data.toList.length:=by simpa using h
  rw[List.getElem?_eq_getElem this];rfl
 ·unfold bt
  simp only[Int.toNat_natCast]
  rw[dif_pos h]
theorem isDigB_bt{c:UInt8}:isDigB c=(decide (48≤(c.toNat:Int))&&decide ((c.toNat:Int)≤57)):=by
 unfold isDigB
 congr 1<;>exact decide_eq_decide.2 (by omega)
theorem len_list(s:ByteArray):s.data.toList.length=s.size:=Array.length_toList
theorem c_spec_ReadDec(s:ByteArray)(h1:s.size≤9223372036854775807):Con PP 259 [.sc (.string s)] [] [] (fun r o=>r=.tup [.sc (.int .i64 ((rd s).getD 0)),.sc (.bool (rd s).isSome)]):=by
 refine cof 61 Go.Proofs.Tryz.func259 fun G=>?_
 simp only[entSt,tmOf,List.append_nil,List.cons_append,List.nil_append]
 refine go (L:=_∧True) wb0 wb0 wb0 wb0 wb0 ⟨fun _=>?_,wb0⟩
 refine WPc.loopK (σ:=Nat) (fun i=>i≤s.size∧i≤11) (fun i=>11-i) (fun i=>[(4,.sc (.int .i64 (foldD 0 (s.data.toList.take i):Nat))),(5,.sc (.int .i64 (cntD (s.data.toList.take i):Nat))),(6,.sc (.int .i64 i))]) [0] 0 (by simp[foldD,cntD]) (by simp[foldD,cntD]) (by simp) ?_
 rintro i ⟨hi,hi2⟩ s hs
 simp at hs
 subst hs
 have hf:=foldD_lt (s.data.toList.take i)
 have hc:cntD (s.data.toList.take i)≤(s.data.toList.take i).length:=List.countP_le_length
 have hl:(s.data.toList.take i).length≤i:=List.length_take_le _ _
 have hp:10 ^ (s.data.toList.take i).length≤10 ^ i:=Nat.pow_le_pow_right (by omega) hl
 have hp2:10 ^ i≤10 ^ 11:=Nat.pow_le_pow_right (by omega) hi2
 by_cases hlt:i<s.size∧i<11
 ·obtain⟨hlt,hlt2⟩:=hlt
  obtain⟨c,hg,hb⟩:=bt_get hlt
  have hcn:=c.toNat_lt
  have e1:=foldD_snoc hg
  have e2:=cntD_snoc hg
  have hd:isDigB c=(decide (48≤(c.toNat:Int))&&decide ((c.toNat:Int)≤57)):=isDigB_bt
  have hp3:10 ^ i≤10 ^ 10:=Nat.pow_le_pow_right (by omega) (by omega)
  have hw:48≤(c.toNat:Int)→IntKind.i64.wrap (IntKind.i64.wrap ((foldD 0 (s.data.toList.take i):Nat)*10)+IntKind.i64.wrap (IntKind.u8.wrap (c.toNat-48)))=((foldD 0 (s.data.toList.take i)*10+(c.toNat-48):Nat):Int):=fun h=>by
   rw[IntKind.wrap_u8,Int.emod_eq_of_lt (by omega) (by omega),wrap64 (x:=_*10) (by omega) (by omega),wrap64 (x:=_-48) (by omega) (by omega),wrap64 (by omega) (by omega)]
   omega
  have hw2:IntKind.i64.wrap ((cntD (s.data.toList.take i):Nat)+1)=((cntD (s.data.toList.take i)+1:Nat):Int):=wrap64 (by omega) (by omega)
  have hw3:IntKind.i64.wrap ((i:Int)+1)=((i+1:Nat):Int):=wrap64 (by omega) (by omega)
  by_cases h48:48≤(c.toNat:Int)
  ·by_cases h57:(c.toNat:Int)≤57
   ·have hdt:isDigB c=true:=by rw[hd];simp[h48,h57]
    rw[if_pos hdt]at e1 e2
    repeat' (first
     |apply WPc.sq
     |apply WPc.block
     |apply WPc.skip
     |(refine WPc.rq tok rfl fun K hK=>?_;simp -implicitDefEqProofs +contextual [-Int.not_le,-Int.not_lt,-Nat.not_le,-Nat.not_lt,-List.all_eq_true,-List.all_eq_false,-List.any_eq_true,-List.any_eq_false,hlt,hb,h48,h57,show (i:Int)<11 by omega];(repeat1' (first|apply hK|apply And.intro|intro _))<;>clear hK K<;>(try dsimp only[List.drop]))
     |(refine WPc.condT ?_ ?_;(focus(simp;done))))
    refine⟨i+1,⟨⟨by omega,by omega⟩,by omega⟩,rfl,rfl,?_,?_⟩
    ·simp only[FitT,List.cons_append,List.nil_append,lk_cons,pick_cons,pick_nil,hw h48,hw2,hw3,e1,e2]
     simp
    ·simp
   ·have hdt:isDigB c=false:=by rw[hd];simp[h57]
    rw[hdt]at e1 e2
    simp only[Bool.false_eq_true,if_false]at e1 e2
    repeat' (first
     |apply WPc.sq
     |apply WPc.block
     |apply WPc.skip
     |(refine WPc.rq tok rfl fun K hK=>?_;simp -implicitDefEqProofs +contextual [-Int.not_le,-Int.not_lt,-Nat.not_le,-Nat.not_lt,-List.all_eq_true,-List.all_eq_false,-List.any_eq_true,-List.any_eq_false,hlt,hb,h48,h57,show (i:Int)<11 by omega];(repeat1' (first|apply hK|apply And.intro|intro _))<;>clear hK K<;>(try dsimp only[List.drop]))
     |(refine WPc.condT ?_ ?_;(focus(simp;done)))
     |(refine WPc.condF ?_ ?_;(focus(simp;done))))
    refine⟨i+1,⟨⟨by omega,by omega⟩,by omega⟩,rfl,rfl,?_,?_⟩
    ·simp only[FitT,List.cons_append,List.nil_append,lk_cons,pick_cons,pick_nil,hw3,e1,e2]
     simp
    ·simp
  ·have hdt:isDigB c=false:=by rw[hd];simp[h48]
   rw[hdt]at e1 e2
   simp only[Bool.false_eq_true,if_false]at e1 e2
   repeat' (first
    |apply WPc.sq
    |apply WPc.block
    |apply WPc.skip
    |(refine WPc.rq tok rfl fun K hK=>?_;simp -implicitDefEqProofs +contextual [-Int.not_le,-Int.not_lt,-Nat.not_le,-Nat.not_lt,-List.all_eq_true,-List.all_eq_false,-List.any_eq_true,-List.any_eq_false,hlt,hb,h48,show (i:Int)<11 by omega];(repeat1' (first|apply hK|apply And.intro|intro _))<;>clear hK K<;>(try dsimp only[List.drop]))
    |(refine WPc.condT ?_ ?_;(focus(simp;done)))
    |(refine WPc.condF ?_ ?_;(focus(simp;done))))
   refine⟨i+1,⟨⟨by omega,by omega⟩,by omega⟩,rfl,rfl,?_,?_⟩
   ·simp only[FitT,List.cons_append,List.nil_append,lk_cons,pick_cons,pick_nil,hw3,e1,e2]
    simp
   ·simp
 ·have hneg:IntKind.i64.wrap (-((foldD 0 (s.data.toList.take i):Nat):Int)) = -((foldD 0 (s.data.toList.take i):Nat):Int):=wrap64 (by omega) (by omega)
  have hh:s.data.toList.head?=some 45↔0<s.size∧bt s 0=45:=by
   constructor
   ·intro h
    have h0:0<s.size:=by
     rw[←len_list];cases hs:s.data.toList with
     |nil=>rw[hs]at h;simp at h
     |cons=>simp
    obtain⟨c,hg,hb⟩:=bt_get h0
    rw[List.head?_eq_getElem?,hg]at h
    injection h with h
    subst h
    exact⟨h0,hb⟩
   ·rintro⟨h0,hb0⟩
    obtain⟨c,hg,hb⟩:=bt_get h0
    rw[List.head?_eq_getElem?,hg]
    simp only[Int.natCast_zero]at hb
    rw[hb0]at hb
    congr 1
    apply UInt8.toNat_inj.1
    show c.toNat=45
    omega
  have hall:s.size≤10→s.data.toList.take i=s.data.toList:=fun h=>List.take_of_length_le (by rw[len_list];omega)
  have hdv:decVal s.data.toList=if s.data.toList.head?=some 45 then -(foldD 0 s.data.toList:Int) else foldD 0 s.data.toList:=rfl
  have key:∀v:Int,(s.size≤10→v=decVal s.data.toList)→rd s=if cntD (s.data.toList.take i)≤9∧s.size≤10∧dec v=s then some v else none:=fun v hv=>by
   split
   ·rename_i h
    obtain⟨g1,g2,g3⟩:=h
    rw[hall g2]at g1
    rw[hv g2]at g3 ⊢
    exact readDec_spec (by rw[len_list];omega) g1 (dec_ne.1 g3)
   ·rename_i h
    refine readDec_spec_no fun ⟨g1,g2,g3⟩=>h ?_
    rw[len_list]at g1
    exact⟨by rw[hall g1];exact g2,g1,by rw[hv g1];exact dec_ne.2 g3⟩
  have hnot:¬((i:Int)<s.size∧(i:Int)<11):=by omega
  by_cases hmin:0<s.size∧bt s 0=45
  ·have hk:=key (-((foldD 0 (s.data.toList.take i):Nat):Int)) (fun h=>by rw[hall h,hdv,if_pos (hh.2 hmin)])
   rw[hk]
   refine go (L:=_∧_∧_∧_∧_∧_∧_∧_∧True) (wa3 @hmin.1 @hmin.2 @hneg) (wb1 (fun v0 (h:_∧_)=>c_spec_Dec v0 h.1 h.2)) wb0 wb0 wb0 ⟨fun _ _ _ _ hq hq=>?_,fun _ _ _ _ hq hq=>?_,fun _ _ _ _ hq=>?_,fun _ _ _ hq=>?_,fun _ _ _ _ hq=>?_,fun _ _ _ _ hq=>?_,fun _ _ _ _=>?_,fun _ _ _=>?_,wb0⟩
   all_goals (first|(rw[if_pos ⟨by omega,by omega,by simp_all⟩];rfl)|(rw[if_neg (by intro ⟨g1,g2,g3⟩;first|omega|simp_all)];rfl))
  ·have hk:=key ((foldD 0 (s.data.toList.take i):Nat):Int) (fun h=>by rw[hall h,hdv,if_neg (fun e=>hmin (hh.1 e))])
   rw[hk]
   by_cases h0:0<s.size
   ·have hb0:¬bt s 0=45:=fun e=>hmin ⟨h0,e⟩
    refine go (L:=_∧_∧_∧_∧_∧_∧_∧_∧True) (wa2 @h0 @hb0) (wb1 (fun v0 (h:_∧_)=>c_spec_Dec v0 h.1 h.2)) wb0 wb0 wb0 ⟨fun _ _ _ _ hq hq=>?_,fun _ _ _ _ hq hq=>?_,fun _ _ _ _ hq=>?_,fun _ _ _ hq=>?_,fun _ _ _ _ hq=>?_,fun _ _ _ _ hq=>?_,fun _ _ _ _=>?_,fun _ _ _=>?_,wb0⟩
    all_goals (first|(rw[if_pos ⟨by omega,by omega,by simp_all⟩];rfl)|(rw[if_neg (by intro ⟨g1,g2,g3⟩;first|omega|simp_all)];rfl))
   ·refine go (L:=_∧_∧_∧_∧True) (wa1 @h0) (wb1 (fun v0 (h:_∧_)=>c_spec_Dec v0 h.1 h.2)) wb0 wb0 wb0 ⟨fun _ _ _ _ hq=>?_,fun _ _ _ _ hq=>?_,fun _ _ _ _=>?_,fun _ _ _=>?_,wb0⟩
    all_goals (first|(rw[if_pos ⟨by omega,by omega,by simp_all⟩];rfl)|(rw[if_neg (by intro ⟨g1,g2,g3⟩;first|omega|simp_all)];rfl))
def allB(p:Int→Bool)(s:ByteArray):Bool:=(List.range s.size).all fun i=>p (bt s i)
def sym(s:ByteArray):Bool:=allB isSym s&&inRange s.size 1 16 && !isDigit (bt s 0) && !(rd s).isSome
theorem c_impl_symOk[F:Facts.Of](s:ByteArray)(h1:s.size≤281474976710656):Con PP 226 [.sc (.string s)] [] [] (fun r o=>r=.sc (.bool (sym s))):=by
 refine cof 38 Go.Proofs.Tryz.func226 fun G=>?_
 simp only[entSt,tmOf,List.append_nil,List.cons_append,List.nil_append]
 refine go (L:=_∧True) wb0 wb0 wb0 wb0 wb0 ⟨fun _=>?_,wb0⟩
 refine WPc.loopK (σ:=Nat) (fun i=>i≤s.size∧((List.range s.size).take i).all (fun i=>isSym (bt s i))=true) (fun i=>s.size-i) (fun i=>[(3,.sc (.int .i64 i))]) [0] 0 (by simp) (by simp) (by simp) ?_
 rintro i ⟨hi,hall⟩ s hs
 simp at hs
 subst hs
 by_cases hlt:i<s.size
 ·have hv:(List.range s.size)[i]?=some i:=List.getElem?_range hlt
  refine go (L:=_∧_∧True) (wa1 @hlt) (wb1 (fun v0 (h:_∧_)=>c_impl_isSymByte v0 h.1 h.2)) wb0 wb0 wb0 ⟨fun _ hq=>?_,fun _ hq=>?_,wb0⟩
  ·have:allB isSym s=false:=all_at hv (by simp_all)
   simp[sym,this]
  all_goals
   refine⟨i+1,⟨⟨by omega,all_next hv (by simp_all) hall⟩,by first|omega|(simp only;omega)|assumption⟩,rfl,rfl,?_,?_⟩<;>simp (disch:=omega) [wrap64]
 ·rw[List.take_of_length_le (by simp;omega)]at hall
  have ha:allB isSym s=true:=hall
  by_cases hr:inRange s.size 1 16=true
  ·have h0:0<s.size:=by simp[inRange]at hr;omega
   refine go (L:=_∧_∧_∧True) (wa3 @hlt @hr @h0) (wb2 (fun v0 v1 v2 (_:True)=>c_impl_inRange v0 v1 v2) (fun v0 (h:_)=>c_impl_ReadDec v0 h)) wb0 wb0 wb0 ⟨fun _ _ hq=>?_,fun _ _ hq=>?_,fun _ _=>?_,wb0⟩
   all_goals (simp_all[sym,isDigit])
  ·refine go (L:=_∧True) (wa2 @hlt @hr) (wb1 (fun v0 v1 v2 (_:True)=>c_impl_inRange v0 v1 v2)) wb0 wb0 wb0 ⟨fun _=>?_,wb0⟩
   all_goals (simp_all[sym])
theorem c_spec_l2Sym(s:ByteArray)(h1:s.size≤9223372036854775807):Con PP 195 [.sc (.string s)] [] [] (fun r o=>r=.sc (.bool (sym s))):=by
 by_cases hr:inRange s.size 1 16=true
 ·have h0:0<s.size:=by simp[inRange]at hr;omega
  refine cof 33 Go.Proofs.Tryz.func195 fun G=>?_
  simp only[entSt,tmOf,List.append_nil,List.cons_append,List.nil_append]
  refine go (L:=_∧_∧True) (wa2 @hr @h0) (wb2 (fun v0 v1 v2 (_:True)=>c_spec_l1In v0 v1 v2) (fun v0 (_:True)=>c_spec_l2Digit v0)) wb0 wb0 wb0 ⟨fun _ hq=>?_,fun _ hq=>?_,wb0⟩
  ·simp_all[sym]
  refine WPc.loopK (σ:=Nat) (fun i=>i≤s.size∧((List.range s.size).take i).all (fun i=>isSym (bt s i))=true) (fun i=>s.size-i) (fun i=>[(3,.sc (.int .i64 i))]) [0] 0 (by simp) (by simp) (by simp) ?_
  rintro i ⟨hi,hall⟩ s hs
  simp at hs
  subst hs
  by_cases hlt:i<s.size
  ·have hv:(List.range s.size)[i]?=some i:=List.getElem?_range hlt
   refine go (L:=_∧_∧True) (wa1 @hlt) (wb1 (fun v0 (h:_∧_)=>c_spec_l2Sign v0 h.1 h.2)) wb0 wb0 wb0 ⟨fun _ hq=>?_,fun _ hq=>?_,wb0⟩
   ·have:allB isSym s=false:=all_at hv (by simp_all)
    simp[sym,this]
   all_goals
    refine⟨i+1,⟨⟨by omega,all_next hv (by simp_all) hall⟩,by first|omega|(simp only;omega)|assumption⟩,rfl,rfl,?_,?_⟩<;>simp (disch:=omega) [wrap64]
  ·rw[List.take_of_length_le (by simp;omega)]at hall
   have ha:allB isSym s=true:=hall
   refine go (L:=_∧True) (wa1 @hlt) (wb1 (fun v0 (h:_)=>c_spec_ReadDec v0 h)) wb0 wb0 wb0 ⟨fun _=>?_,wb0⟩
   all_goals (simp_all[sym])
 ·refine cof 33 Go.Proofs.Tryz.func195 fun G=>?_
  simp only[entSt,tmOf,List.append_nil,List.cons_append,List.nil_append]
  refine go (L:=_∧True) (wa1 @hr) (wb1 (fun v0 v1 v2 (_:True)=>c_spec_l1In v0 v1 v2)) wb0 wb0 wb0 ⟨fun _=>?_,wb0⟩
  all_goals simp_all[sym]
def isName(s:ByteArray):Bool:=decide (s=⟨#[37,116]⟩)||sym s && !isW wWord s&&decide (arity s<0)
theorem c_impl_IsName[F:Facts.Of](s:ByteArray)(h1:s.size<4294967000):Con PP 214 [.sc (.string s)] [] [] (fun r o=>r=.sc (.bool (isName s))):=by
 refine cof 17 Go.Proofs.Tryz.func214 fun G=>?_
 simp only[entSt,tmOf,List.append_nil,List.cons_append,List.nil_append]
 refine go (L:=_∧_∧_∧_∧True) wb0 (wb3 (fun v0 (h:_)=>c_impl_symOk v0 h) (fun v0 v1 (h:_∧_)=>c_impl_isOneOf v0 v1 h.1 h.2) (fun v0 (h:_)=>c_impl_Arity v0 h)) wb0 wb0 wb0 ⟨fun _ hq=>?_,fun _ _ _ hq=>?_,fun _ _ _ hq=>?_,fun _ _ hq=>?_,wb0⟩
 all_goals (simp_all[isName];try(intros;omega))
theorem c_spec_IsName(s:ByteArray)(h1:s.size<4294967000):Con PP 118 [.sc (.string s)] [] [] (fun r o=>r=.sc (.bool (isName s))):=by
 refine cof 19 Go.Proofs.Tryz.func118 fun G=>?_
 simp only[entSt,tmOf,List.append_nil,List.cons_append,List.nil_append]
 refine go (L:=_∧_∧_∧_∧True) wb0 (wb3 (fun v0 (h:_)=>c_spec_l2Sym v0 h) (fun v0 (_:True)=>c_spec_l3Word v0) (fun v0 (_:True)=>c_spec_Arity v0)) wb0 wb0 wb0 ⟨fun _ _ _ _=>?_,fun _ _ _ _=>?_,fun _ _ _=>?_,fun _ _=>?_,wb0⟩
 all_goals (simp_all[isName];try(intros;omega))
end Go.Own
set_option maxRecDepth 1000000
set_option maxHeartbeats 4000000
namespace Go.Own
attribute [local irreducible] WPc WPL WPS HAny endP
variable [Laid]
open Go.Lib Go.RowKit
structure Cl where
 k:Int
 s:ByteArray
 a:Int
 b:Int
 names:List ByteArray
 vals:List V
 deriving DecidableEq
def Cl.cs(c:Cl):List C:=[.sc (.int .i64 c.k),.sc (.string c.s),.sc (.int .i64 c.a),.sc (.int .i64 c.b),.fz (c.names.map sC),.fz (c.vals.map V.cs)]
def Cl.av(c:Cl):AV:=.agg [.sc (.int .i64 c.k),.sc (.string c.s),.sc (.int .i64 c.a),.sc (.int .i64 c.b),.fz (c.names.map sC),.fz (c.vals.map V.cs)]
@[simp] theorem V.len(c:V):c.cs.length=3:=rfl
@[simp] theorem V.frz(c:V):c.cs.map Own.frz=c.cs:=rfl
@[simp] theorem V.pln(c:V):c.cs.all plainC=true:=rfl
@[simp] theorem V.lenA(l:List V):lenAll 3 (l.map V.cs)=true:=lenAll_map V.len l
@[simp] theorem V.frzA(l:List V):frzAll (l.map V.cs)=l.map V.cs:=frzAll_map V.frz l
@[simp] theorem V.plnA(l:List V):plainAll (l.map V.cs)=true:=plainAll_map V.pln l
@[simp] theorem sC.len(c:ByteArray):(sC c).length=1:=rfl
@[simp] theorem sC.frz(c:ByteArray):(sC c).map Own.frz=sC c:=rfl
@[simp] theorem sC.pln(c:ByteArray):(sC c).all plainC=true:=rfl
@[simp] theorem sC.lenA(l:List ByteArray):lenAll 1 (l.map sC)=true:=lenAll_map sC.len l
@[simp] theorem sC.frzA(l:List ByteArray):frzAll (l.map sC)=l.map sC:=frzAll_map sC.frz l
@[simp] theorem sC.plnA(l:List ByteArray):plainAll (l.map sC)=true:=plainAll_map sC.pln l
@[simp] theorem Cl.len(c:Cl):c.cs.length=6:=rfl
@[simp] theorem Cl.frz(c:Cl):c.cs.map Own.frz=c.cs:=rfl
@[simp] theorem Cl.pln(c:Cl):c.cs.all plainC=true:=rfl
@[simp] theorem Cl.lenA(l:List Cl):lenAll 6 (l.map Cl.cs)=true:=lenAll_map Cl.len l
@[simp] theorem Cl.frzA(l:List Cl):frzAll (l.map Cl.cs)=l.map Cl.cs:=frzAll_map Cl.frz l
@[simp] theorem Cl.plnA(l:List Cl):plainAll (l.map Cl.cs)=true:=plainAll_map Cl.pln l
def V.sm(v:V):Prop:=v.s.size<4294967000
structure Cl.sm(c:Cl):Prop where
 s:c.s.size<4294967000
 names:∀x,x∈c.names→x.size<4294967000
 vals:∀v,v∈c.vals→v.sm
def cellAt(h:List Cl)(n kind:Int):Bool:=decide (0≤n)&&(match h[n.toNat]? with
 |some c=>decide (c.k=kind)
 |none=>false)
def valueOk(h:List Cl)(v:V):Bool :=
 if v.k=4 then decide (v.n=0)&&sym v.s
 else decide (v.s=zs)&&(if v.k=1 then inRange v.n (-1000000) 1000000 else if v.k=2 then inRange v.n 0 1 else if v.k=3 then decide (v.n=0)
  else decide (cellKind v.k≠0)&&cellAt h v.n (cellKind v.k))
theorem c_spec_l6Points(v:V):Con PP 202 [v.av] [] [] (fun r o=>r=.sc (.bool (inRange v.k 5 7))):=by
 refine cof 6 Go.Proofs.Tryz.func202 fun G=>?_
 simp only[entSt,tmOf,List.append_nil,List.cons_append,List.nil_append,V.av]
 refine go (L:=_∧True) wb0 (wb1 (fun v0 v1 v2 (_:True)=>c_spec_l1In v0 v1 v2)) wb0 wb0 wb0 ⟨fun _=>?_,wb0⟩
 all_goals rfl
theorem c_spec_l6Cell(h:List Cl)(n kind:Int):Con PP 201 [.fz (h.map Cl.cs),.sc (.int .i64 n),.sc (.int .i64 kind)] [] [] (fun r o=>r=.sc (.bool (cellAt h n kind))):=by
 by_cases h0:0≤n
 ·by_cases hlt:n.toNat<h.length
  ·have g1:n<(h.length:Int):=by omega
   refine cof 24 Go.Proofs.Tryz.func201 fun G=>?_
   simp only[entSt,tmOf,List.append_nil,List.cons_append,List.nil_append]
   refine go (L:=_∧True) (wa4 @h0 @g1 @Cl.cs.eq_1 @hlt) wb0 wb0 wb0 wb0 ⟨fun _=>?_,wb0⟩
   all_goals simp_all[cellAt]
  ·have g1:¬n<(h.length:Int):=by omega
   have g2:h[n.toNat]?=none:=by simp;omega
   refine cof 24 Go.Proofs.Tryz.func201 fun G=>?_
   simp only[entSt,tmOf,List.append_nil,List.cons_append,List.nil_append]
   refine go (L:=_∧True) (wa2 @h0 @g1) wb0 wb0 wb0 wb0 ⟨fun _=>?_,wb0⟩
   all_goals simp_all[cellAt]
 ·have g:cellAt h n kind=false:=by simp[cellAt,h0]
  rw[g]
  refine cof 24 Go.Proofs.Tryz.func201 fun G=>?_
  simp only[entSt,tmOf,List.append_nil,List.cons_append,List.nil_append]
  refine go (L:=_∧True) (wa1 @h0) wb0 wb0 wb0 wb0 ⟨fun _=>?_,wb0⟩
  all_goals rfl
theorem c_spec_ValueOk(h:List Cl)(v:V)(hs:v.sm):Con PP 130 [.fz (h.map Cl.cs),v.av] [] [] (fun r o=>r=.sc (.bool (valueOk h v))):=by
 unfold V.sm at hs
 refine cof 58 Go.Proofs.Tryz.func130 fun G=>?_
 simp only[entSt,tmOf,List.append_nil,List.cons_append,List.nil_append,V.av]
 refine go (L:=_∧_∧_∧_∧_∧_∧_∧_∧_∧_∧True) wb0 (wb3 (fun v0 v1 v2 (_:True)=>c_spec_l1In v0 v1 v2) (fun v0 (h:_)=>c_spec_l2Sym v0 h) (fun v0 v1 v2 (_:True)=>c_spec_l6Cell v0 v1 v2)) wb0 wb0 wb0 ⟨fun _ _ hq=>?_,fun _ _ hq hq=>?_,fun _ _ hq hq hq=>?_,fun _ _ hq hq hq hq=>?_,fun _ _ hq hq hq hq hq hq=>?_,fun _ _ hq hq hq hq hq hq hq=>?_,fun _ _ hq hq hq hq hq hq hq hq=>?_,fun _ _ hq hq hq hq hq hq hq hq=>?_,fun _ _ _=>?_,fun _ _ _=>?_,wb0⟩
 all_goals simp_all[valueOk,cellKind]
theorem c_impl_ValueOk[F:Facts.Of](h:List Cl)(v:V)(hs:v.sm):Con PP 147 [.fz (h.map Cl.cs),v.av] [] [] (fun r o=>r=.sc (.bool (valueOk h v))):=by
 unfold V.sm at hs
 refine Con.lenOf 0 Go.Proofs.Tryz.func147 (by kernel_rfl) (by kernel_rfl) rfl fun hlen=>?_
 simp at hlen
 have hw:IntKind.i64.wrap ((h.length:Int)-1)=h.length-1:=wrap64 (by omega) (by omega)
 by_cases hin:inRange v.n 0 (h.length-1)=true
 ·have h0:0≤v.n∧v.n.toNat<h.length:=by simp[inRange]at hin;omega
  obtain⟨h0,h1⟩:=h0
  refine cof 74 Go.Proofs.Tryz.func147 fun G=>?_
  simp only[entSt,tmOf,List.append_nil,List.cons_append,List.nil_append,V.av]
  repeat' (first
   |apply WPc.sq
   |apply WPc.block
   |(refine WPc.ret (endP.val (.inr rfl) rfl rfl (by simp;rfl) ?_))
   |apply WPc.skip
   |refine WPL.nil ?_
   |(apply WPL.cL (c_impl_inRange _ _ _);(case q=>(repeat' (first|refine And.intro ?_ ?_|intro _|(with_reducible exact cleanOut_nil)|(refine Eqv.mk ?_;first|rfl|(simp -implicitDefEqProofs [hw,hin,h0,h1,Cl.cs];done))|(simp -implicitDefEqProofs [hw,hin,h0,h1,Cl.cs];done)|(simp -implicitDefEqProofs [hw,hin,h0,h1,Cl.cs];rfl)|(simp;done)|(simp;rfl)|rfl))))
   |(apply WPL.cL (c_impl_symOk _ ?g1);(case q=>(repeat' (first|refine And.intro ?_ ?_|intro _|(with_reducible exact cleanOut_nil)|(refine Eqv.mk ?_;first|rfl|(simp -implicitDefEqProofs [hw,hin,h0,h1,Cl.cs];done))|(simp -implicitDefEqProofs [hw,hin,h0,h1,Cl.cs];done)|(simp -implicitDefEqProofs [hw,hin,h0,h1,Cl.cs];rfl)|(simp;done)|(simp;rfl)|rfl)));(case g1=>(first|assumption|omega)))
   |(apply WPS.cL (hc:=(c_impl_inRange _ _ _));(case ho=>exact rfl);(case q=>(repeat' (first|refine And.intro ?_ ?_|intro _|(with_reducible exact cleanOut_nil)|(refine Eqv.mk ?_;first|rfl|(simp -implicitDefEqProofs [hw,hin,h0,h1,Cl.cs];done))|(simp -implicitDefEqProofs [hw,hin,h0,h1,Cl.cs];done)|(simp -implicitDefEqProofs [hw,hin,h0,h1,Cl.cs];rfl)|(simp;done)|(simp;rfl)|rfl))))
   |(apply WPS.cL (hc:=(c_impl_cellKind _));(case ho=>exact rfl);(case q=>(repeat' (first|refine And.intro ?_ ?_|intro _|(with_reducible exact cleanOut_nil)|(refine Eqv.mk ?_;first|rfl|(simp -implicitDefEqProofs [hw,hin,h0,h1,Cl.cs];done))|(simp -implicitDefEqProofs [hw,hin,h0,h1,Cl.cs];done)|(simp -implicitDefEqProofs [hw,hin,h0,h1,Cl.cs];rfl)|(simp;done)|(simp;rfl)|rfl))))
   |(apply WPS.callf (ho:=rfl);(case hg=>(simp;done));(case hd=>(simp;done)))
   |(refine WPL.call0f ?_ ?_ ?_;(focus(simp;done));(focus(simp;done)))
   |((first|refine WPc.rq tok rfl fun K hK=>?_|refine WPL.rn tok _ (by simp[ahead,isFn];rfl) fun K hK=>?_|refine WPS.rn tok _ (by simp[aheadS];rfl) fun K hK=>?_);simp -implicitDefEqProofs +contextual [-Int.not_le,-Int.not_lt,-Nat.not_le,-Nat.not_lt,-List.all_eq_true,-List.all_eq_false,-List.any_eq_true,-List.any_eq_false,hw,hin,h0,h1,Cl.cs];(repeat1' (first|apply hK|apply And.intro|intro _))<;>clear hK K<;>(try dsimp only[List.drop]))
   |(refine WPc.sched (id:=13) tok [] [(0,[]),(1,[]),(2,[]),(3,[]),(4,[]),(5,[]),(6,[]),(7,[]),(8,[]),(9,[]),(10,[]),(11,[]),(12,[]),(13,[]),(14,[]),(15,[]),(16,[]),(17,[]),(18,[]),(19,[]),(20,[]),(21,[]),(22,[]),(23,[])] (by kernel_rfl) ?_)
   |(refine WPS.nil ?_)
   |(refine WPc.region ?_;simp only[List.toList_toArray])
   |(refine WPc.condT ?_ ?_;(focus(simp;done)))
   |(refine WPc.cond (by simp[-Bool.not_eq_eq_eq_not];rfl) (fun hq=>?_) (fun hq=>?_)<;>simp only[hq]<;>(try(exfalso;(simp only[decide_eq_true_eq,decide_eq_false_iff_not]at hq);omega))))
  all_goals simp_all[valueOk,cellKind,cellAt]
 ·have h0:cellAt h v.n (cellKind v.k)=false:=by
   unfold cellAt
   by_cases g:0≤v.n
   ·have:h[v.n.toNat]?=none:=by simp[inRange]at hin;simp;omega
    rw[this];simp
   ·simp[g]
  refine cof 74 Go.Proofs.Tryz.func147 fun G=>?_
  simp only[entSt,tmOf,List.append_nil,List.cons_append,List.nil_append,V.av]
  repeat' (first
   |apply WPc.sq
   |apply WPc.block
   |(refine WPc.ret (endP.val (.inr rfl) rfl rfl (by simp;rfl) ?_))
   |apply WPc.skip
   |refine WPL.nil ?_
   |(apply WPL.cL (c_impl_inRange _ _ _);(case q=>(repeat' (first|refine And.intro ?_ ?_|intro _|(with_reducible exact cleanOut_nil)|(refine Eqv.mk ?_;first|rfl|(simp -implicitDefEqProofs [hw,hin];done))|(simp -implicitDefEqProofs [hw,hin];done)|(simp -implicitDefEqProofs [hw,hin];rfl)|(simp;done)|(simp;rfl)|rfl))))
   |(apply WPL.cL (c_impl_symOk _ ?g1);(case q=>(repeat' (first|refine And.intro ?_ ?_|intro _|(with_reducible exact cleanOut_nil)|(refine Eqv.mk ?_;first|rfl|(simp -implicitDefEqProofs [hw,hin];done))|(simp -implicitDefEqProofs [hw,hin];done)|(simp -implicitDefEqProofs [hw,hin];rfl)|(simp;done)|(simp;rfl)|rfl)));(case g1=>(first|assumption|omega)))
   |(apply WPS.cL (hc:=(c_impl_inRange _ _ _));(case ho=>exact rfl);(case q=>(repeat' (first|refine And.intro ?_ ?_|intro _|(with_reducible exact cleanOut_nil)|(refine Eqv.mk ?_;first|rfl|(simp -implicitDefEqProofs [hw,hin];done))|(simp -implicitDefEqProofs [hw,hin];done)|(simp -implicitDefEqProofs [hw,hin];rfl)|(simp;done)|(simp;rfl)|rfl))))
   |(apply WPS.callf (ho:=rfl);(case hg=>(simp;done));(case hd=>(simp;done)))
   |(refine WPL.call0f ?_ ?_ ?_;(focus(simp;done));(focus(simp;done)))
   |((first|refine WPc.rq tok rfl fun K hK=>?_|refine WPL.rn tok _ (by simp[ahead,isFn];rfl) fun K hK=>?_|refine WPS.rn tok _ (by simp[aheadS];rfl) fun K hK=>?_);simp -implicitDefEqProofs +contextual [-Int.not_le,-Int.not_lt,-Nat.not_le,-Nat.not_lt,-List.all_eq_true,-List.all_eq_false,-List.any_eq_true,-List.any_eq_false,hw,hin];(repeat1' (first|apply hK|apply And.intro|intro _))<;>clear hK K<;>(try dsimp only[List.drop]))
   |(refine WPc.sched (id:=13) tok [] [(0,[]),(1,[]),(2,[]),(3,[]),(4,[]),(5,[]),(6,[]),(7,[]),(8,[]),(9,[]),(10,[]),(11,[]),(12,[]),(13,[]),(14,[]),(15,[]),(16,[]),(17,[]),(18,[]),(19,[]),(20,[]),(21,[]),(22,[]),(23,[])] (by kernel_rfl) ?_)
   |(refine WPS.nil ?_)
   |(refine WPc.region ?_;simp only[List.toList_toArray])
   |(refine WPc.condT ?_ ?_;(focus(simp;done)))
   |(refine WPc.cond (by simp[-Bool.not_eq_eq_eq_not];rfl) (fun hq=>?_) (fun hq=>?_)<;>simp only[hq]<;>(try(exfalso;(simp only[decide_eq_true_eq,decide_eq_false_iff_not]at hq);omega))))
  all_goals simp_all[valueOk,cellKind]
end Go.Own
set_option maxRecDepth 1000000
set_option maxHeartbeats 4000000
namespace Go.Own
attribute [local irreducible] WPc WPL WPS HAny endP
variable [Laid]
open Go.Lib Go.RowKit
def Cl.ow(c:Cl):List C:=[.sc (.int .i64 c.k),.sc (.string c.s),.sc (.int .i64 c.a),.sc (.int .i64 c.b),.sl 9 1 (c.names.map sC),.sl 115 3 (c.vals.map V.cs)]
def heapR(h:List Cl):Root:=(132,6,h.map Cl.ow)
structure Cl.rm(c:Cl):Prop where
 names:c.names.length≤1000000000
 vals:c.vals.length≤1000000000
def mixed(h:List Cl)(i:Nat):List (List C):=(h.take i).map Cl.ow++(h.drop i).map Cl.cs
end Go.Own
set_option maxRecDepth 1000000
set_option maxHeartbeats 4000000
namespace Go.Own
attribute [local irreducible] WPc WPL WPS HAny endP
variable [Laid]
open Go.Lib Go.RowKit
def noV:V:=⟨0,0,zs⟩
end Go.Own
set_option maxRecDepth 1000000
set_option maxHeartbeats 4000000
namespace Go.Own
attribute [local irreducible] WPc WPL WPS HAny endP
variable [Laid]
open Go.Lib Go.RowKit
end Go.Own
set_option maxRecDepth 1000000
set_option maxHeartbeats 4000000
namespace Go.Own
attribute [local irreducible] WPc WPL WPS HAny endP
variable [Laid]
open Go.Lib Go.RowKit
theorem dz_sC(l:List ByteArray):dzLL (l.map sC)=l.map sC:=by
 rw[dzLL_map,List.map_map];rfl
theorem dz_V(l:List V):dzLL (l.map V.cs)=l.map V.cs:=by
 rw[dzLL_map,List.map_map];rfl
@[simp] theorem dz_ow(h:List Cl):dzLL (h.map Cl.ow)=h.map Cl.cs:=by
 rw[dzLL_map,List.map_map]
 refine List.map_congr_left fun c _=>?_
 simp[Cl.ow,Cl.cs,dzL,deepFz,dz_sC,dz_V]
@[simp] theorem dz_ow1(h:List Cl):dzLL (List.take h.length (h.map Cl.ow))=h.map Cl.cs:=by
 rw[List.take_of_length_le (by simp),dz_ow]
end Go.Own
set_option maxRecDepth 1000000
set_option maxHeartbeats 4000000
namespace Go.Own
attribute [local irreducible] WPc WPL WPS HAny endP
variable [Laid]
open Go.Lib Go.RowKit
theorem c_impl_valuesOk[F:Facts.Of](h:List Cl)(vs:List V)(hs:∀v,v∈vs→v.sm):Con PP 212 [.fz (h.map Cl.cs),.fz (vs.map V.cs)] [] [] (fun r o=>r=.sc (.bool (vs.all (valueOk h)))):=by
 refine Con.lenOf 1 Go.Proofs.Tryz.func212 (by kernel_rfl) (by kernel_rfl) rfl fun hlen=>?_
 simp at hlen
 refine cof 18 Go.Proofs.Tryz.func212 fun G=>?_
 simp only[entSt,tmOf,List.append_nil,List.cons_append,List.nil_append]
 refine go (L:=_∧True) wb0 wb0 wb0 wb0 wb0 ⟨fun _=>?_,wb0⟩
 refine WPc.loopK (σ:=Nat) (fun i=>i≤vs.length∧(vs.take i).all (valueOk h)=true) (fun i=>vs.length-i) (fun i=>[(9,.sc (.int .i64 i))]) [0,7,8] 0 (by simp) (by simp) (by simp) ?_
 rintro i ⟨hi,hall⟩ s hs
 simp at hs
 subst hs
 by_cases hlt:i<vs.length
 ·have hv:=List.getElem?_eq_getElem hlt
  have hs1:=hs _ (List.getElem_mem hlt)
  refine go (L:=_∧_∧True) (wa2 @V.cs.eq_1 @hlt) (wb1 (fun v0 v1 v2 v3 (h:_)=>c_impl_ValueOk v0 ⟨v1,v2,v3⟩ h)) wb0 wb0 wb0 ⟨fun _ hq=>?_,fun _ hq=>?_,wb0⟩
  ·rw[all_at hv (by simp_all)]
  all_goals
   refine⟨i+1,⟨⟨by omega,all_next hv (by simp_all) hall⟩,by first|omega|(simp only;omega)|assumption⟩,rfl,rfl,?_,?_⟩<;>simp (disch:=omega) [wrap64]
 ·refine go (L:=_∧True) (wa1 @hlt) wb0 wb0 wb0 wb0 ⟨fun _=>?_,wb0⟩
  rw[←hall,List.take_of_length_le (by omega)]
theorem c_impl_allNames[F:Facts.Of](vs:List ByteArray)(hs:∀v,v∈vs→v.size<4294967000):Con PP 222 [.fz (vs.map sC)] [] [] (fun r o=>r=.sc (.bool (vs.all isName))):=by
 refine Con.lenOf 0 Go.Proofs.Tryz.func222 (by kernel_rfl) (by kernel_rfl) rfl fun hlen=>?_
 simp at hlen
 refine cof 15 Go.Proofs.Tryz.func222 fun G=>?_
 simp only[entSt,tmOf,List.append_nil,List.cons_append,List.nil_append]
 refine go (L:=_∧True) wb0 wb0 wb0 wb0 wb0 ⟨fun _=>?_,wb0⟩
 refine WPc.loopK (σ:=Nat) (fun i=>i≤vs.length∧(vs.take i).all isName=true) (fun i=>vs.length-i) (fun i=>[(7,.sc (.int .i64 i))]) [5,6] 0 (by simp) (by simp) (by simp) ?_
 rintro i ⟨hi,hall⟩ s hs
 simp at hs
 subst hs
 by_cases hlt:i<vs.length
 ·have hv:=List.getElem?_eq_getElem hlt
  have hs1:=hs _ (List.getElem_mem hlt)
  refine go (L:=_∧_∧True) (wa2 @sC.eq_1 @hlt) (wb1 (fun v0 (h:_)=>c_impl_IsName v0 h)) wb0 wb0 wb0 ⟨fun _ hq=>?_,fun _ hq=>?_,wb0⟩
  ·rw[all_at hv (by simp_all)]
  all_goals
   refine⟨i+1,⟨⟨by omega,all_next hv (by simp_all) hall⟩,by first|omega|(simp only;omega)|assumption⟩,rfl,rfl,?_,?_⟩<;>simp (disch:=omega) [wrap64]
 ·refine go (L:=_∧True) (wa1 @hlt) wb0 wb0 wb0 wb0 ⟨fun _=>?_,wb0⟩
  rw[←hall,List.take_of_length_le (by omega)]
def cellOk(c:Cl):Bool :=
 if c.k=1 then decide (c.s=zs)&&decide (c.a=0)&&decide (c.b=0)&&decide (c.names=[])&&decide (c.vals.length=2)
 else if c.k=2 then decide (c.s=zs)&&decide (0≤c.a)&&decide (0≤c.b)&&c.names.all isName&&decide (c.vals.length=c.names.length)
 else if c.k=3 then decide (c.s≠zs)&&inRange c.a 0 1000&&decide (c.b=0)&&decide (c.names=[])&&decide (c.vals.length≤8)
 else false
theorem c_impl_cellOk[F:Facts.Of](c:Cl)(hs:c.sm):Con PP 211 [c.av] [] [] (fun r o=>r=.sc (.bool (cellOk c))):=by
 have h1:=hs.names
 cases hn:c.names.all isName
 all_goals
  refine cof 88 Go.Proofs.Tryz.func211 fun G=>?_
  simp only[entSt,tmOf,List.append_nil,List.cons_append,List.nil_append,Cl.av]
 ·repeat' (first
   |apply WPc.sq
   |apply WPc.block
   |(refine WPc.ret (endP.val (.inr rfl) rfl rfl (by simp;rfl) ?_))
   |apply WPc.skip
   |refine WPL.nil ?_
   |(apply WPL.cL (c_impl_allNames _ ?g1);(case q=>(repeat' (first|refine And.intro ?_ ?_|intro _|(with_reducible exact cleanOut_nil)|(refine Eqv.mk ?_;first|rfl|(simp -implicitDefEqProofs [hn];done))|(simp -implicitDefEqProofs [hn];done)|(simp -implicitDefEqProofs [hn];rfl)|(simp;done)|(simp;rfl)|rfl)));(case g1=>(first|assumption|(exact h1))))
   |(apply WPL.cL (c_impl_inRange _ _ _);(case q=>(repeat' (first|refine And.intro ?_ ?_|intro _|(with_reducible exact cleanOut_nil)|(refine Eqv.mk ?_;first|rfl|(simp -implicitDefEqProofs [hn];done))|(simp -implicitDefEqProofs [hn];done)|(simp -implicitDefEqProofs [hn];rfl)|(simp;done)|(simp;rfl)|rfl))))
   |(refine WPL.call0f ?_ ?_ ?_;(focus(simp;done));(focus(simp;done)))
   |((first|refine WPc.rq tok rfl fun K hK=>?_|refine WPL.rn tok _ (by simp[ahead,isFn];rfl) fun K hK=>?_);simp -implicitDefEqProofs +contextual [-Int.not_le,-Int.not_lt,-Nat.not_le,-Nat.not_lt,-List.all_eq_true,-List.all_eq_false,-List.any_eq_true,-List.any_eq_false,hn];(repeat1' (first|apply hK|apply And.intro|intro _))<;>clear hK K<;>(try dsimp only[List.drop]))
   |(refine WPc.region ?_;simp only[List.toList_toArray])
   |(refine WPc.cond (by simp[-Bool.not_eq_eq_eq_not];rfl) (fun hq=>?_) (fun hq=>?_)<;>simp only[hq]<;>(try(exfalso;(simp only[decide_eq_true_eq,decide_eq_false_iff_not]at hq);omega))))
  all_goals (simp_all[cellOk,-List.all_eq_true,-List.all_eq_false];try(intros;omega))
 ·repeat' (first
   |apply WPc.sq
   |apply WPc.block
   |(refine WPc.ret (endP.val (.inr rfl) rfl rfl (by simp;rfl) ?_))
   |apply WPc.skip
   |refine WPL.nil ?_
   |(apply WPL.cL (c_impl_allNames _ ?g1);(case q=>(repeat' (first|refine And.intro ?_ ?_|intro _|(with_reducible exact cleanOut_nil)|(refine Eqv.mk ?_;first|rfl|(simp -implicitDefEqProofs [hn];done))|(simp -implicitDefEqProofs [hn];done)|(simp -implicitDefEqProofs [hn];rfl)|(simp;done)|(simp;rfl)|rfl)));(case g1=>(first|assumption|(exact h1))))
   |(apply WPL.cL (c_impl_inRange _ _ _);(case q=>(repeat' (first|refine And.intro ?_ ?_|intro _|(with_reducible exact cleanOut_nil)|(refine Eqv.mk ?_;first|rfl|(simp -implicitDefEqProofs [hn];done))|(simp -implicitDefEqProofs [hn];done)|(simp -implicitDefEqProofs [hn];rfl)|(simp;done)|(simp;rfl)|rfl))))
   |(refine WPL.call0f ?_ ?_ ?_;(focus(simp;done));(focus(simp;done)))
   |((first|refine WPc.rq tok rfl fun K hK=>?_|refine WPL.rn tok _ (by simp[ahead,isFn];rfl) fun K hK=>?_);simp -implicitDefEqProofs +contextual [-Int.not_le,-Int.not_lt,-Nat.not_le,-Nat.not_lt,-List.all_eq_true,-List.all_eq_false,-List.any_eq_true,-List.any_eq_false,hn];(repeat1' (first|apply hK|apply And.intro|intro _))<;>clear hK K<;>(try dsimp only[List.drop]))
   |(refine WPc.region ?_;simp only[List.toList_toArray])
   |(refine WPc.cond (by simp[-Bool.not_eq_eq_eq_not];rfl) (fun hq=>?_) (fun hq=>?_)<;>simp only[hq]<;>(try(exfalso;(simp only[decide_eq_true_eq,decide_eq_false_iff_not]at hq);omega))))
  all_goals (simp_all[cellOk,-List.all_eq_true,-List.all_eq_false];try(intros;omega))
def okAt(h:List Cl)(i:Nat)(c:Cl):Bool:=cellOk c&&c.vals.all (valueOk h)&&(decide (c.k=3)||c.vals.all (isBelow i))
def okI(h:List Cl)(i:Nat):Bool:=match h[i]? with
 |some c=>okAt h i c
 |none=>true
def heapOk(h:List Cl):Bool:=decide (h.length≤300)&&(List.range h.length).all (okI h)
theorem heapOk_no{h:List Cl}{i:Nat}(hi:i<h.length)(ho:okI h i=false):heapOk h=false:=by
 have hv:(List.range h.length)[i]?=some i:=List.getElem?_range hi
 rw[heapOk,all_at hv ho,Bool.and_false]
theorem okI_eq{h:List Cl}{i:Nat}(hi:i<h.length):okI h i=okAt h i h[i]:=by simp[okI,hi]
theorem c_impl_HeapOk[F:Facts.Of](h:List Cl)(hs:∀c,c∈h→c.sm):Con PP 138 [.fz (h.map Cl.cs)] [] [] (fun r o=>r=.sc (.bool (heapOk h))):=by
 by_cases h300:h.length≤300
 ·refine cof 38 Go.Proofs.Tryz.func138 fun G=>?_
  simp only[entSt,tmOf,List.append_nil,List.cons_append,List.nil_append]
  refine go (L:=_∧True) (wa1 @h300) wb0 wb0 wb0 wb0 ⟨fun _ hq=>?_,wb0⟩
  refine WPc.loopK (σ:=Nat) (fun i=>i≤h.length∧((List.range h.length).take i).all (okI h)=true) (fun i=>h.length-i) (fun i=>[(10,.sc (.int .i64 i))]) [0,8,9] 0 (by simp) (by simp) (by simp) ?_
  rintro i ⟨hi,hall⟩ s hs
  simp at hs
  subst hs
  by_cases hlt:i<h.length
  ·have hv:(List.range h.length)[i]?=some i:=List.getElem?_range hlt
   have hs1:=hs _ (List.getElem_mem hlt)
   have hs2:=hs1.vals
   have ho:=okI_eq hlt
   obtain⟨p,g3⟩:∃p,(h[i].k=3)=p:=⟨_,rfl⟩
   have hp:p=True∨p=False:=Classical.propComplete p
   cases g1:cellOk h[i]<;>cases g2:h[i].vals.all (valueOk h)<;>rcases hp with rfl|rfl<;>cases g4:h[i].vals.all (isBelow i)
   all_goals
    all_goals refine go (L:=_∧True) (wa6 @Cl.cs.eq_1 @hlt @g1 @g2 @g3 @g4) (wb3 (fun v0 v1 v2 v3 v4 v5 (h:_)=>c_impl_cellOk ⟨v0,v1,v2,v3,v4,v5⟩ h) (fun v0 v1 (h:_)=>c_impl_valuesOk v0 v1 h) (fun v0 v1 (_:True)=>c_impl_areBelow v0 v1)) wb0 wb0 wb0 ⟨fun _=>?_,wb0⟩
   all_goals (simp only[okAt,g1,g2,g3,g4,Bool.and_true,Bool.and_false,Bool.true_and,Bool.false_and,Bool.or_true,Bool.or_false,Bool.true_or,Bool.false_or,decide_true,decide_false]at ho)
   all_goals (first
    |(rw[heapOk_no hlt ho];done)
    |(refine⟨i+1,⟨⟨hlt,all_next hv ho hall⟩,?_⟩,rfl,rfl,?_,?_⟩<;>(first|omega|(simp (disch:=omega) [wrap64];done))))
  ·refine go (L:=_∧True) (wa1 @hlt) wb0 wb0 wb0 wb0 ⟨fun _=>?_,wb0⟩
   rw[List.take_of_length_le (by simp;omega)]at hall
   simp[heapOk,hall,h300]
 ·have hno:heapOk h=false:=by simp[heapOk,h300]
  rw[hno]
  refine cof 38 Go.Proofs.Tryz.func138 fun G=>?_
  simp only[entSt,tmOf,List.append_nil,List.cons_append,List.nil_append]
  refine go (L:=_∧True) (wa1 @h300) wb0 wb0 wb0 wb0 ⟨fun _ hq=>?_,wb0⟩
  all_goals rfl
theorem isBelow_eq(i:Nat)(v:V):isBelow i v = !(inRange v.k 5 7&&decide ((i:Int)≤v.n)):=by
 unfold isBelow cellKind inRange
 by_cases h5:v.k=5
 ·simp[h5]
 ·by_cases h6:v.k=6
  ·simp[h6]
  ·by_cases h7:v.k=7
   ·simp[h7]
   ·simp only[h5,h6,h7,if_false]
    have:¬(5≤v.k∧v.k≤7):=by omega
    by_cases h1:5≤v.k<;>by_cases h2:v.k≤7<;>simp[h1,h2]<;>omega
def qAt(h:List Cl)(i:Nat)(c:Cl)(v:V):Bool:=valueOk h v&&(decide (c.k=3)||isBelow i v)
theorem all_and{α:Type}(p q:α→Bool):∀l:List α,(l.all fun x=>p x&&q x)=(l.all p&&l.all q)
 |[]=>rfl
 |x::xs=>by
  simp only[List.all_cons,all_and p q xs]
  cases p x<;>cases q x<;>cases xs.all p<;>cases xs.all q<;>rfl
theorem all_or{α:Type}(b:Bool)(q:α→Bool):∀l:List α,(l.all fun x=>b||q x)=(b||l.all q)
 |[]=>by simp
 |x::xs=>by
  simp only[List.all_cons,all_or b q xs]
  cases b<;>simp
theorem okAt_eq(h:List Cl)(i:Nat)(c:Cl):okAt h i c=(cellOk c&&c.vals.all (qAt h i c)):=by
 rw[okAt,show qAt h i c=fun v=>valueOk h v&&(decide (c.k=3)||isBelow i v) from rfl,all_and,all_or,Bool.and_assoc]
theorem okAt_no{h:List Cl}{i m:Nat}{c:Cl}{v:V}(hv:c.vals[m]?=some v)(hq:qAt h i c v=false):okAt h i c=false:=by
 rw[okAt_eq,all_at hv hq,Bool.and_false]
theorem c_spec_l6CellOk(h:List Cl)(i:Nat)(c:Cl)(hc:h[i]?=some c)(hs:c.sm):Con PP 191 [.fz (h.map Cl.cs),.sc (.int .i64 i)] [] [] (fun r o=>r=.sc (.bool (okAt h i c))):=by
 obtain⟨hlt,rfl⟩:=List.getElem?_eq_some_iff.1 hc
 have hs2:=hs.vals
 have hs3:=hs.names
 refine cof 144 Go.Proofs.Tryz.func191 fun G=>?_
 simp only[entSt,tmOf,List.append_nil,List.cons_append,List.nil_append]
 refine WPc.lenAt 0 (xs:=h.map Cl.cs) (by simp) (r:=h[i].cs) (j:=5) (ys:=h[i].vals.map V.cs) (List.mem_iff_getElem?.2 ⟨i,by simp[hlt]⟩) rfl fun hlen=>?_
 refine WPc.lenAt 0 (xs:=h.map Cl.cs) (by simp) (r:=h[i].cs) (j:=4) (ys:=h[i].names.map sC) (List.mem_iff_getElem?.2 ⟨i,by simp[hlt]⟩) rfl fun hlen2=>?_
 simp at hlen hlen2
 refine go (L:=_∧True) (wa2 @Cl.cs.eq_1 @hlt) wb0 wb0 wb0 wb0 ⟨fun _=>?_,wb0⟩
 refine WPc.loopK (σ:=Nat) (fun m=>m≤h[i].vals.length∧(h[i].vals.take m).all (qAt h i h[i])=true) (fun m=>h[i].vals.length-m) (fun m=>[(6,.sc (.int .i64 m))]) [0,1,5] 0 (by simp) (by simp) (by simp) ?_
 rintro m ⟨hm,hall⟩ s hs
 simp at hs
 subst hs
 by_cases hml:m<h[i].vals.length
 ·have hv:=List.getElem?_eq_getElem hml
  have hs1:=hs2 _ (List.getElem_mem hml)
  have hb:=isBelow_eq i h[i].vals[m]
  have hqd:qAt h i h[i] h[i].vals[m]=(valueOk h h[i].vals[m]&&(decide (h[i].k=3)||isBelow i h[i].vals[m])):=rfl
  obtain⟨p,g3⟩:∃p,(h[i].k=3)=p:=⟨_,rfl⟩
  have hp:p=True∨p=False:=Classical.propComplete p
  cases g1:valueOk h h[i].vals[m]<;>rcases hp with rfl|rfl<;>cases g4:inRange h[i].vals[m].k 5 7
  all_goals
   repeat' (first
    |apply WPc.sq
    |apply WPc.block
    |(refine WPc.ret (endP.val (.inr rfl) rfl rfl (by simp;rfl) ?_))
    |apply WPc.skip
    |refine WPL.nil ?_
    |(apply WPL.cL (c_spec_ValueOk _ ⟨_,_,_⟩ ?g1);(case q=>(repeat' (first|refine And.intro ?_ ?_|intro _|(with_reducible exact cleanOut_nil)|(refine Eqv.mk ?_;first|rfl|(simp -implicitDefEqProofs [Cl.cs,V.cs,hlt,hml,g1,g3,g4];done))|(simp -implicitDefEqProofs [Cl.cs,V.cs,hlt,hml,g1,g3,g4];done)|(simp -implicitDefEqProofs [Cl.cs,V.cs,hlt,hml,g1,g3,g4];rfl)|(simp;done)|(simp;rfl)|rfl)));(case g1=>(first|assumption|(exact hs1))))
    |(apply WPL.cL (c_spec_l6Points ⟨_,_,_⟩);(case q=>(repeat' (first|refine And.intro ?_ ?_|intro _|(with_reducible exact cleanOut_nil)|(refine Eqv.mk ?_;first|rfl|(simp -implicitDefEqProofs [Cl.cs,V.cs,hlt,hml,g1,g3,g4];done))|(simp -implicitDefEqProofs [Cl.cs,V.cs,hlt,hml,g1,g3,g4];done)|(simp -implicitDefEqProofs [Cl.cs,V.cs,hlt,hml,g1,g3,g4];rfl)|(simp;done)|(simp;rfl)|rfl))))
    |(refine WPL.call0f ?_ ?_ ?_;(focus(simp;done));(focus(simp;done)))
    |((first|refine WPc.rq tok rfl fun K hK=>?_|refine WPL.rn tok _ (by simp[ahead,isFn];rfl) fun K hK=>?_);simp -implicitDefEqProofs +contextual [-Int.not_le,-Int.not_lt,-Nat.not_le,-Nat.not_lt,-List.all_eq_true,-List.all_eq_false,-List.any_eq_true,-List.any_eq_false,Cl.cs,V.cs,hlt,hml,g1,g3,g4];(repeat1' (first|apply hK|apply And.intro|intro _))<;>clear hK K<;>(try dsimp only[List.drop]))
    |(refine WPc.region ?_;simp only[List.toList_toArray])
    |(refine WPc.condT ?_ ?_;(focus(simp;done)))
    |(refine WPc.condF ?_ ?_;(focus(simp;done)))
    |(refine WPc.cond (by simp[-Bool.not_eq_eq_eq_not];rfl) (fun hq=>?_) (fun hq=>?_)<;>simp only[hq]<;>(try(exfalso;(simp only[decide_eq_true_eq,decide_eq_false_iff_not]at hq);omega))))
  all_goals (simp only[g1,g3,g4,hb,Bool.and_true,Bool.and_false,Bool.true_and,Bool.false_and,Bool.or_true,Bool.or_false,Bool.true_or,Bool.false_or,decide_true,decide_false,Bool.not_false,Bool.not_true]at hqd)
  all_goals (try simp only[hq,Bool.not_false,Bool.not_true]at hqd)
  all_goals (first
   |(rw[okAt_no hv hqd];done)
   |(refine⟨m+1,⟨⟨hml,all_next hv hqd hall⟩,?_⟩,rfl,rfl,?_,?_⟩<;>(first|omega|(simp (disch:=omega) [wrap64];done))))
 ·rw[List.take_of_length_le (by omega)]at hall
  have hok:okAt h i h[i]=cellOk h[i]:=by rw[okAt_eq,hall,Bool.and_true]
  rw[hok]
  obtain⟨p1,g1⟩:∃p,(h[i].k=1)=p:=⟨_,rfl⟩
  obtain⟨p2,g2⟩:∃p,(h[i].k=2)=p:=⟨_,rfl⟩
  obtain⟨p3,g3⟩:∃p,(h[i].k=3)=p:=⟨_,rfl⟩
  have hp1:p1=True∨p1=False:=Classical.propComplete p1
  have hp2:p2=True∨p2=False:=Classical.propComplete p2
  have hp3:p3=True∨p3=False:=Classical.propComplete p3
  rcases hp1 with rfl|rfl
  ·refine go (L:=_∧_∧_∧_∧_∧True) (wa4 @Cl.cs.eq_1 @hlt @hml @g1) wb0 wb0 wb0 wb0 ⟨fun _ _ _ _ _=>?_,fun _ _ _ _ _=>?_,fun _ _ _ _=>?_,fun _ _ _=>?_,fun _ _=>?_,wb0⟩
   all_goals (unfold cellOk;simp_all)
   all_goals (first|omega|(intros;omega))
  ·rcases hp2 with rfl|rfl
   ·refine go (L:=_∧True) (wa5 @Cl.cs.eq_1 @hlt @hml @g1 @g2) wb0 wb0 wb0 wb0 ⟨fun _=>?_,wb0⟩
    refine WPc.loopK (σ:=Nat) (fun k=>k≤h[i].names.length∧(h[i].names.take k).all isName=true) (fun k=>h[i].names.length-k) (fun k=>[(7,.sc (.int .i64 k))]) [5] 0 (by simp) (by simp) (by simp) ?_
    rintro k ⟨hk,hnn⟩ s hs
    simp at hs
    subst hs
    by_cases hkl:k<h[i].names.length
    ·have hv:=List.getElem?_eq_getElem hkl
     have hs1:=hs3 _ (List.getElem_mem hkl)
     cases hnm:isName h[i].names[k]
     all_goals
      all_goals refine go (L:=_∧True) (wa3 @sC.eq_1 @hkl @hnm) (wb1 (fun v0 (h:_)=>c_spec_IsName v0 h)) wb0 wb0 wb0 ⟨fun _=>?_,wb0⟩
     ·unfold cellOk;rw[if_neg (by rw[g1];simp),if_pos (by rw[g2];trivial),all_at hv hnm];simp
     all_goals
      refine⟨k+1,⟨⟨hkl,all_next hv hnm hnn⟩,?_⟩,rfl,rfl,?_,?_⟩<;>(first|omega|(simp (disch:=omega) [wrap64];done))
    ·rw[List.take_of_length_le (by omega)]at hnn
     refine go (L:=_∧_∧_∧_∧True) (wa2 @Cl.cs.eq_1 @hkl) wb0 wb0 wb0 wb0 ⟨fun _ _ _ _=>?_,fun _ _ _ _=>?_,fun _ _ _=>?_,fun _ _=>?_,wb0⟩
     all_goals (unfold cellOk;rw[if_neg (by rw[g1];simp),if_pos (by rw[g2];trivial)];rw[hnn];simp_all)
     all_goals (first|omega|(intros;omega))
   ·rcases hp3 with rfl|rfl
    ·refine go (L:=_∧_∧_∧_∧_∧True) (wa6 @Cl.cs.eq_1 @hlt @hml @g1 @g2 @g3) (wb1 (fun v0 v1 v2 (_:True)=>c_spec_l1In v0 v1 v2)) wb0 wb0 wb0 ⟨fun _ _ _ _ _=>?_,fun _ _ _ _ _=>?_,fun _ _ _ _=>?_,fun _ _ _=>?_,fun _ _=>?_,wb0⟩
     all_goals (unfold cellOk;simp_all)
     all_goals (first|omega|(intros;omega))
    ·refine go (L:=_∧True) (wa6 @Cl.cs.eq_1 @hlt @hml @g1 @g2 @g3) wb0 wb0 wb0 wb0 ⟨fun _=>?_,wb0⟩
     all_goals (unfold cellOk;simp_all)
theorem c_spec_HeapOk(h:List Cl)(hs:∀c,c∈h→c.sm):Con PP 115 [.fz (h.map Cl.cs)] [] [] (fun r o=>r=.sc (.bool (heapOk h))):=by
 by_cases h300:h.length≤300
 ·refine cof 17 Go.Proofs.Tryz.func115 fun G=>?_
  simp only[entSt,tmOf,List.append_nil,List.cons_append,List.nil_append]
  refine go (L:=_∧True) (wa1 @h300) wb0 wb0 wb0 wb0 ⟨fun _ hq=>?_,wb0⟩
  refine WPc.loopK (σ:=Nat) (fun i=>i≤h.length∧((List.range h.length).take i).all (okI h)=true) (fun i=>h.length-i) (fun i=>[(3,.sc (.int .i64 i))]) [0] 0 (by simp) (by simp) (by simp) ?_
  rintro i ⟨hi,hall⟩ s hs
  simp at hs
  subst hs
  by_cases hlt:i<h.length
  ·have hv:(List.range h.length)[i]?=some i:=List.getElem?_range hlt
   have hs1:=hs _ (List.getElem_mem hlt)
   have hc:=List.getElem?_eq_getElem hlt
   have ho:=okI_eq hlt
   have kC:=c_spec_l6CellOk h i h[i] hc hs1
   cases g1:okAt h i h[i]
   all_goals
    rw[g1]at ho kC
    all_goals refine go (L:=_∧True) (wa2 @hlt @g1) (wb1 (fun _=>kC)) wb0 wb0 wb0 ⟨fun _=>?_,wb0⟩
   all_goals (first
    |(rw[heapOk_no hlt ho];done)
    |(refine⟨i+1,⟨⟨hlt,all_next hv ho hall⟩,?_⟩,rfl,rfl,?_,?_⟩<;>(first|omega|(simp (disch:=omega) [wrap64];done))))
  ·refine go (L:=_∧True) (wa1 @hlt) wb0 wb0 wb0 wb0 ⟨fun _=>?_,wb0⟩
   rw[List.take_of_length_le (by simp;omega)]at hall
   simp[heapOk,hall,h300]
 ·have hno:heapOk h=false:=by simp[heapOk,h300]
  rw[hno]
  refine cof 17 Go.Proofs.Tryz.func115 fun G=>?_
  simp only[entSt,tmOf,List.append_nil,List.cons_append,List.nil_append]
  refine go (L:=_∧True) (wa1 @h300) wb0 wb0 wb0 wb0 ⟨fun _ hq=>?_,wb0⟩
  all_goals rfl
end Go.Own
set_option maxRecDepth 1000000
set_option maxHeartbeats 4000000
namespace Go.Own
attribute [local irreducible] WPc WPL WPS HAny endP
variable [Laid]
open Go.Lib Go.RowKit
end Go.Own
set_option maxRecDepth 1000000
set_option maxHeartbeats 4000000
namespace Go.Own
attribute [local irreducible] WPc WPL WPS WPS1 WPS2 HAny endP
variable [Laid]
open Go.Lib Go.RowKit
end Go.Own
set_option maxRecDepth 1000000
set_option maxHeartbeats 4000000
namespace Go.Own
attribute [local irreducible] WPc WPL WPS WPS1 WPS2 HAny endP
variable [Laid]
open Go.Lib Go.RowKit
end Go.Own
set_option maxRecDepth 1000000
set_option maxHeartbeats 4000000
namespace Go.Own
attribute [local irreducible] WPc WPL WPS WPS1 WPS2 HAny endP
variable [Laid]
open Go.Lib Go.RowKit
def good(h:List Cl)(s:ByteArray)(a:List V):Bool:=plainP s&&decide ((a.length:Int)=arity s)&&heapOk h&&a.all (valueOk h)
def arg(a:List V)(i:Nat):V:=a[i]?.getD noV
end Go.Own
set_option maxRecDepth 1000000
set_option maxHeartbeats 4000000
namespace Go.Own
attribute [local irreducible] WPc WPL WPS WPS1 WPS2 HAny endP
variable [Laid]
open Go.Lib Go.RowKit
end Go.Own
set_option maxRecDepth 1000000
set_option maxHeartbeats 4000000
namespace Go.Own
attribute [local irreducible] WPc WPL WPS WPS1 WPS2 HAny endP
variable [Laid]
open Go.Lib Go.RowKit
attribute [simp] dz_V dz_sC
@[simp] theorem dz_V1(l:List V):dzLL (List.take l.length (l.map V.cs))=l.map V.cs:=by
 rw[List.take_of_length_le (by simp),dz_V]
@[simp] theorem dz_sC1(l:List ByteArray):dzLL (List.take l.length (l.map sC))=l.map sC:=by
 rw[List.take_of_length_le (by simp),dz_sC]
@[simp] theorem sc_sC(l:List ByteArray):scLL (l.map sC)=true:=by
 induction l with
 |nil=>rfl
 |cons x l ih=>simp only[List.map_cons,scLL,ih];rfl
@[simp] theorem sc_V(l:List V):scLL (l.map V.cs)=true:=by
 induction l with
 |nil=>rfl
 |cons x l ih=>simp only[List.map_cons,scLL,ih];rfl
@[simp] theorem sc_ow(l:List Cl):scLL (l.map Cl.ow)=true:=by
 induction l with
 |nil=>rfl
 |cons x l ih=>simp only[List.map_cons,scLL,ih,Cl.ow,scL,scC,sc_sC,sc_V];rfl
end Go.Own
