/- A part of the proof. -/
import Derived.Test.YtcadpamddlofjaaGreatDoorProg
import Derived.KernelRfl
import Derived.Test.YtcadpamddlofjaaGreatDoorPa06
import Derived.Laws.RangeAny
import Derived.Shelf.Lay
import Derived.Shelf.Strings.Search1
import Derived.WalkKit
set_option linter.unusedVariables false
set_option linter.unusedSimpArgs false
set_option maxRecDepth 100000
set_option maxHeartbeats 16000000
set_option linter.defProp false
section
namespace Go.Proofs.YtcadpamddlofjaaGreatDoor
open Go Go.Abs
@[simp]theorem D0:Dof Tryz.prog 0=some ⟨1,0,[.any],.tup [],.other,true⟩:=by kernel_rfl
@[simp]theorem D2:Dof Tryz.prog 2=some ⟨1,8,[.int .i64 0],.int .i64 0,.int .i64,true⟩:=by kernel_rfl
@[simp]theorem D3:Dof Tryz.prog 3=some ⟨1,8,[.int .i64 0],.int .i64 0,.int .i64,true⟩:=by kernel_rfl
@[simp]theorem D4:Dof Tryz.prog 4=some ⟨1,1,[.bool false],.bool false,.bool,true⟩:=by kernel_rfl
@[simp]theorem D5:Dof Tryz.prog 5=some ⟨1,1,[.int .u8 0],.int .u8 0,.int .u8,true⟩:=by kernel_rfl
@[simp]theorem D6:Dof Tryz.prog 6=some ⟨1,1,[.int .u8 0],.int .u8 0,.int .u8,true⟩:=by kernel_rfl
@[simp]theorem D7:Dof Tryz.prog 7=some ⟨4,24,[.int .i64 0,.int .i64 0,.bool false,.int .u8 0],.agg [.int .i64 0,.int .i64 0,.bool false,.int .u8 0],.st [(0,2),(1,3),(2,4),(3,6)],true⟩:=by kernel_rfl
@[simp]theorem D8:Dof Tryz.prog 8=some ⟨4,24,[.int .i64 0,.int .i64 0,.bool false,.int .u8 0],.agg [.int .i64 0,.int .i64 0,.bool false,.int .u8 0],.st [(0,2),(1,3),(2,4),(3,6)],true⟩:=by kernel_rfl
@[simp]theorem D9:Dof Tryz.prog 9=some ⟨1,16,[.str []],.str [],.str,true⟩:=by kernel_rfl
@[simp]theorem D10:Dof Tryz.prog 10=some ⟨1,16,[.str []],.str [],.str,true⟩:=by kernel_rfl
@[simp]theorem D11:Dof Tryz.prog 11=some ⟨1,16,[.str []],.str [],.str,true⟩:=by kernel_rfl
@[simp]theorem D12:Dof Tryz.prog 12=some ⟨1,8,[.int .u64 0],.int .u64 0,.int .u64,true⟩:=by kernel_rfl
@[simp]theorem D13:Dof Tryz.prog 13=some ⟨2,24,[.str [],.int .u64 0],.agg [.str [],.int .u64 0],.st [(0,9),(1,12)],false⟩:=by kernel_rfl
@[simp]theorem D14:Dof Tryz.prog 14=some ⟨2,24,[.str [],.int .u64 0],.agg [.str [],.int .u64 0],.st [(0,9),(1,12)],false⟩:=by kernel_rfl
@[simp]theorem D18:Dof Tryz.prog 18=some ⟨1,8,[.nilp],.agg [.nilp],.st [(0,17)],false⟩:=by kernel_rfl
@[simp]theorem D19:Dof Tryz.prog 19=some ⟨1,8,[.nilp],.agg [.nilp],.st [(0,17)],false⟩:=by kernel_rfl
@[simp]theorem D20:Dof Tryz.prog 20=some ⟨1,16,[.any],.any,.other,true⟩:=by kernel_rfl
@[simp]theorem D21:Dof Tryz.prog 21=some ⟨1,4,[.int .i32 0],.int .i32 0,.int .i32,true⟩:=by kernel_rfl
@[simp]theorem D22:Dof Tryz.prog 22=some ⟨1,24,[.sl 0 [] .nil],.sl 0 [] .nil,.sl 39,true⟩:=by kernel_rfl
@[simp]theorem D23:Dof Tryz.prog 23=some ⟨1,24,[.sl 0 [] .nil],.sl 0 [] .nil,.sl 66,true⟩:=by kernel_rfl
@[simp]theorem D24:Dof Tryz.prog 24=some ⟨1,24,[.sl 0 [] .nil],.sl 0 [] .nil,.sl 51,true⟩:=by kernel_rfl
@[simp]theorem D25:Dof Tryz.prog 25=some ⟨1,24,[.sl 0 [] .nil],.sl 0 [] .nil,.sl 41,true⟩:=by kernel_rfl
@[simp]theorem D26:Dof Tryz.prog 26=some ⟨5,120,[.sl 0 [] .nil,.sl 0 [] .nil,.sl 0 [] .nil,.sl 0 [] .nil,.sl 0 [] .nil],.agg [.sl 0 [] .nil,.sl 0 [] .nil,.sl 0 [] .nil,.sl 0 [] .nil,.sl 0 [] .nil],.st [(0,22),(1,23),(2,23),(3,24),(4,25)],true⟩:=by kernel_rfl
@[simp]theorem D27:Dof Tryz.prog 27=some ⟨5,120,[.sl 0 [] .nil,.sl 0 [] .nil,.sl 0 [] .nil,.sl 0 [] .nil,.sl 0 [] .nil],.agg [.sl 0 [] .nil,.sl 0 [] .nil,.sl 0 [] .nil,.sl 0 [] .nil,.sl 0 [] .nil],.st [(0,22),(1,23),(2,23),(3,24),(4,25)],true⟩:=by kernel_rfl
@[simp]theorem D28:Dof Tryz.prog 28=some ⟨1,8,[.int .u64 0],.int .u64 0,.int .u64,true⟩:=by kernel_rfl
@[simp]theorem D29:Dof Tryz.prog 29=some ⟨2,16,[.int .u64 0,.int .u64 0],.agg [.int .u64 0,.int .u64 0],.st [(0,28),(1,28)],true⟩:=by kernel_rfl
@[simp]theorem D30:Dof Tryz.prog 30=some ⟨2,16,[.int .u64 0,.int .u64 0],.agg [.int .u64 0,.int .u64 0],.st [(0,28),(1,28)],true⟩:=by kernel_rfl
@[simp]theorem D32:Dof Tryz.prog 32=some ⟨1,8,[.int .i64 0],.int .i64 0,.int .i64,true⟩:=by kernel_rfl
@[simp]theorem D35:Dof Tryz.prog 35=some ⟨1,24,[.sl 0 [] .nil],.agg [.sl 0 [] .nil],.st [(0,25)],true⟩:=by kernel_rfl
@[simp]theorem D36:Dof Tryz.prog 36=some ⟨1,24,[.sl 0 [] .nil],.agg [.sl 0 [] .nil],.st [(0,25)],true⟩:=by kernel_rfl
@[simp]theorem D38:Dof Tryz.prog 38=some ⟨4,40,[.str [],.int .i64 0,.int .i64 0,.int .i64 0],.agg [.str [],.int .i64 0,.int .i64 0,.int .i64 0],.st [(0,9),(1,3),(2,3),(3,3)],true⟩:=by kernel_rfl
@[simp]theorem D39:Dof Tryz.prog 39=some ⟨4,40,[.str [],.int .i64 0,.int .i64 0,.int .i64 0],.agg [.str [],.int .i64 0,.int .i64 0,.int .i64 0],.st [(0,9),(1,3),(2,3),(3,3)],true⟩:=by kernel_rfl
@[simp]theorem D40:Dof Tryz.prog 40=some ⟨1,8,[.int .u64 0],.int .u64 0,.int .u64,true⟩:=by kernel_rfl
@[simp]theorem D41:Dof Tryz.prog 41=some ⟨1,24,[.sl 0 [] .nil],.sl 0 [] .nil,.sl 3,true⟩:=by kernel_rfl
@[simp]theorem D42:Dof Tryz.prog 42=some ⟨1,0,[.any],.any,.other,true⟩:=by kernel_rfl
@[simp]theorem D44:Dof Tryz.prog 44=some ⟨1,0,[.any],.any,.other,true⟩:=by kernel_rfl
@[simp]theorem D49:Dof Tryz.prog 49=some ⟨1,24,[.sl 0 [] .nil],.sl 0 [] .nil,.sl 86,true⟩:=by kernel_rfl
@[simp]theorem D50:Dof Tryz.prog 50=some ⟨2,32,[.int .i64 0,.sl 0 [] .nil],.agg [.int .i64 0,.sl 0 [] .nil],.st [(0,3),(1,49)],true⟩:=by kernel_rfl
@[simp]theorem D51:Dof Tryz.prog 51=some ⟨2,32,[.int .i64 0,.sl 0 [] .nil],.agg [.int .i64 0,.sl 0 [] .nil],.st [(0,3),(1,49)],true⟩:=by kernel_rfl
@[simp]theorem D61:Dof Tryz.prog 61=some ⟨1,0,[.any],.any,.other,true⟩:=by kernel_rfl
@[simp]theorem D65:Dof Tryz.prog 65=some ⟨4,56,[.int .i64 0,.int .i64 0,.str [],.sl 0 [] .nil],.agg [.int .i64 0,.int .i64 0,.str [],.sl 0 [] .nil],.st [(0,3),(1,3),(2,9),(3,23)],true⟩:=by kernel_rfl
@[simp]theorem D66:Dof Tryz.prog 66=some ⟨4,56,[.int .i64 0,.int .i64 0,.str [],.sl 0 [] .nil],.agg [.int .i64 0,.int .i64 0,.str [],.sl 0 [] .nil],.st [(0,3),(1,3),(2,9),(3,23)],true⟩:=by kernel_rfl
@[simp]theorem D70:Dof Tryz.prog 70=some ⟨1,0,[.any],.any,.other,true⟩:=by kernel_rfl
@[simp]theorem D72:Dof Tryz.prog 72=some ⟨1,0,[.any],.any,.other,true⟩:=by kernel_rfl
@[simp]theorem D74:Dof Tryz.prog 74=some ⟨1,0,[.any],.any,.other,true⟩:=by kernel_rfl
@[simp]theorem D85:Dof Tryz.prog 85=some ⟨4,32,[.int .i64 0,.int .i64 0,.int .i64 0,.bool false],.agg [.int .i64 0,.int .i64 0,.int .i64 0,.bool false],.st [(0,3),(1,3),(2,3),(3,4)],true⟩:=by kernel_rfl
@[simp]theorem D86:Dof Tryz.prog 86=some ⟨4,32,[.int .i64 0,.int .i64 0,.int .i64 0,.bool false],.agg [.int .i64 0,.int .i64 0,.int .i64 0,.bool false],.st [(0,3),(1,3),(2,3),(3,4)],true⟩:=by kernel_rfl
@[simp]theorem D88:Dof Tryz.prog 88=some ⟨1,8,[.nilf],.nilf,.fn,true⟩:=by kernel_rfl
@[simp]theorem D90:Dof Tryz.prog 90=some ⟨1,0,[.any],.any,.other,true⟩:=by kernel_rfl
@[simp]theorem D98:Dof Tryz.prog 98=some ⟨1,8,[.nilf],.nilf,.fn,true⟩:=by kernel_rfl
@[simp]theorem D100:Dof Tryz.prog 100=some ⟨1,24,[.sl 0 [] .nil],.sl 0 [] .nil,.sl 175,true⟩:=by kernel_rfl
@[simp]theorem D101:Dof Tryz.prog 101=some ⟨1,24,[.sl 0 [] .nil],.agg [.sl 0 [] .nil],.st [(0,100)],true⟩:=by kernel_rfl
@[simp]theorem D102:Dof Tryz.prog 102=some ⟨1,24,[.sl 0 [] .nil],.agg [.sl 0 [] .nil],.st [(0,100)],true⟩:=by kernel_rfl
@[simp]theorem D103:Dof Tryz.prog 103=some ⟨11,216,[.sl 0 [] .nil,.sl 0 [] .nil,.sl 0 [] .nil,.sl 0 [] .nil,.sl 0 [] .nil,.sl 0 [] .nil,.sl 0 [] .nil,.sl 0 [] .nil,.int .i64 0,.bool false,.nilf],.agg [.sl 0 [] .nil,.sl 0 [] .nil,.sl 0 [] .nil,.sl 0 [] .nil,.sl 0 [] .nil,.sl 0 [] .nil,.sl 0 [] .nil,.sl 0 [] .nil,.int .i64 0,.bool false,.nilf],.st [(0,27),(5,23),(6,41),(7,102),(8,3),(9,4),(10,98)],true⟩:=by kernel_rfl
@[simp]theorem D104:Dof Tryz.prog 104=some ⟨11,216,[.sl 0 [] .nil,.sl 0 [] .nil,.sl 0 [] .nil,.sl 0 [] .nil,.sl 0 [] .nil,.sl 0 [] .nil,.sl 0 [] .nil,.sl 0 [] .nil,.int .i64 0,.bool false,.nilf],.agg [.sl 0 [] .nil,.sl 0 [] .nil,.sl 0 [] .nil,.sl 0 [] .nil,.sl 0 [] .nil,.sl 0 [] .nil,.sl 0 [] .nil,.sl 0 [] .nil,.int .i64 0,.bool false,.nilf],.st [(0,27),(5,23),(6,41),(7,102),(8,3),(9,4),(10,98)],true⟩:=by kernel_rfl
@[simp]theorem D105:Dof Tryz.prog 105=some ⟨1,0,[.any],.any,.other,true⟩:=by kernel_rfl
@[simp]theorem D111:Dof Tryz.prog 111=some ⟨1,8,[.nilp],.nilp,.ptr 30,true⟩:=by kernel_rfl
@[simp]theorem D113:Dof Tryz.prog 113=some ⟨1,8,[.nilm],.nilm,.map 3 3,true⟩:=by kernel_rfl
@[simp]theorem D118:Dof Tryz.prog 118=some ⟨1,24,[.sl 0 [] .nil],.sl 0 [] .nil,.sl 9,true⟩:=by kernel_rfl
@[simp]theorem D119:Dof Tryz.prog 119=some ⟨5,72,[.int .i64 0,.int .i64 0,.int .i64 0,.sl 0 [] .nil,.sl 0 [] .nil],.agg [.int .i64 0,.int .i64 0,.int .i64 0,.sl 0 [] .nil,.sl 0 [] .nil],.st [(0,3),(1,3),(2,32),(3,118),(4,118)],true⟩:=by kernel_rfl
@[simp]theorem D120:Dof Tryz.prog 120=some ⟨5,72,[.int .i64 0,.int .i64 0,.int .i64 0,.sl 0 [] .nil,.sl 0 [] .nil],.agg [.int .i64 0,.int .i64 0,.int .i64 0,.sl 0 [] .nil,.sl 0 [] .nil],.st [(0,3),(1,3),(2,32),(3,118),(4,118)],true⟩:=by kernel_rfl
@[simp]theorem D125:Dof Tryz.prog 125=some ⟨1,8,[.nilf],.nilf,.fn,true⟩:=by kernel_rfl
@[simp]theorem D127:Dof Tryz.prog 127=some ⟨1,24,[.sl 0 [] .nil],.sl 0 [] .nil,.sl 88,true⟩:=by kernel_rfl
@[simp]theorem D138:Dof Tryz.prog 138=some ⟨1,24,[.sl 0 [] .nil],.sl 0 [] .nil,.sl 4,true⟩:=by kernel_rfl
@[simp]theorem D141:Dof Tryz.prog 141=some ⟨1,24,[.sl 0 [] .nil],.sl 0 [] .nil,.sl 49,true⟩:=by kernel_rfl
@[simp]theorem D148:Dof Tryz.prog 148=some ⟨1,8,[.nilm],.nilm,.map 150 3,true⟩:=by kernel_rfl
@[simp]theorem D149:Dof Tryz.prog 149=some ⟨2,16,[.int .i64 0,.int .i64 0],.agg [.int .i64 0,.int .i64 0],.st [(0,3),(1,3)],true⟩:=by kernel_rfl
@[simp]theorem D150:Dof Tryz.prog 150=some ⟨2,16,[.int .i64 0,.int .i64 0],.agg [.int .i64 0,.int .i64 0],.st [(0,3),(1,3)],true⟩:=by kernel_rfl
@[simp]theorem D153:Dof Tryz.prog 153=some ⟨1,0,[.any],.any,.other,true⟩:=by kernel_rfl
@[simp]theorem D159:Dof Tryz.prog 159=some ⟨1,0,[.any],.any,.other,true⟩:=by kernel_rfl
@[simp]theorem D162:Dof Tryz.prog 162=some ⟨1,24,[.sl 0 [] .nil],.sl 0 [] .nil,.sl 23,true⟩:=by kernel_rfl
@[simp]theorem D174:Dof Tryz.prog 174=some ⟨3,24,[.int .i64 0,.int .i64 0,.int .i64 0],.agg [.int .i64 0,.int .i64 0,.int .i64 0],.st [(0,3),(1,3),(2,3)],true⟩:=by kernel_rfl
@[simp]theorem D175:Dof Tryz.prog 175=some ⟨3,24,[.int .i64 0,.int .i64 0,.int .i64 0],.agg [.int .i64 0,.int .i64 0,.int .i64 0],.st [(0,3),(1,3),(2,3)],true⟩:=by kernel_rfl
@[simp]theorem D176:Dof Tryz.prog 176=some ⟨1,8,[.nilp],.nilp,.ptr 186,true⟩:=by kernel_rfl
@[simp]theorem D177:Dof Tryz.prog 177=some ⟨1,0,[.any],.any,.other,true⟩:=by kernel_rfl
@[simp]theorem D181:Dof Tryz.prog 181=some ⟨16,128,[.int .i64 0,.int .i64 0,.int .i64 0,.int .i64 0,.int .i64 0,.int .i64 0,.int .i64 0,.int .i64 0,.int .i64 0,.int .i64 0,.int .i64 0,.int .i64 0,.int .i64 0,.int .i64 0,.int .i64 0,.int .i64 0],.agg [.int .i64 0,.int .i64 0,.int .i64 0,.int .i64 0,.int .i64 0,.int .i64 0,.int .i64 0,.int .i64 0,.int .i64 0,.int .i64 0,.int .i64 0,.int .i64 0,.int .i64 0,.int .i64 0,.int .i64 0,.int .i64 0],.arr 16 3,true⟩:=by kernel_rfl
@[simp]theorem D182:Dof Tryz.prog 182=some ⟨16,128,[.int .i64 0,.int .i64 0,.int .i64 0,.int .i64 0,.int .i64 0,.int .i64 0,.int .i64 0,.int .i64 0,.int .i64 0,.int .i64 0,.int .i64 0,.int .i64 0,.int .i64 0,.int .i64 0,.int .i64 0,.int .i64 0],.agg [.int .i64 0,.int .i64 0,.int .i64 0,.int .i64 0,.int .i64 0,.int .i64 0,.int .i64 0,.int .i64 0,.int .i64 0,.int .i64 0,.int .i64 0,.int .i64 0,.int .i64 0,.int .i64 0,.int .i64 0,.int .i64 0],.arr 16 3,true⟩:=by kernel_rfl
@[simp]theorem D184:Dof Tryz.prog 184=some ⟨1,8,[.nilm],.nilm,.map 9 3,true⟩:=by kernel_rfl
@[simp]theorem D185:Dof Tryz.prog 185=some ⟨8,176,[.sl 0 [] .nil,.sl 0 [] .nil,.sl 0 [] .nil,.sl 0 [] .nil,.sl 0 [] .nil,.sl 0 [] .nil,.sl 0 [] .nil,.nilm],.agg [.sl 0 [] .nil,.sl 0 [] .nil,.sl 0 [] .nil,.sl 0 [] .nil,.sl 0 [] .nil,.sl 0 [] .nil,.sl 0 [] .nil,.nilm],.st [(0,102),(1,27),(6,41),(7,184)],true⟩:=by kernel_rfl
@[simp]theorem D186:Dof Tryz.prog 186=some ⟨8,176,[.sl 0 [] .nil,.sl 0 [] .nil,.sl 0 [] .nil,.sl 0 [] .nil,.sl 0 [] .nil,.sl 0 [] .nil,.sl 0 [] .nil,.nilm],.agg [.sl 0 [] .nil,.sl 0 [] .nil,.sl 0 [] .nil,.sl 0 [] .nil,.sl 0 [] .nil,.sl 0 [] .nil,.sl 0 [] .nil,.nilm],.st [(0,102),(1,27),(6,41),(7,184)],true⟩:=by kernel_rfl
@[simp]theorem D188:Dof Tryz.prog 188=some ⟨3,24,[.int .i64 0,.int .i64 0,.int .i64 0],.agg [.int .i64 0,.int .i64 0,.int .i64 0],.st [(0,3),(1,3),(2,3)],true⟩:=by kernel_rfl
@[simp]theorem D189:Dof Tryz.prog 189=some ⟨3,24,[.int .i64 0,.int .i64 0,.int .i64 0],.agg [.int .i64 0,.int .i64 0,.int .i64 0],.st [(0,3),(1,3),(2,3)],true⟩:=by kernel_rfl
@[simp]theorem D190:Dof Tryz.prog 190=some ⟨1,8,[.nilf],.nilf,.fn,true⟩:=by kernel_rfl
@[simp]theorem D191:Dof Tryz.prog 191=some ⟨1,0,[.any],.any,.other,true⟩:=by kernel_rfl
@[simp]theorem D193:Dof Tryz.prog 193=some ⟨1,0,[.any],.any,.other,true⟩:=by kernel_rfl
@[simp]theorem D201:Dof Tryz.prog 201=some ⟨1,24,[.sl 0 [] .nil],.sl 0 [] .nil,.sl 5,true⟩:=by kernel_rfl
@[simp]theorem D204:Dof Tryz.prog 204=some ⟨1,0,[.any],.any,.other,true⟩:=by kernel_rfl
@[simp]theorem D206:Dof Tryz.prog 206=some ⟨1,0,[.any],.any,.other,true⟩:=by kernel_rfl
@[simp]theorem D208:Dof Tryz.prog 208=some ⟨9,184,[.sl 0 [] .nil,.sl 0 [] .nil,.sl 0 [] .nil,.sl 0 [] .nil,.sl 0 [] .nil,.sl 0 [] .nil,.sl 0 [] .nil,.bool false,.int .i64 0],.agg [.sl 0 [] .nil,.sl 0 [] .nil,.sl 0 [] .nil,.sl 0 [] .nil,.sl 0 [] .nil,.sl 0 [] .nil,.sl 0 [] .nil,.bool false,.int .i64 0],.st [(0,27),(5,23),(6,41),(7,4),(8,3)],true⟩:=by kernel_rfl
@[simp]theorem D209:Dof Tryz.prog 209=some ⟨9,184,[.sl 0 [] .nil,.sl 0 [] .nil,.sl 0 [] .nil,.sl 0 [] .nil,.sl 0 [] .nil,.sl 0 [] .nil,.sl 0 [] .nil,.bool false,.int .i64 0],.agg [.sl 0 [] .nil,.sl 0 [] .nil,.sl 0 [] .nil,.sl 0 [] .nil,.sl 0 [] .nil,.sl 0 [] .nil,.sl 0 [] .nil,.bool false,.int .i64 0],.st [(0,27),(5,23),(6,41),(7,4),(8,3)],true⟩:=by kernel_rfl
@[simp]theorem D212:Dof Tryz.prog 212=some ⟨1,24,[.sl 0 [] .nil],.sl 0 [] .nil,.sl 269,true⟩:=by kernel_rfl
@[simp]theorem D215:Dof Tryz.prog 215=some ⟨1,0,[.any],.any,.other,true⟩:=by kernel_rfl
@[simp]theorem D222:Dof Tryz.prog 222=some ⟨1,8,[.int .i64 0],.agg [.int .i64 0],.st [(0,32)],true⟩:=by kernel_rfl
@[simp]theorem D223:Dof Tryz.prog 223=some ⟨1,8,[.int .i64 0],.agg [.int .i64 0],.st [(0,32)],true⟩:=by kernel_rfl
@[simp]theorem D224:Dof Tryz.prog 224=some ⟨1,0,[.any],.any,.other,true⟩:=by kernel_rfl
@[simp]theorem D225:Dof Tryz.prog 225=some ⟨1,24,[.sl 0 [] .nil],.sl 0 [] .nil,.sl 182,true⟩:=by kernel_rfl
@[simp]theorem D235:Dof Tryz.prog 235=some ⟨1,8,[.nilp],.nilp,.ptr 285,true⟩:=by kernel_rfl
@[simp]theorem D237:Dof Tryz.prog 237=some ⟨1,8,[.nilm],.nilm,.map 189 3,true⟩:=by kernel_rfl
@[simp]theorem D238:Dof Tryz.prog 238=some ⟨3,24,[.nilp,.nilf,.nilm],.agg [.nilp,.nilf,.nilm],.st [(0,235),(1,190),(2,237)],true⟩:=by kernel_rfl
@[simp]theorem D239:Dof Tryz.prog 239=some ⟨3,24,[.nilp,.nilf,.nilm],.agg [.nilp,.nilf,.nilm],.st [(0,235),(1,190),(2,237)],true⟩:=by kernel_rfl
@[simp]theorem D245:Dof Tryz.prog 245=some ⟨1,8,[.int .i64 0],.int .i64 0,.int .i64,true⟩:=by kernel_rfl
@[simp]theorem D246:Dof Tryz.prog 246=some ⟨1,0,[.any],.any,.other,true⟩:=by kernel_rfl
@[simp]theorem D253:Dof Tryz.prog 253=some ⟨1,4,[.int .u32 0],.int .u32 0,.int .u32,true⟩:=by kernel_rfl
@[simp]theorem D258:Dof Tryz.prog 258=some ⟨1,0,[.any],.any,.other,true⟩:=by kernel_rfl
@[simp]theorem D262:Dof Tryz.prog 262=some ⟨1,24,[.sl 0 [] .nil],.sl 0 [] .nil,.sl 265,true⟩:=by kernel_rfl
@[simp]theorem D264:Dof Tryz.prog 264=some ⟨2,24,[.str [],.int .i64 0],.agg [.str [],.int .i64 0],.st [(0,9),(1,3)],true⟩:=by kernel_rfl
@[simp]theorem D265:Dof Tryz.prog 265=some ⟨2,24,[.str [],.int .i64 0],.agg [.str [],.int .i64 0],.st [(0,9),(1,3)],true⟩:=by kernel_rfl
@[simp]theorem D268:Dof Tryz.prog 268=some ⟨2,16,[.int .i64 0,.int .i64 0],.agg [.int .i64 0,.int .i64 0],.st [(0,3),(1,3)],true⟩:=by kernel_rfl
@[simp]theorem D269:Dof Tryz.prog 269=some ⟨2,16,[.int .i64 0,.int .i64 0],.agg [.int .i64 0,.int .i64 0],.st [(0,3),(1,3)],true⟩:=by kernel_rfl
@[simp]theorem D270:Dof Tryz.prog 270=some ⟨1,0,[.any],.any,.other,true⟩:=by kernel_rfl
@[simp]theorem D275:Dof Tryz.prog 275=some ⟨1,8,[.nilm],.nilm,.map 175 4,true⟩:=by kernel_rfl
@[simp]theorem D283:Dof Tryz.prog 283=some ⟨1,8,[.nilm],.nilm,.map 175 3,true⟩:=by kernel_rfl
@[simp]theorem D284:Dof Tryz.prog 284=some ⟨3,40,[.sl 0 [] .nil,.nilm,.bool false],.agg [.sl 0 [] .nil,.nilm,.bool false],.st [(0,100),(1,283),(2,4)],true⟩:=by kernel_rfl
@[simp]theorem D285:Dof Tryz.prog 285=some ⟨3,40,[.sl 0 [] .nil,.nilm,.bool false],.agg [.sl 0 [] .nil,.nilm,.bool false],.st [(0,100),(1,283),(2,4)],true⟩:=by kernel_rfl
@[simp]theorem D287:Dof Tryz.prog 287=some ⟨1,8,[.nilm],.nilm,.map 9 4,true⟩:=by kernel_rfl
@[simp]theorem D288:Dof Tryz.prog 288=some ⟨1,8,[.int .u64 0],.int .u64 0,.int .u64,true⟩:=by kernel_rfl
@[simp]theorem D296:Dof Tryz.prog 296=some ⟨1,24,[.sl 0 [] .nil],.agg [.sl 0 [] .nil],.st [(0,262)],true⟩:=by kernel_rfl
@[simp]theorem D297:Dof Tryz.prog 297=some ⟨1,24,[.sl 0 [] .nil],.agg [.sl 0 [] .nil],.st [(0,262)],true⟩:=by kernel_rfl
@[simp]theorem D300:Dof Tryz.prog 300=some ⟨1,0,[.any],.any,.other,true⟩:=by kernel_rfl
@[simp]theorem D302:Dof Tryz.prog 302=some ⟨1,0,[.any],.any,.other,true⟩:=by kernel_rfl
@[simp]theorem D304:Dof Tryz.prog 304=some ⟨24,24,[.int .u8 0,.int .u8 0,.int .u8 0,.int .u8 0,.int .u8 0,.int .u8 0,.int .u8 0,.int .u8 0,.int .u8 0,.int .u8 0,.int .u8 0,.int .u8 0,.int .u8 0,.int .u8 0,.int .u8 0,.int .u8 0,.int .u8 0,.int .u8 0,.int .u8 0,.int .u8 0,.int .u8 0,.int .u8 0,.int .u8 0,.int .u8 0],.agg [.int .u8 0,.int .u8 0,.int .u8 0,.int .u8 0,.int .u8 0,.int .u8 0,.int .u8 0,.int .u8 0,.int .u8 0,.int .u8 0,.int .u8 0,.int .u8 0,.int .u8 0,.int .u8 0,.int .u8 0,.int .u8 0,.int .u8 0,.int .u8 0,.int .u8 0,.int .u8 0,.int .u8 0,.int .u8 0,.int .u8 0,.int .u8 0],.arr 24 5,true⟩:=by kernel_rfl
@[simp]theorem D306:Dof Tryz.prog 306=some ⟨1,0,[.any],.any,.other,true⟩:=by kernel_rfl
@[simp]theorem D313:Dof Tryz.prog 313=some ⟨20,160,[.int .u64 0,.int .u64 0,.int .u64 0,.int .u64 0,.int .u64 0,.int .u64 0,.int .u64 0,.int .u64 0,.int .u64 0,.int .u64 0,.int .u64 0,.int .u64 0,.int .u64 0,.int .u64 0,.int .u64 0,.int .u64 0,.int .u64 0,.int .u64 0,.int .u64 0,.int .u64 0],.agg [.int .u64 0,.int .u64 0,.int .u64 0,.int .u64 0,.int .u64 0,.int .u64 0,.int .u64 0,.int .u64 0,.int .u64 0,.int .u64 0,.int .u64 0,.int .u64 0,.int .u64 0,.int .u64 0,.int .u64 0,.int .u64 0,.int .u64 0,.int .u64 0,.int .u64 0,.int .u64 0],.arr 20 28,true⟩:=by kernel_rfl
@[simp]theorem D315:Dof Tryz.prog 315=some ⟨1,2,[.int .u16 0],.int .u16 0,.int .u16,true⟩:=by kernel_rfl
@[simp]theorem D316:Dof Tryz.prog 316=some ⟨1,2,[.int .u16 0],.int .u16 0,.int .u16,true⟩:=by kernel_rfl
@[simp]theorem D321:Dof Tryz.prog 321=some ⟨32,32,[.int .u8 0,.int .u8 0,.int .u8 0,.int .u8 0,.int .u8 0,.int .u8 0,.int .u8 0,.int .u8 0,.int .u8 0,.int .u8 0,.int .u8 0,.int .u8 0,.int .u8 0,.int .u8 0,.int .u8 0,.int .u8 0,.int .u8 0,.int .u8 0,.int .u8 0,.int .u8 0,.int .u8 0,.int .u8 0,.int .u8 0,.int .u8 0,.int .u8 0,.int .u8 0,.int .u8 0,.int .u8 0,.int .u8 0,.int .u8 0,.int .u8 0,.int .u8 0],.agg [.int .u8 0,.int .u8 0,.int .u8 0,.int .u8 0,.int .u8 0,.int .u8 0,.int .u8 0,.int .u8 0,.int .u8 0,.int .u8 0,.int .u8 0,.int .u8 0,.int .u8 0,.int .u8 0,.int .u8 0,.int .u8 0,.int .u8 0,.int .u8 0,.int .u8 0,.int .u8 0,.int .u8 0,.int .u8 0,.int .u8 0,.int .u8 0,.int .u8 0,.int .u8 0,.int .u8 0,.int .u8 0,.int .u8 0,.int .u8 0,.int .u8 0,.int .u8 0],.arr 32 5,true⟩:=by kernel_rfl
@[simp]theorem D328:Dof Tryz.prog 328=some ⟨4,40,[.nilp,.nilp,.nilp,.str []],.agg [.nilp,.nilp,.nilp,.str []],.st [(0,17),(1,17),(2,17),(3,9)],false⟩:=by kernel_rfl
@[simp]theorem D329:Dof Tryz.prog 329=some ⟨4,40,[.nilp,.nilp,.nilp,.str []],.agg [.nilp,.nilp,.nilp,.str []],.st [(0,17),(1,17),(2,17),(3,9)],false⟩:=by kernel_rfl
@[simp]theorem D330:Dof Tryz.prog 330=some ⟨0,0,[],.agg [],.arr 0 16,true⟩:=by kernel_rfl
@[simp]theorem D331:Dof Tryz.prog 331=some ⟨0,0,[],.agg [],.other,false⟩:=by kernel_rfl
@[simp]theorem D332:Dof Tryz.prog 332=some ⟨0,0,[],.agg [],.other,false⟩:=by kernel_rfl
@[simp]theorem D333:Dof Tryz.prog 333=some ⟨1,1,[.int .u8 0],.int .u8 0,.int .u8,true⟩:=by kernel_rfl
@[simp]theorem D334:Dof Tryz.prog 334=some ⟨1,1,[.int .u8 0],.int .u8 0,.int .u8,true⟩:=by kernel_rfl
@[simp]theorem D337:Dof Tryz.prog 337=some ⟨1,4,[.int .i32 0],.int .i32 0,.int .i32,true⟩:=by kernel_rfl
@[simp]theorem D338:Dof Tryz.prog 338=some ⟨1,4,[.int .i32 0],.int .i32 0,.int .i32,true⟩:=by kernel_rfl
@[simp]theorem D339:Dof Tryz.prog 339=some ⟨11,48,[.int .u64 0,.int .u64 0,.int .u32 0,.int .u8 0,.int .u8 0,.int .u8 0,.int .u8 0,.nilf,.nilp,.int .i32 0,.int .i32 0],.agg [.int .u64 0,.int .u64 0,.int .u32 0,.int .u8 0,.int .u8 0,.int .u8 0,.int .u8 0,.nilf,.nilp,.int .i32 0,.int .i32 0],.st [(0,12),(1,12),(2,253),(3,333),(4,5),(5,5),(6,334),(7,335),(8,336),(9,337),(10,338)],false⟩:=by kernel_rfl
@[simp]theorem D340:Dof Tryz.prog 340=some ⟨11,48,[.int .u64 0,.int .u64 0,.int .u32 0,.int .u8 0,.int .u8 0,.int .u8 0,.int .u8 0,.nilf,.nilp,.int .i32 0,.int .i32 0],.agg [.int .u64 0,.int .u64 0,.int .u32 0,.int .u8 0,.int .u8 0,.int .u8 0,.int .u8 0,.nilf,.nilp,.int .i32 0,.int .i32 0],.st [(0,12),(1,12),(2,253),(3,333),(4,5),(5,5),(6,334),(7,335),(8,336),(9,337),(10,338)],false⟩:=by kernel_rfl
@[simp]theorem D341:Dof Tryz.prog 341=some ⟨1,8,[.nilp],.nilp,.other,true⟩:=by kernel_rfl
abbrev Str:=List UInt8
structure Var where
 name:Str
 width:Int
 mode:Int
 value:Int
structure Weight where
 lo:Int
 hi:Int
 weight:Int
 each:Bool
structure Dist where
 var:Int
 weights:List Weight
inductive Ex where
 | mk (op n:Int) (name:Str) (args:List Ex)
structure Problem where
 vars:List Var
 hard:List Ex
 soft:List Ex
 dists:List Dist
 groups:List (List Int)
structure Signal where
 name:Str
 value:Int
def Ex.op:Ex->Int | .mk o _ _ _=>o
def Ex.n:Ex->Int | .mk _ n _ _=>n
def Ex.name:Ex->Str | .mk _ _ s _=>s
def Ex.args:Ex->List Ex | .mk _ _ _ a=>a
@[simp]theorem Ex.op_mk {o n:Int}{s:Str}{a:List Ex}:(Ex.mk o n s a).op=o:=rfl
@[simp]theorem Ex.n_mk {o n:Int}{s:Str}{a:List Ex}:(Ex.mk o n s a).n=n:=rfl
@[simp]theorem Ex.name_mk {o n:Int}{s:Str}{a:List Ex}:(Ex.mk o n s a).name=s:=rfl
@[simp]theorem Ex.args_mk {o n:Int}{s:Str}{a:List Ex}:(Ex.mk o n s a).args=a:=rfl
@[simp]def qx (v:Var):List AV:=[.str v.name,.int .i64 v.width,.int .i64 v.mode,.int .i64 v.value]
@[simp]def qB (w:Weight):List AV:=[.int .i64 w.lo,.int .i64 w.hi,.int .i64 w.weight,.bool w.each]
@[simp]def zC (d:Dist):List AV:=[.int .i64 d.var,.sl 4 (d.weights.map qB) .none]
@[simp]def qu (n:Int):List AV:=[.int .i64 n]
@[simp]def z6 (s:Str):List AV:=[.str s]
@[simp]def zb (s:Signal):List AV:=[.str s.name,.int .i64 s.value]
mutual
def qt:Ex->List AV
 | .mk o n s a=>[.int .i64 o,.int .i64 n,.str s,.sl 4 (qfh a) .none]
def qfh:List Ex->List (List AV)
 | []=>[]
 | a::r=>qt a::qfh r
end
@[simp]theorem qk8:∀ l,qfh l=l.map qt
 | []=>rfl
 | a::r=>by simp[qfh,qk8 r]
theorem qd (e:Ex):qt e=[.int .i64 e.op,.int .i64 e.n,.str e.name,.sl 4 (e.args.map qt) .none]:=by cases e;simp[qt]
@[simp]def zB (l:List Int):List AV:=[.sl 1 (l.map qu) .none]
@[simp]def qL (p:Problem):List AV:=[.sl 4 (p.vars.map qx) .none,.sl 4 (p.hard.map qt) .none,.sl 4 (p.soft.map qt) .none,.sl 2 (p.dists.map zC) .none,.sl 1 (p.groups.map zB) .none]
@[simp]theorem nrVar (l:List Var):zj (l.map qx)=true:=zE (fun x=>by simp) l
@[simp]theorem nrWeight (l:List Weight):zj (l.map qB)=true:=zE (fun x=>by simp) l
@[simp]theorem nrDist (l:List Dist):zj (l.map zC)=true:=zE (fun x=>by simp) l
@[simp]theorem nrInt (l:List Int):zj (l.map qu)=true:=zE (fun x=>by simp) l
@[simp]theorem nrStr (l:List Str):zj (l.map z6)=true:=zE (fun x=>by simp) l
@[simp]theorem nrSignal (l:List Signal):zj (l.map zb)=true:=zE (fun x=>by simp) l
@[simp]theorem nrInts (l:List (List Int)):zj (l.map zB)=true:=zE (fun x=>by simp) l
mutual
theorem nrE':∀ e,qp (qt e)=true
 | .mk o n s a=>by
  have:=nrEs' a;simp[qt,this];simpa using this
theorem nrEs':∀ l,zj (qfh l)=true
 | []=>rfl
 | a::r=>by simp only[qfh,zj,nrE' a,nrEs' r,Bool.and_self]
end
@[simp]theorem nrE (e:Ex):qp (qt e)=true:=nrE' e
@[simp]theorem nrEs (l:List Ex):zj (l.map qt)=true:=zE (fun x=>nrE x) l
theorem qe:Tryz.prog.follows .mixedOrders=true:=by kernel_rfl
abbrev Fits {α:Type}(l:List α):Prop:=l.length<9223372036854775808
def zm {α:Type}(p:α->Bool):List α->Int->Int
 | [],_=>-1
 | v::r,i=>if p v then i else zm p r (i+1)
theorem W4 {α:Type}{p:α->Bool}:∀ {l:List α} {i:Int},0<=i->(0<=zm p l i↔l.any p=true)
 | [],i,_=>by simp[zm]
 | v::r,i,h=>by
  simp only[zm,qrd];split
  . rename_i hp;simp[hp,h]
  . rename_i hp;simp[hp,W4 (l:=r) (i:=i+1) (by omega)]
@[simp]theorem qhV {α:Type}(p:α->Bool)(l:List α):decide (0<=zm p l 0)=l.any p:=by
 rw[qpR,decide_eq_true_iff];exact W4 (by omega)
end Go.Proofs.YtcadpamddlofjaaGreatDoor
end
section
namespace Go.Proofs.YtcadpamddlofjaaGreatDoor
open Go Go.Abs
def qbn:List Str:=[[99,108,97,115,115],[101,120,116,101,110,100,115],[114,97,110,100],[114,97,110,100,99],[115,116,97,116,101],[99,111,110,115,116,114,97,105,110,116],[115,111,102,116],[100,105,115,116],[105,102],[101,108,115,101],[101,97,99,104],[105,110],[115,111,108,118,101],[98,101,102,111,114,101],[105,110,115,105,100,101],[112,114,111,112,101,114,116,121],[115,101,113],[97,110,100],[111,114],[110,111,116],[115,101,116],[104,111,108,100],[112,108,97,105,110],[114,101,112,101,97,116]]
def kg (n:Int):Bool:=decide (97<=n)&&decide (n<=122)
def ZT (n:Int):Bool:=decide (48<=n)&&decide (n<=57)
def yP (n:Int):Bool:=kg n||ZT n||(decide (65<=n)&&decide (n<=90))||decide (n=95)
def QP (c:UInt8):Bool:=yP c.toNat
def vQ:Str->Bool
 | []=>false
 | c::r=>kg c.toNat&&(c::r).all QP
def zV (s:Str):Bool:=vQ s&&decide (s.length<=16)&&!qbn.contains s
theorem qb3 {s:Str}(h:zV s=true):∀ c∈s,QP c=true:=by
 simp only[zV,qo0]at h;obtain⟨⟨h,_⟩,_⟩:=h
 cases s with
 | nil=>simp
 | cons c r=>
  simp only[vQ,qo0]at h;exact fun x hx=>qpa.1 h.2 x hx
theorem kF {s:Str}(h:zV s=true):∀ c∈s,c≠91:=by
 intro c hc e;have:=qb3 h c hc;subst e
 revert this
 decide
theorem WO {s:Str}(h:zV s=true):s≠[]:=by
 rintro rfl;simp[zV,vQ]at h
def zZ (a:Str)(i:Nat):Str:=a++[91,UInt8.ofNat (48+i),93]
@[simp]theorem qmz {a:Str}{i:Nat}:(zZ a i).length=a.length+3:=by simp[zZ]
theorem YN {a b:Str}{i j:Nat}(hi:i<8)(hj:j<8)(h:zZ a i=zZ b j):a=b/\i=j:=by
 obtain⟨h1,h2⟩:=List.append_inj' h rfl;refine⟨h1,?_⟩;simp only[List.cons.injEq,true_and,and_true]at h2;have:=congrArg UInt8.toNat h2;simp only[UInt8.toNat_ofNat']at this;omega
def jj (s a:Str)(i:Nat):Prop:=i<8/\zV a=true/\s=zZ a i
theorem jj.unique {s a b:Str}{i j:Nat}(h:jj s a i)(h':jj s b j):a=b/\i=j:=YN h.1 h'.1 (h.2.2.symm.trans h'.2.2)
open Classical in
noncomputable def yU (s:Str):Option (Str×Nat):=if h:∃ p:Str×Nat,jj s p.1 p.2 then some h.choose else none
theorem wv {s a:Str}{i:Nat}(h:jj s a i):yU s=some (a,i):=by
 have hex:∃ p:Str×Nat,jj s p.1 p.2:=⟨(a,i),h⟩;unfold yU;rw[dif_pos hex];obtain⟨h1,h2⟩:=hex.choose_spec.unique h;rw[<- h1,<- h2]
theorem yG {s a:Str}{i:Nat}:yU s=some (a,i)↔jj s a i:=by
 constructor
 . intro h;unfold yU at h;split at h
   . rename_i hex;have:=hex.choose_spec;rw[Option.some.inj h]at this;exact this
   . cases h
 . exact wv
theorem yc {s:Str}:yU s=none↔∀ a i,¬ jj s a i:=by
 constructor
 . intro h a i hi;rw[wv hi]at h;cases h
 . intro h
   cases e:yU s with
   | none=>rfl
   | some p=>exact absurd (yG.1 (show yU s=some (p.1,p.2) from e)) (h _ _)
noncomputable def kr (s:Str):Bool:=zV s||(yU s).isSome
def jy (s:Str):Str:=s.takeWhile (· != 91)
def JL (s:Str):Str:=(s.dropWhile (· != 91)).tail
theorem qmB {s:Str}(h:s.contains 91=true):s=jy s++91::JL s:=by
 unfold jy JL
 induction s with
 | nil=>simp at h
 | cons c r ih=>
  by_cases hc:c=91
  . subst hc;simp
  . have:r.contains 91=true:=by
     simp only[List.contains_cons,qqH,beq_iff_eq]at h;rcases h with h|h
     . exact absurd h.symm hc
     . exact h
    have hb:(c != 91)=true:=(by simpa using hc);rw[qrG,List.dropWhile_cons,if_pos hb,if_pos hb,qpp,<- ih this]
theorem qe4 {a:Str}{t:Str}(h:∀ c∈a,c≠91):jy (a++91::t)=a:=by
 unfold jy
 induction a with
 | nil=>simp
 | cons c r ih=>
  have hb:(c != 91)=true:=by simpa using h c (by simp)
  rw[qpp,qrG,if_pos hb,ih fun x hx=>h x (by simp[hx])]
theorem qey {a:Str}{t:Str}(h:∀ c∈a,c≠91):JL (a++91::t)=t:=by
 unfold JL
 induction a with
 | nil=>simp
 | cons c r ih=>
  have hb:(c != 91)=true:=by simpa using h c (by simp)
  rw[qpp,List.dropWhile_cons,if_pos hb,ih fun x hx=>h x (by simp[hx])]
theorem qk9 {a:Str}{i:Nat}:(zZ a i).contains 91=true:=by simp[zZ]
theorem jj.has {s a:Str}{i:Nat}(h:jj s a i):s.contains 91=true/\jy s=a/\JL s=[UInt8.ofNat (48+i),93]:=by
 obtain⟨h1,h2,rfl⟩:=h;exact⟨qk9,qe4 (kF h2),qey (kF h2)⟩
theorem qb1 {s:Str}(h:s.contains 91=false):yU s=none:=by
 rw[yc];intro a i hi;rw[hi.has.1]at h;cases h
def qW {α:Type}(f:α->Int):List α->Int
 | []=>0
 | a::r=>if f a=0 then qW f r else f a
theorem jH {α:Type}{f:α->Int}:∀ {l m:List α},qW f (l++m)=if qW f l=0 then qW f m else qW f l
 | [],m=>by simp[qW]
 | a::r,m=>by
  simp only[qpp,qW];split
  . exact jH
  . rename_i h;simp
theorem zF {α:Type}{f:α->Int}:∀ {l:List α},qW f l=0↔∀ a∈l,f a=0
 | []=>by simp[qW]
 | a::r=>by
  simp only[qW,qpm,forall_eq_or_imp];split
  . rename_i h;simp[h,zF]
  . rename_i h;simp[h]
noncomputable def jY (v:Var):Int :=
 if kr v.name=false then 7
 else if v.width<1\/8<v.width\/v.mode<0\/2<v.mode\/v.value<0\/(2:Int) ^ v.width.toNat<=v.value\/(v.mode≠0/\v.value≠0) then 1
 else 0
def vI (l:List Var)(name:Str):Bool:=l.any fun v=>v.name==name
def vV (l:List Var)(i:Nat):Bool:=match l[i]? with
 | some v=>vI (l.take i) v.name
 | none=>false
def qot (l:List Var):Bool:=(List.range l.length).any (vV l)
open Classical in
noncomputable def Jb (l:List Var)(name:Str):Bool:=match yU name with
 | some (a,i+1)=>!vI l (zZ a i)
 | _=>false
def j8:List Var->Int
 | []=>0
 | v::r=>(if v.mode≠0 then v.width else 0)+j8 r
noncomputable def ja (l:List Var):Int :=
 if 16<l.length then 2
 else if qW jY l≠0 then qW jY l
 else if qot l=true then 8
 else if l.any (fun v=>Jb l v.name)=true then 10
 else if 20<j8 l then 2
 else 0
mutual
theorem Ex.ind {p:Ex->Prop}(h:∀ e,(∀ a∈e.args,p a)->p e):∀ e,p e
 | .mk o n s a=>h _ (by simpa using Ex.indL h a)
theorem Ex.indL {p:Ex->Prop}(h:∀ e,(∀ a∈e.args,p a)->p e):∀ (l:List Ex),∀ a∈l,p a
 | [],_,hm=>by cases hm
 | e::r,a,hm=>by
  rcases qpm.1 hm with hm|hm
  . rw[hm];exact Ex.ind h e
  . exact Ex.indL h r a hm
end
mutual
def pre:Ex->List Ex
 | .mk o n s a=>.mk o n s a::wC a
def wC:List Ex->List Ex
 | []=>[]
 | e::r=>pre e++wC r
end
theorem jk (e:Ex):pre e=e::wC e.args:=by cases e;simp[pre]
@[simp]theorem preL_nil:wC []=[]:=by simp[wC]
@[simp]theorem yi {e:Ex}{r:List Ex}:wC (e::r)=pre e++wC r:=by simp[wC]
theorem wg:∀ {l m:List Ex},wC (l++m)=wC l++wC m
 | [],m=>by simp
 | e::r,m=>by simp[wg (l:=r),qps]
mutual
def hgt:Ex->Nat
 | .mk _ _ _ a=>ZP a+1
def ZP:List Ex->Nat
 | []=>0
 | e::r=>max (hgt e) (ZP r)
end
theorem wE (e:Ex):hgt e=ZP e.args+1:=by cases e;simp[hgt]
@[simp]theorem qkM:ZP []=0:=by simp[ZP]
@[simp]theorem QQ {e:Ex}{r:List Ex}:ZP (e::r)=max (hgt e) (ZP r):=by simp[ZP]
theorem qkN {l:List Ex}{e:Ex}(h:e∈l):hgt e<=ZP l:=by
 induction l with
 | nil=>cases h
 | cons a r ih=>
  rcases qpm.1 h with rfl|h
  . simp;omega
  . have:=ih h;simp;omega
theorem qhC {e a:Ex}(h:a∈e.args):hgt a<hgt e:=by
 have:=qkN h;rw[wE e];omega
theorem vG {l:List Ex}{x:Ex}:x∈wC l↔∃ a∈l,x∈pre a:=by
 induction l with
 | nil=>simp
 | cons e r ih=>simp[ih]
def zs (op:Int):Int :=
 if op=1\/op=2\/op=24 then 0
 else if op=3\/op=4\/op=5\/op=6\/op=25 then 1
 else if op=22 then 3
 else if op=23 then -1
 else if op<1\/25<op then -1
 else 2
def qi (e:Ex):Bool :=
 if e.op=23 then decide (e.args.length % 2=1/\3<=e.args.length/\e.args.length<=33)
 else decide ((e.args.length:Int)=zs e.op)
noncomputable def qo (e:Ex):Int :=
 if e.op<1\/25<e.op then 1
 else if (e.op=1/\(e.n<0\/65535<e.n))\/(e.op≠1/\e.n≠0) then 1
 else if (¬ (e.op=2\/e.op=3\/e.op=24)/\e.name≠[])\/qi e=false then 1
 else if (e.op=2/\kr e.name=false)\/((e.op=3\/e.op=24)/\zV e.name=false) then 7
 else 0
def wH (e:Ex):Int:=IntKind.i64.wrap (pre e).length
noncomputable def zg (e:Ex):Int :=
 if qW qo (pre e)=0/\(24<hgt e\/400<wH e) then 2 else qW qo (pre e)
def Y4 (ops:List Int)(out:List Str)(e:Ex):List Str:=if ops.contains e.op&&!out.contains e.name then out++[e.name] else out
def zy (ops:List Int)(e:Ex):List Str:=(pre e).foldl (Y4 ops) []
theorem qlF {ops:List Int}{out:List Str}{e:Ex}{s:Str}:s∈Y4 ops out e↔s∈out\/(ops.contains e.op=true/\s=e.name):=by
 unfold Y4;by_cases h1:e.op∈ops
 . by_cases h2:e.name∈out
   . simp only[qsf.2 h1,qsf.2 h2,qrz,qrv,qpi,if_false,true_and];constructor
     . exact .inl
     . rintro (h|rfl)
       . exact h
       . exact h2
   . simp[h1,h2]
 . simp[h1]
theorem qaO {ops:List Int}{s:Str}:∀ {l:List Ex} {out:List Str},s∈l.foldl (Y4 ops) out↔s∈out\/∃ e∈l,ops.contains e.op=true/\s=e.name
 | [],out=>by simp
 | e::r,out=>by
  rw[qpP,qaO,qlF];simp only[qpm,exists_eq_or_imp];constructor
  . rintro ((h|h)|h)
    . exact .inl h
    . exact .inr (.inl h)
    . exact .inr (.inr h)
  . rintro (h|h|h)
    . exact .inl (.inl h)
    . exact .inl (.inr h)
    . exact .inr h
theorem jG {ops:List Int}{e:Ex}{s:Str}:s∈zy ops e↔∃ x∈pre e,ops.contains x.op=true/\s=x.name:=by
 unfold zy;rw[qaO];simp
def ZY (e:Ex):Bool:=(pre e).any fun x=>decide (x.op=3\/x.op=24)
def Qj (l:List Var)(e:Ex):Bool:=(pre e).any fun x=>decide (x.op=2)&&!vI l x.name
theorem vO {e:Ex}:decide (0<(zy [3,24] e).length)=ZY e:=by
 rw[qpR,decide_eq_true_iff,List.length_pos_iff_exists_mem,ZY,qpq];constructor
 . rintro⟨s,hs⟩;obtain⟨x,h1,h2,_⟩:=jG.1 hs;exact⟨x,h1,by simpa using h2⟩
 . rintro⟨x,h1,h2⟩;exact⟨x.name,jG.2 ⟨x,h1,by simpa using h2,rfl⟩⟩
theorem vL {l:List Var}{e:Ex}:(zy [2] e).any (fun s=>!vI l s)=Qj l e:=by
 rw[qpR,Qj,qpq,qpq];constructor
 . rintro⟨s,hs,h⟩;obtain⟨x,h1,h2,rfl⟩:=jG.1 hs;exact⟨x,h1,by simp only[qo0,decide_eq_true_eq];exact⟨by simpa using h2,h⟩⟩
 . rintro⟨x,h1,h2⟩;simp only[qo0,decide_eq_true_eq]at h2;exact⟨x.name,jG.2 ⟨x,h1,by simpa using h2.1,rfl⟩,h2.2⟩
noncomputable def zr (l:List Var)(e:Ex):Int :=
 if zg e≠0 then zg e else if ZY e=true then 9 else if Qj l e=true then 7 else 0
def yh (l:List Var)(i:Int):Bool:=decide (0<=i)&&(l[i.toNat]?).any fun v=>v.mode != 0
def zL (w:Weight):Bool:=decide (w.lo<0)||decide (w.hi<w.lo)||decide (65535<w.hi)||decide (w.weight<0)||decide (1000<w.weight)
def jz (l:List Var)(d:List Dist)(i:Nat):Int:=match d[i]? with
 | some x=>if yh l x.var=false then 1 else if (d.take i).any (fun y=>y.var==x.var)=true then 8 else if 16<x.weights.length then 2 else if x.weights.any zL=true then 1 else 0
 | none=>0
def yl (l:List Var)(d:List Dist):Int:=qW (jz l d) (List.range d.length)
def jP (l:List Var)(g:List (List Int)):Prop:=(∀ x∈g,x≠[])/\(∀ i∈g.flatten,yh l i=true)/\g.flatten.Nodup/\∀ i:Nat,i<l.length->yh l i=true->(i:Int)∈g.flatten
open Classical in
noncomputable def zA (l:List Var)(g:List (List Int)):Int:=if jP l g then 0 else 1
noncomputable def qr (p:Problem):Int :=
 if ja p.vars≠0 then ja p.vars
 else if qW (zr p.vars) (p.hard++p.soft)≠0 then qW (zr p.vars) (p.hard++p.soft)
 else if yl p.vars p.dists≠0 then yl p.vars p.dists
 else zA p.vars p.groups
def zz (l:List Var)(i:Nat):Int:=match l[i]? with
 | some v=>v.width
 | none=>0
end Go.Proofs.YtcadpamddlofjaaGreatDoor
end
section
namespace Go.Abs
open Go Go.RowKit
def qiT (P:Program)(rs:List ResultVar)(Q:AV->St->Prop)(env:Env)(U:St):Prop :=
 match qbl (Dof P) rs env U with
 | some l=>Q (Y7 l) U
 | none=>False
def qbg (P:Program)(rs:List ResultVar)(Q:AV->St->Prop):Exit->Env->St->Prop
 | .ret,env,U=>qiT P rs Q env U
 | .normal,env,U=>qiT P rs Q env U
 | _,_,_=>False
attribute [simp] qiT qbg
section
variable {P:Program}{G:Glo}{U:St}{f:FuncId}{args:List AV}{Q:AV->St->Prop}
theorem qg.vcO {fn : Func} {c : Code} (o : Opts) (hm : P.follows .mixedOrders = true) (hf : P.funcs[f]? = some fn) (hb : fn.body = some c) (hk : (jn fn.ntmps o c && decide (args.length ≤ fn.ntmps) && fn.name != "runtime.NumGoroutine") = true)
 (h:vcC P G o c (wK args) U (qbg P fn.results.toList Q)):qg P G f args U Q:=by
 simp only[qo0,decide_eq_true_eq,bne_iff_ne,ne_eq]at hk;refine qg.of_body hf hb hk.2 hk.1.2 (AWp.mono (jL hm c hk.1.1 h) fun e env U hq=>?_);have key:qiT P fn.results.toList Q env U->∃ l,qbl (Dof P) fn.results.toList env U=some l/\Q (Y7 l) U:=fun h=>by
  unfold qiT at h;split at h
  . rename_i l hl;exact⟨l,hl,h⟩
  . exact h.elim
 cases e with
 | ret=>exact⟨.inl rfl,key hq⟩
 | normal=>exact⟨.inr rfl,key hq⟩
 | _=>exact hq.elim
theorem qg.vc {fn : Func} {c : Code} (hm : P.follows .mixedOrders = true) (hf : P.funcs[f]? = some fn) (hb : fn.body = some c) (hk : (jn fn.ntmps o0 c && decide (args.length ≤ fn.ntmps) && fn.name != "runtime.NumGoroutine") = true)
 (h:vcC P G o0 c (wK args) U (qbg P fn.results.toList Q)):qg P G f args U Q:=qg.vcO o0 hm hf hb hk h
end
end Go.Abs
namespace Go.Proofs.YtcadpamddlofjaaGreatDoor
open Go Go.Abs
def QA {S:Type}(stp:S->Ex->S×Bool):S->List Ex->S×Bool
 | s,[]=>(s,true)
 | s,e::r=>if (stp s e).2=true then QA stp (stp s e).1 r else ((stp s e).1,false)
theorem JT {S:Type}{stp:S->Ex->S×Bool}:∀ {s:S} {l m:List Ex},QA stp s (l++m)=if (QA stp s l).2=true then QA stp (QA stp s l).1 m else QA stp s l
 | s,[],m=>by simp[QA]
 | s,e::r,m=>by
  simp only[qpp,QA];split
  . exact JT
  . simp
theorem JS {S:Type}{stp:S->Ex->S×Bool}(h:∀ s e,(stp s e).2=true):∀ (s:S) (l:List Ex),QA stp s l=(l.foldl (fun s e=>(stp s e).1) s,true)
 | s,[]=>rfl
 | s,e::r=>by simp only[QA,h,if_true,qpP];exact JS h _ r
theorem KF {f:Ex->Int}:∀ (s:Int) (l:List Ex),(QA (fun _ e=>(f e,f e==0)) s l).1=if l=[] then s else qW f l
 | s,[]=>rfl
 | s,e::r=>by
  simp only[QA,qW,beq_iff_eq,reduceCtorEq,if_false];by_cases h:f e=0
  . rw[if_pos h,if_pos h,KF];split
    . rename_i hr;subst hr;simp[qW,h]
    . rfl
  . rw[if_neg h,if_neg h]
theorem qcJ {m n:Int}:IntKind.i64.wrap (IntKind.i64.wrap m+n)=IntKind.i64.wrap (m+n):=by
 simp[IntKind.wrap,IntKind.bits,IntKind.signed];omega
theorem Wb {n:Int}:∀ (l:List Ex),l.foldl (fun s _=>IntKind.i64.wrap (s+1)) (IntKind.i64.wrap n)=IntKind.i64.wrap (n+l.length)
 | []=>by simp
 | e::r=>by
  rw[qpP,qcJ,Wb r];congr 1;simp;omega
theorem kh {l:List Var}{g:List (List Int)}(h : []∈g):¬ jP l g:=fun ⟨h1,_⟩=>h1 _ h rfl
theorem K9 {l:List Var}{g:List (List Int)}{i:Int}(h:i∈g.flatten)(hr:yh l i=false):¬ jP l g:=fun ⟨_,h2,_⟩=>by
 have:=h2 i h;rw[hr]at this;cases this
theorem qe5 {l:List Var}{g:List (List Int)}{i:Int}{done rest:List Int}(h:g.flatten=done++i::rest)(hi:i∈done):¬ jP l g:=fun ⟨_,_,h3,_⟩=>by
 rw[h,qqv]at h3;exact h3.2.2 i hi i (by simp) rfl
theorem qb9 {l:List Var}{g:List (List Int)}{i:Nat}(hi:i<l.length)(hr:yh l i=true)(h:(i:Int)∉g.flatten):¬ jP l g:=fun ⟨_,_,_,h4⟩=>h (h4 i hi hr)
theorem Zg {l:List Var}{i:Int}(h:yh l i=true):0<=i/\i<l.length:=by
 simp only[yh,qo0,decide_eq_true_eq]at h;obtain⟨h0,h1⟩:=h;refine⟨h0,?_⟩;apply Classical.byContradiction;intro hn;rw[qpt (by omega)]at h1;simp at h1
theorem qaD {l:List Var}{g:List (List Int)}(h1:∀ x∈g,x≠[])(h2:∀ i∈g.flatten,0<=i/\i<(l.length:Int)) :
 jP l g↔∀ i:Nat,i<l.length->g.flatten.count (i:Int)=if yh l i=true then 1 else 0:=by
 constructor
 . rintro⟨_,k2,k3,k4⟩ i hi;split
   . rename_i hr;have:=List.nodup_iff_count.1 k3 (i:Int);have:=qrK.2 (k4 i hi hr);omega
   . rename_i hr;apply List.count_eq_zero.2;intro hm;exact hr (k2 _ hm)
 . intro h;have cnt:∀ i∈g.flatten,g.flatten.count i=1/\yh l i=true:=by
    intro i hi;obtain⟨a,b⟩:=h2 i hi;have hc:=h i.toNat (by omega);have e:((i.toNat:Nat):Int)=i:=(by omega);rw[e]at hc;have:=qrK.2 hi;split at hc
    . rename_i hr;exact⟨hc,hr⟩
    . omega
   refine⟨h1,fun i hi=>(cnt i hi).2,?_,?_⟩
   . rw[List.nodup_iff_count];intro i;by_cases hi:i∈g.flatten
     . rw[(cnt i hi).1];exact qo7 _
     . rw[List.count_eq_zero.2 hi];omega
   . intro i hi hr;have hc:=h i hi;rw[if_pos hr]at hc;exact qrK.1 (by omega)
end Go.Proofs.YtcadpamddlofjaaGreatDoor
namespace Go.Proofs.YtcadpamddlofjaaGreatDoor
open Go Go.Abs
end Go.Proofs.YtcadpamddlofjaaGreatDoor
end
section
namespace Go.Proofs.YtcadpamddlofjaaGreatDoor
open Go Go.Abs
def GG (g:Nat):AV:=match g with
 | 0=>.rptr [.sl 1 (qbn.map z6) .none]
 | _=>.any
section
section
variable (G:Nat->AV)
theorem has325 (l:List Str)(s:Str)(hl:Fits l):Pure Tryz.prog G 210 [.sl 1 (l.map z6) .none,.str s] (.bool (l.any (· == s))):=by
 refine Pure.vc qe Tryz.func210 rfl (by kernel_rfl) ?_;simp;refine qF.intro (fun n env U=>∃ i,i<=l.length/\n=l.length-i/\env 0=.sl 1 (l.map z6) .none/\env 1=.str s/\env 5=.int .i64 i/\U=⟨[],[]⟩/\l.any (· == s)=(l.drop i).any (· == s)) l.length ⟨0,by simp⟩ ?_;rintro n env U ⟨i,hi,rfl,h0,h1,h5,rfl,hf⟩
 cases hv:l[i]? with
 | some v=>
  obtain⟨hc,hv'⟩:=qoX.1 hv;rw[zD hv]at hf;by_cases he:v=s
  . subst he;simp[h0,h1,h5,hc,hv',hf]
  . have he':(v==s)=false:=(by simpa using he);simp[h0,h1,h5,hc,hv',he];refine⟨_,by omega,i+1,by omega,rfl,wr (by omega) (by omega),?_⟩;rw[hf,qrd,he',qq4]
 | none=>
  have hc:¬ i<l.length:=by simp at hv;omega
  have hd:l.drop i=[]:=by simp;omega
  have hz:∀ x∈l,¬ x=s:=by
   intro x hx e;have:l.any (· == s)=true:=qpq.2 ⟨x,hx,by simp[e]⟩;rw[hf,hd]at this;cases this
  simp[h0,h1,h5,hc];exact hz
theorem qdL (l:List Str)(s:Str)(hl:Fits l):Pure Tryz.prog G 144 [.sl 1 (l.map z6) .none,.str s] (.bool (l.any (· == s))):=by
 refine Pure.vc qe Tryz.func144 rfl (by kernel_rfl) ?_;simp;refine qF.intro (fun n env U=>∃ i,i<=l.length/\n=l.length-i/\env 0=.sl 1 (l.map z6) .none/\env 1=.str s/\env 5=.int .i64 i/\U=⟨[],[]⟩/\l.any (· == s)=(l.drop i).any (· == s)) l.length ⟨0,by simp⟩ ?_;rintro n env U ⟨i,hi,rfl,h0,h1,h5,rfl,hf⟩
 cases hv:l[i]? with
 | some v=>
  obtain⟨hc,hv'⟩:=qoX.1 hv;rw[zD hv]at hf;by_cases he:v=s
  . subst he;simp[h0,h1,h5,hc,hv',hf]
  . have he':(v==s)=false:=(by simpa using he);simp[h0,h1,h5,hc,hv',he];refine⟨_,by omega,i+1,by omega,rfl,wr (by omega) (by omega),?_⟩;rw[hf,qrd,he',qq4]
 | none=>
  have hc:¬ i<l.length:=by simp at hv;omega
  have hd:l.drop i=[]:=by simp;omega
  have hz:∀ x∈l,¬ x=s:=by
   intro x hx e;have:l.any (· == s)=true:=qpq.2 ⟨x,hx,by simp[e]⟩;rw[hf,hd]at this;cases this
  simp[h0,h1,h5,hc];exact hz
theorem qkK (l:List Str)(s:Str)(hl:Fits l):Pure Tryz.prog G 219 [.sl 1 (l.map z6) .none,.str s] (.int .i64 (zm (fun v=>s==v) l 0)):=by
 refine Pure.vc qe Tryz.func219 rfl (by kernel_rfl) ?_;simp;refine qF.intro (fun n env U=>∃ i,i<=l.length/\n=l.length-i/\env 0=.sl 1 (l.map z6) .none/\env 1=.str s/\env 7=.int .i64 l.length/\env 8=.int .i64 i/\U=⟨[],[]⟩/\zm (fun v=>s==v) l 0=zm (fun v=>s==v) (l.drop i) i) l.length ⟨0,by simp⟩ ?_;rintro n env U ⟨i,hi,rfl,h0,h1,h7,h8,rfl,hf⟩
 cases hv:l[i]? with
 | some v=>
  obtain⟨hc,hv'⟩:=qoX.1 hv;rw[zD hv]at hf;by_cases he:s=v
  . subst he;simp[h0,h1,h7,h8,hc,hv',hf,zm]
  . have he':(s==v)=false:=(by simpa using he);simp[h0,h1,h7,h8,hc,hv',he];refine⟨_,by omega,i+1,by omega,rfl,wr (by omega) (by omega),?_⟩;rw[hf,zm,he'];simp
 | none=>
  have hc:¬ i<l.length:=by simp at hv;omega
  have hd:l.drop i=[]:=by simp;omega
  simp[h0,h1,h7,h8,hc,hf,hd,zm]
theorem Qn (l:List Str)(s:Str)(hl:Fits l):Pure Tryz.prog G 158 [.sl 1 (l.map z6) .none,.str s] (.bool (l.any (fun v=>s==v))):=by
 refine Pure.vc qe Tryz.func158 rfl (by kernel_rfl) ?_;simp;refine qb.call (qkK G l s hl) (by simp) ?_;simp
theorem qkJ (l:List Int)(s:Int)(hl:Fits l):Pure Tryz.prog G 84 [.sl 1 (l.map qu) .none,.int .i64 s] (.int .i64 (zm (fun v=>s==v) l 0)):=by
 refine Pure.vc qe Tryz.func84 rfl (by kernel_rfl) ?_;simp;refine qF.intro (fun n env U=>∃ i,i<=l.length/\n=l.length-i/\env 0=.sl 1 (l.map qu) .none/\env 1=.int .i64 s/\env 7=.int .i64 l.length/\env 8=.int .i64 i/\U=⟨[],[]⟩/\zm (fun v=>s==v) l 0=zm (fun v=>s==v) (l.drop i) i) l.length ⟨0,by simp⟩ ?_;rintro n env U ⟨i,hi,rfl,h0,h1,h7,h8,rfl,hf⟩
 cases hv:l[i]? with
 | some v=>
  obtain⟨hc,hv'⟩:=qoX.1 hv;rw[zD hv]at hf;by_cases he:s=v
  . subst he;simp[h0,h1,h7,h8,hc,hv',hf,zm]
  . have he':(s==v)=false:=(by simpa using he);simp[h0,h1,h7,h8,hc,hv',he];refine⟨_,by omega,i+1,by omega,rfl,wr (by omega) (by omega),?_⟩;rw[hf,zm,he'];simp
 | none=>
  have hc:¬ i<l.length:=by simp at hv;omega
  have hd:l.drop i=[]:=by simp;omega
  simp[h0,h1,h7,h8,hc,hf,hd,zm]
theorem YQ (l:List Int)(s:Int)(hl:Fits l):Pure Tryz.prog G 49 [.sl 1 (l.map qu) .none,.int .i64 s] (.bool (l.any (fun v=>s==v))):=by
 refine Pure.vc qe Tryz.func49 rfl (by kernel_rfl) ?_;simp;refine qb.call (qkJ G l s hl) (by simp) ?_;simp
theorem qch (l:List Var)(s:Str)(hl:Fits l):Pure Tryz.prog G 36 [.sl 4 (l.map qx) .none,.str s] (.int .i64 (zm (fun v=>v.name==s) l 0)):=by
 refine Pure.vc qe Tryz.func36 rfl (by kernel_rfl) ?_;simp;refine qF.intro (fun n env U=>∃ i,i<=l.length/\n=l.length-i/\env 0=.sl 4 (l.map qx) .none/\env 1=.str s/\env 5=.int .i64 i/\U=⟨[],[]⟩/\zm (fun v=>v.name==s) l 0=zm (fun v=>v.name==s) (l.drop i) i) l.length ⟨0,by simp⟩ ?_;rintro n env U ⟨i,hi,rfl,h0,h1,h5,rfl,hf⟩
 cases hv:l[i]? with
 | some v=>
  obtain⟨hc,hv'⟩:=qoX.1 hv;rw[zD hv]at hf;by_cases he:v.name=s
  . subst he;simp[h0,h1,h5,hc,hv',hf,zm]
  . have he':(v.name==s)=false:=(by simpa using he);simp[h0,h1,h5,hc,hv',he];refine⟨_,by omega,i+1,by omega,rfl,wr (by omega) (by omega),?_⟩;rw[hf,zm,he'];simp
 | none=>
  have hc:¬ i<l.length:=by simp at hv;omega
  have hd:l.drop i=[]:=by simp;omega
  simp[h0,h1,h5,hc,hf,hd,zm]
end
end
theorem ZN (G:Nat->AV)(l:List Var)(p:Var->Bool)(f:FuncId)(first cap:List AV)(hl:Fits l)(h1:qp first=true)(h2:qp cap=true)
 (hp:∀ v∈l,Pure Tryz.prog G f (first++[.agg (qx v)]++cap) (.bool (p v))):Pure Tryz.prog G 109 [.sl 4 (l.map qx) .none,.fn f first cap] (.int .i64 (zm p l 0)):=by
 refine Pure.vc qe Tryz.func109 rfl (by kernel_rfl) ?_;simp;refine qF.intro (fun n env U=>∃ i,i<=l.length/\n=l.length-i/\env 0=.sl 4 (l.map qx) .none/\env 1=.fn f first cap/\env 7=.int .i64 l.length/\env 8=.int .i64 i/\U=⟨[],[]⟩/\zm p l 0=zm p (l.drop i) i) l.length ⟨0,by simp⟩ ?_;rintro n env U ⟨i,hi,rfl,h0,h1',h7,h8,rfl,hf⟩
 cases hv:l[i]? with
 | some v=>
  obtain⟨hc,hv'⟩:=qoX.1 hv;rw[zD hv]at hf;simp[h0,h1',h7,h8,hc,hv',hf];refine qb.call (r:=.bool (p v)) (by simpa using hp v (qoZ hv)) (by simp[j5,h1,h2]) ?_;simp[h0,h1',h7,h8,zm];refine⟨fun e=>by simp[e],fun e=>⟨_,by omega,i+1,by omega,rfl,wr (by omega) (by omega),by simp[hf,zm,e]⟩⟩
 | none=>
  have hc:¬ i<l.length:=by simp at hv;omega
  have hd:l.drop i=[]:=by simp;omega
  simp[h0,h1',h7,h8,hc,hf,hd,zm]
theorem vt (G:Nat->AV)(l:List Var)(p:Var->Bool)(f:FuncId)(first cap:List AV)(hl:Fits l)(h1:qp first=true)(h2:qp cap=true)
 (hp:∀ v∈l,Pure Tryz.prog G f (first++[.agg (qx v)]++cap) (.bool (p v))):Pure Tryz.prog G 71 [.sl 4 (l.map qx) .none,.fn f first cap] (.bool (l.any p)):=by
 refine Pure.vc qe Tryz.func71 rfl (by kernel_rfl) ?_;simp;refine qb.call (ZN G l p f first cap hl h1 h2 hp) (by simp[h1,h2]) ?_;simp
theorem WY (G:Nat->AV)(l:List Dist)(p:Dist->Bool)(f:FuncId)(first cap:List AV)(hl:Fits l)(h1:qp first=true)(h2:qp cap=true)
 (hp:∀ v∈l,Pure Tryz.prog G f (first++[.agg (zC v)]++cap) (.bool (p v))):Pure Tryz.prog G 119 [.sl 2 (l.map zC) .none,.fn f first cap] (.int .i64 (zm p l 0)):=by
 refine Pure.vc qe Tryz.func119 rfl (by kernel_rfl) ?_;simp;refine qF.intro (fun n env U=>∃ i,i<=l.length/\n=l.length-i/\env 0=.sl 2 (l.map zC) .none/\env 1=.fn f first cap/\env 7=.int .i64 l.length/\env 8=.int .i64 i/\U=⟨[],[]⟩/\zm p l 0=zm p (l.drop i) i) l.length ⟨0,by simp⟩ ?_;rintro n env U ⟨i,hi,rfl,h0,h1',h7,h8,rfl,hf⟩
 cases hv:l[i]? with
 | some v=>
  obtain⟨hc,hv'⟩:=qoX.1 hv;rw[zD hv]at hf;simp[h0,h1',h7,h8,hc,hv',hf];refine qb.call (r:=.bool (p v)) (by simpa using hp v (qoZ hv)) (by simp[j5,h1,h2]) ?_;simp[h0,h1',h7,h8,zm];refine⟨fun e=>by simp[e],fun e=>⟨_,by omega,i+1,by omega,rfl,wr (by omega) (by omega),by simp[hf,zm,e]⟩⟩
 | none=>
  have hc:¬ i<l.length:=by simp at hv;omega
  have hd:l.drop i=[]:=by simp;omega
  simp[h0,h1',h7,h8,hc,hf,hd,zm]
theorem Jf (G:Nat->AV)(l:List Dist)(p:Dist->Bool)(f:FuncId)(first cap:List AV)(hl:Fits l)(h1:qp first=true)(h2:qp cap=true)
 (hp:∀ v∈l,Pure Tryz.prog G f (first++[.agg (zC v)]++cap) (.bool (p v))):Pure Tryz.prog G 81 [.sl 2 (l.map zC) .none,.fn f first cap] (.bool (l.any p)):=by
 refine Pure.vc qe Tryz.func81 rfl (by kernel_rfl) ?_;simp;refine qb.call (WY G l p f first cap hl h1 h2 hp) (by simp[h1,h2]) ?_;simp
theorem qaA (G:Nat->AV)(l:List Str)(p:Str->Bool)(f:FuncId)(first cap:List AV)(hl:Fits l)(h1:qp first=true)(h2:qp cap=true)
 (hp:∀ v∈l,Pure Tryz.prog G f (first++[.str v]++cap) (.bool (p v))):Pure Tryz.prog G 118 [.sl 1 (l.map z6) .none,.fn f first cap] (.int .i64 (zm p l 0)):=by
 refine Pure.vc qe Tryz.func118 rfl (by kernel_rfl) ?_;simp;refine qF.intro (fun n env U=>∃ i,i<=l.length/\n=l.length-i/\env 0=.sl 1 (l.map z6) .none/\env 1=.fn f first cap/\env 7=.int .i64 l.length/\env 8=.int .i64 i/\U=⟨[],[]⟩/\zm p l 0=zm p (l.drop i) i) l.length ⟨0,by simp⟩ ?_;rintro n env U ⟨i,hi,rfl,h0,h1',h7,h8,rfl,hf⟩
 cases hv:l[i]? with
 | some v=>
  obtain⟨hc,hv'⟩:=qoX.1 hv;rw[zD hv]at hf;simp[h0,h1',h7,h8,hc,hv',hf];refine qb.call (r:=.bool (p v)) (by simpa using hp v (qoZ hv)) (by simp[j5,h1,h2]) ?_;simp[h0,h1',h7,h8,zm];refine⟨fun e=>by simp[e],fun e=>⟨_,by omega,i+1,by omega,rfl,wr (by omega) (by omega),by simp[hf,zm,e]⟩⟩
 | none=>
  have hc:¬ i<l.length:=by simp at hv;omega
  have hd:l.drop i=[]:=by simp;omega
  simp[h0,h1',h7,h8,hc,hf,hd,zm]
theorem YP (G:Nat->AV)(l:List Str)(p:Str->Bool)(f:FuncId)(first cap:List AV)(hl:Fits l)(h1:qp first=true)(h2:qp cap=true)
 (hp:∀ v∈l,Pure Tryz.prog G f (first++[.str v]++cap) (.bool (p v))):Pure Tryz.prog G 77 [.sl 1 (l.map z6) .none,.fn f first cap] (.bool (l.any p)):=by
 refine Pure.vc qe Tryz.func77 rfl (by kernel_rfl) ?_;simp;refine qb.call (qaA G l p f first cap hl h1 h2 hp) (by simp[h1,h2]) ?_;simp
theorem vd (G:Nat->AV)(l:List Weight)(p:Weight->Bool)(f:FuncId)(first cap:List AV)(hl:Fits l)(h1:qp first=true)(h2:qp cap=true)
 (hp:∀ v∈l,Pure Tryz.prog G f (first++[.agg (qB v)]++cap) (.bool (p v))):Pure Tryz.prog G 159 [.sl 4 (l.map qB) .none,.fn f first cap] (.int .i64 (zm p l 0)):=by
 refine Pure.vc qe Tryz.func159 rfl (by kernel_rfl) ?_;simp;refine qF.intro (fun n env U=>∃ i,i<=l.length/\n=l.length-i/\env 0=.sl 4 (l.map qB) .none/\env 1=.fn f first cap/\env 7=.int .i64 l.length/\env 8=.int .i64 i/\U=⟨[],[]⟩/\zm p l 0=zm p (l.drop i) i) l.length ⟨0,by simp⟩ ?_;rintro n env U ⟨i,hi,rfl,h0,h1',h7,h8,rfl,hf⟩
 cases hv:l[i]? with
 | some v=>
  obtain⟨hc,hv'⟩:=qoX.1 hv;rw[zD hv]at hf;simp[h0,h1',h7,h8,hc,hv',hf];refine qb.call (r:=.bool (p v)) (by simpa using hp v (qoZ hv)) (by simp[j5,h1,h2]) ?_;simp[h0,h1',h7,h8,zm];refine⟨fun e=>by simp[e],fun e=>⟨_,by omega,i+1,by omega,rfl,wr (by omega) (by omega),by simp[hf,zm,e]⟩⟩
 | none=>
  have hc:¬ i<l.length:=by simp at hv;omega
  have hd:l.drop i=[]:=by simp;omega
  simp[h0,h1',h7,h8,hc,hf,hd,zm]
theorem Q1 (G:Nat->AV)(l:List Weight)(p:Weight->Bool)(f:FuncId)(first cap:List AV)(hl:Fits l)(h1:qp first=true)(h2:qp cap=true)
 (hp:∀ v∈l,Pure Tryz.prog G f (first++[.agg (qB v)]++cap) (.bool (p v))):Pure Tryz.prog G 120 [.sl 4 (l.map qB) .none,.fn f first cap] (.bool (l.any p)):=by
 refine Pure.vc qe Tryz.func120 rfl (by kernel_rfl) ?_;simp;refine qb.call (vd G l p f first cap hl h1 h2 hp) (by simp[h1,h2]) ?_;simp
section
section
variable (G:Nat->AV)
theorem WR (n:Int):Pure Tryz.prog G 213 [.int .i32 n] (.bool (kg n)):=by
 refine Pure.vc qe Tryz.func213 rfl (by kernel_rfl) ?_;by_cases h1:97<=n<;>by_cases h2:n<=122<;>simp[kg,h1,h2]
theorem qld (n:Int):Pure Tryz.prog G 256 [.int .i32 n] (.bool (ZT n)):=by
 refine Pure.vc qe Tryz.func256 rfl (by kernel_rfl) ?_;by_cases h1:48<=n<;>by_cases h2:n<=57<;>simp[ZT,h1,h2]
theorem qc1 (n:Int):Pure Tryz.prog G 145 [.int .u8 n] (.bool (kg n)):=by
 refine Pure.vc qe Tryz.func145 rfl (by kernel_rfl) ?_;by_cases h1:97<=n<;>by_cases h2:n<=122<;>simp[kg,h1,h2]
theorem qle (n:Int):Pure Tryz.prog G 212 [.int .u8 n] (.bool (ZT n)):=by
 refine Pure.vc qe Tryz.func212 rfl (by kernel_rfl) ?_;by_cases h1:48<=n<;>by_cases h2:n<=57<;>simp[ZT,h1,h2]
theorem Zp (n:Int):Pure Tryz.prog G 214 [.int .i32 n] (.bool (yP n)):=by
 refine Pure.vc qe Tryz.func214 rfl (by kernel_rfl) ?_;simp;refine qb.call (WR G n) rfl ?_;cases hl:kg n
 . simp;refine qb.call (qld G n) rfl ?_;cases hd:ZT n
   . by_cases h1:65<=n<;>by_cases h2:n<=90<;>by_cases h3:n=95<;>simp[yP,hl,hd,h1,h2,h3]
   . simp[yP,hl,hd]
 . simp[yP,hl]
theorem qkI (n:Int):Pure Tryz.prog G 147 [.int .u8 n] (.bool (yP n)):=by
 refine Pure.vc qe Tryz.func147 rfl (by kernel_rfl) ?_;simp;refine qb.call (qc1 G n) rfl ?_;cases hl:kg n
 . simp;refine qb.call (qle G n) rfl ?_;cases hd:ZT n
   . by_cases h1:65<=n<;>by_cases h2:n<=90<;>by_cases h3:n=95<;>simp[yP,hl,hd,h1,h2,h3]
   . simp[yP,hl,hd]
 . simp[yP,hl]
end
end
section
section
variable (G:Nat->AV)
theorem dec_lo {s:Str}{pos:Nat}(h:pos<s.length)(hl:(s[pos]).toNat<128):Utf8.decode ⟨s.toArray⟩ pos=((s[pos]).toNat,1):=by
 have:=Go.decode_ascii ⟨s.toArray⟩ pos (by simpa[ByteArray.size] using h) hl;exact this
theorem dec_hi {s:Str}{pos:Nat}(h:pos<s.length)(hl:128<=(s[pos]).toNat):128<=(Utf8.decode ⟨s.toArray⟩ pos).1:=by
 have:=Go.decode_high ⟨s.toArray⟩ pos (by simpa[ByteArray.size] using h) hl;exact this.1
theorem qaz {n:Int}(h:128<=n):yP n=false:=by
 simp[yP,kg,ZT];omega
theorem Qs {s:Str}{c:UInt8}(h:c∈s)(hc:QP c=false):vQ s=false:=by
 cases s with
 | nil=>cases h
 | cons a r=>
  have:(a::r).all QP=false:=by
   rw[qp1];intro e;rw[qpa.1 e c h]at hc;cases hc
  simp only[vQ,this,qrv]
theorem qeg {c:UInt8}{r:Str}(h:kg c.toNat=false):vQ (c::r)=false:=by simp[vQ,h]
theorem qmV (s:Str):Pure Tryz.prog G 149 [.str s] (.bool (vQ s)):=by
 refine Pure.vc qe Tryz.func149 rfl (by kernel_rfl) ?_;simp;refine qF.intro (fun n env U=>∃ pos,pos<=s.length/\n=s.length-pos/\env 0=.str s/\env 6=.iter 0/\U=⟨[.siter s pos],[]⟩/\(∀ c∈s.take pos,QP c=true)/\(0<pos->∀ c r,s=c::r->kg c.toNat=true)) s.length ⟨0,by simp⟩ ?_;rintro n env U ⟨pos,hp,rfl,h0,h6,rfl,hall,hlow⟩;by_cases hlt:pos<s.length
 . have hmem:s[pos]∈s:=qqY hlt;by_cases hc:(s[pos]).toNat<128
   . have hd:=dec_lo hlt hc;have htake:s.take (pos+1)=s.take pos++[s[pos]]:=(by rw[qpw,qo1 hlt];rfl);have more:QP s[pos]=true->∀ c∈s.take (pos+1),QP c=true:=by
      intro hi c hcm;rw[htake,qpk]at hcm;rcases hcm with hcm|hcm
      . exact hall c hcm
      . rw[qpb.1 hcm];exact hi
     rcases qqe pos with rfl|hpos
     . simp[h0,h6,WL,hlt,hd];refine qb.call (WR G _) rfl ?_;cases hl:kg (s[0].toNat:Int)
       . cases s with
         | nil=>simp at hlt
         | cons c r=>simpa using qeg hl
       . simp;refine qb.call (Zp G _) rfl ?_;cases hi:yP (s[0].toNat:Int)
         . simpa using Qs hmem hi
         . simp[h0,h6];refine⟨_,by omega,1,by omega,rfl,rfl,more hi,fun _ c r e=>by subst e;exact hl⟩
     . have hne:¬ pos=0:=(by omega);simp[h0,h6,WL,hlt,hd,hne];refine qb.call (Zp G _) rfl ?_;cases hi:yP (s[pos].toNat:Int)
       . simpa using Qs hmem hi
       . simp[h0,h6];refine⟨_,by omega,pos+1,by omega,rfl,rfl,more hi,fun _=>hlow hpos⟩
   . have hd:=dec_hi hlt (by omega);have hi:=qaz (n:=((Utf8.decode ⟨s.toArray⟩ pos).1:Int)) (by omega);have hl:kg ((Utf8.decode ⟨s.toArray⟩ pos).1:Int)=false:=by
      simp only[yP,Bool.or_eq_false_iff]at hi;exact hi.1.1.1
     have hb:=Qs hmem (qaz (n:=(s[pos].toNat:Int)) (by omega));rcases qqe pos with rfl|hpos
     . simp[h0,h6,WL,hlt];refine qb.call (WR G _) rfl ?_;simpa[hl] using hb
     . have hne:¬ pos=0:=(by omega);simp[h0,h6,WL,hlt,hne];refine qb.call (Zp G _) rfl ?_;simpa[hi] using hb
 . have he:pos=s.length:=(by omega);subst he
   cases s with
   | nil=>simp[h0,h6,WL,vQ]
   | cons c r=>
    have h1:vQ (c::r)=true:=by
     simp only[vQ,qo0];exact⟨hlow (by simp) c r rfl,qpa.2 fun x hx=>hall x (by simpa using hx)⟩
    simp[h0,h6,WL,h1]
end
end
end Go.Proofs.YtcadpamddlofjaaGreatDoor
end
section
namespace Go.Proofs.YtcadpamddlofjaaGreatDoor
open Go Go.Abs Go.RowKit
theorem qlq (s:ByteArray)(c:Int)(w:World) :
 Calls Tryz.prog 257 #[.string s,.int .u8 c] w fun e w'=>e=.returned (.int .i64 (Lib.indexByte s.data.toList c.toNat.toUInt8))/\w'=w:=by
 have t3:=Tryz.underlying3;have t5:=Tryz.underlying5;have t9:=Tryz.underlying9;have a3:∀ w,(isAgg 3).run Tryz.prog w=.ok false w:=run_isAgg_plain t3 rfl;have a5:∀ w,(isAgg 5).run Tryz.prog w=.ok false w:=run_isAgg_plain t5 rfl;have a9:∀ w,(isAgg 9).run Tryz.prog w=.ok false w:=run_isAgg_plain t9 rfl
 go_enter Tryz.func257,Tryz.ntmps257
 go_wp2
 rw[run_callFunc_extern Tryz.func274 (by kernel_rfl) (by kernel_rfl) (by kernel_rfl) (e:=Extern.BytealgIndexByte.indexByte) (by kernel_rfl),Lib.run_indexByteString];simp only[Result.andThen];rw[Oper.upon_value]
 go_wp2
 go_ret
 exact⟨rfl,rfl⟩
theorem ZO (G:Nat->AV)(s:Str)(c:Int):Pure Tryz.prog G 257 [.str s,.int .u8 c] (.int .i64 (Lib.indexByte s c.toNat.toUInt8)):=by
 refine⟨by kernel_rfl,fun w0 ro vs hg hro hvs=>?_⟩;simp only[qh,qf]at hvs;obtain⟨v,vr,e1,rfl,v2,vr2,rfl,rfl,rfl⟩:=hvs;have:vs = #[.string ⟨s.toArray⟩,.int .u8 c]:=by rw[<- qqK (xs:=vs),e1]
 subst this;refine (qlq _ _ _).mono ?_;rintro e w' ⟨rfl,rfl⟩;exact⟨_,ro,rfl,.refl _ _,fun _ _ _ h=>h,hro,fun _ _ _ h _=>h,by simp[qf]⟩
end Go.Proofs.YtcadpamddlofjaaGreatDoor
end
section
namespace Go.Proofs.YtcadpamddlofjaaGreatDoor
open Go Go.Abs
theorem qku (s:Str):qbn.any (fun v=>s==v)=qbn.contains s:=by
 rw[List.any_beq]
theorem qht (s:Str):qbn.any (fun v=>v==s)=qbn.contains s:=by
 rw[List.any_beq']
theorem qoa (s:Str):Pure Tryz.prog GG 150 [.str s] (.bool (qbn.contains s)):=by
 refine Pure.vc qe Tryz.func150 rfl (by kernel_rfl) ?_;simp[GG];refine qb.call (Qn GG qbn s (by decide)) (by simp) ?_;rw[qku];simp
theorem kN (s:Str):Pure Tryz.prog GG 106 [.str s] (.bool (zV s)):=by
 refine Pure.vc qe Tryz.func106 rfl (by kernel_rfl) ?_;simp;refine qb.call (qmV GG s) rfl ?_;cases h1:vQ s
 . simp[zV,h1]
 . by_cases h2:s.length<=16
   . have h2':(s.length:Int)<=16:=(by omega);simp[h2'];refine qb.call (qoa s) rfl ?_;simp[zV,h1,h2]
   . have h2':¬ (s.length:Int)<=16:=(by omega);simp[zV,h1,h2,h2']
theorem qb6:Pure Tryz.prog GG 211 [] (.sl 1 (qbn.map z6) .none):=by
 refine Pure.vc qe Tryz.func211 rfl (by kernel_rfl) ?_;simp[qm,qz,qbn]
theorem qn9 (s:Str):Pure Tryz.prog GG 146 [.str s] (.bool (qbn.contains s)):=by
 refine Pure.vc qe Tryz.func146 rfl (by kernel_rfl) ?_;simp;refine qb.call qb6 rfl ?_;refine qb.call (has325 GG qbn s (by decide)) (by simp) ?_;rw[qht];simp
theorem w9 (s:Str)(hs:Fits s):Pure Tryz.prog GG 104 [.str s] (.bool (zV s)):=by
 refine Pure.vc qe Tryz.func104 rfl (by kernel_rfl) ?_
 cases s with
 | nil=>simp[zV,vQ]
 | cons c r=>
  by_cases h16:(c::r).length<=16
  . have h16':¬ (16:Int)<(r.length:Int)+1:=(by simp at h16;omega);simp[h16'];refine qb.call (qc1 GG c.toNat) rfl ?_;cases hl:kg (c.toNat:Int)
    . simp[zV,vQ,hl]
    . simp;refine qb.call (qn9 (c::r)) rfl ?_;cases hk:qbn.contains (c::r)
      . simp;refine qF.intro (fun n env U=>∃ i,i<=(c::r).length/\n=(c::r).length-i/\env 0=.str (c::r)/\env 3=.int .i64 i/\U=⟨[],[]⟩/\∀ x∈(c::r).take i,QP x=true) (c::r).length ⟨0,by simp⟩ ?_;rintro n env U ⟨i,hi,rfl,h0,h3,rfl,hall⟩
        cases hv:(c::r)[i]? with
        | some v=>
         obtain⟨hc,hv'⟩:=qoX.1 hv;have htake:(c::r).take (i+1)=(c::r).take i++[v]:=(by rw[qpw,hv];rfl);have hc1:(i:Int)<r.length+1:=(by simp at hc;omega);simp[h0,h3,hc1,hv,hv'];refine qb.call (qkI GG v.toNat) rfl ?_;cases hin:yP (v.toNat:Int)
         . have:=Qs (qoZ hv) (show QP v=false from hin);simp[zV,this]
         . simp[h0,h3];refine⟨_,by simp at hc;omega,i+1,by simp at hc;omega,rfl,wr (by omega) (by simp at hc hs;omega),?_⟩;intro x hx;rw[htake,qpk]at hx;rcases hx with hx|hx
           . exact hall x hx
           . rw[qpb.1 hx];exact hin
        | none=>
         have he:i=(c::r).length:=(by simp at hv hi;simp;omega);subst he;have h1:vQ (c::r)=true:=by
          simp only[vQ,qo0];exact⟨hl,qpa.2 fun x hx=>hall x (by simpa using hx)⟩
         have hn:zV (c::r)=true:=(by simp only[zV,h1,hk,decide_eq_true h16];rfl);simp[h0,h3,hn]
      . have hn:zV (c::r)=false:=(by simp only[zV,hk,qrz,qrv]);simp[hn]
  . have h16':(16:Int)<(r.length:Int)+1:=(by simp at h16;omega);have:zV (c::r)=false:=by
     have:decide ((c::r).length<=16)=false:=by simpa using h16
     simp only[zV,this,qrv,qq8]
    simp[h16',this]
theorem v8 {s:Str}:Lib.indexByte s 91=if s.contains 91=true then ((jy s).length:Int) else -1:=by
 unfold jy
 induction s with
 | nil=>simp[Lib.indexByte]
 | cons c r ih=>
  by_cases hc:c=91
  . subst hc;simp[Lib.indexByte]
  . have h1:(c==91)=false:=(by simpa using hc);have h2:¬ (91:UInt8)=c:=fun e=>hc e.symm
    simp only[Lib.indexByte,h1,qpi,if_false,ih,List.contains_cons];have h3:((91:UInt8)==c)=false:=(by simpa using h2);have h4:(c != 91)=true:=(by simpa using hc);rw[h3,qq4,qrG,if_pos h4];by_cases h5:r.contains 91=true
    . rw[if_pos h5,if_pos h5];have:¬ (((r.takeWhile (· != 91)).length:Int) == -1)=true:=by simp
      rw[if_neg this];simp
    . rw[if_neg h5,if_neg h5];simp
theorem qdJ (G:Nat->AV)(s:Str):Pure Tryz.prog G 215 [.str s,.str [91]] (.int .i64 (Lib.indexByte s 91)):=by
 refine Pure.vc qe Tryz.func215 rfl (by kernel_rfl) ?_;by_cases h : [91]=s
 . subst h;simp[Lib.indexByte]
 . simp[h];refine qb.call (ZO G s 91) rfl ?_;simp
theorem cut262 (G:Nat->AV)(s:Str)(hs:Fits s)(h:s.contains 91=true):Pure Tryz.prog G 151 [.str s,.str [91]] (.tup [.str (jy s),.str (JL s),.bool true]):=by
 refine Pure.vc qe Tryz.func151 rfl (by kernel_rfl) ?_;simp;refine qb.call (qdJ G s) rfl ?_;have e:=qmB h;have hl:s.length=(jy s).length+1+(JL s).length:=by
  have:=congrArg List.length e;rw[qo3,qpd]at this;omega
 have hlt:(jy s).length<s.length:=by omega
 have t1:s.take (jy s).length=jy s:=by
  conv=>lhs;arg 2;rw[e]
  simp
 have t2:s.drop ((jy s).length+1)=JL s:=by
  conv=>lhs;arg 2;rw[e]
  simp
 rw[v8,if_pos h];have hw:IntKind.i64.wrap (((jy s).length:Int)+1)=(jy s).length+1:=wr (by omega) (by omega);have h1:((jy s).length:Int)<=s.length:=by omega
 have h2:((jy s).length:Int)+1<=s.length:=by omega
 have h3:(0:Int)<=(jy s).length+1:=by omega
 have h4:(((jy s).length:Int)+1).toNat=(jy s).length+1:=by omega
 have h5:(jy s).length<=s.length:=by omega
 simp[zo,zU,hw,h1,h2,h3,h4,h5,t1,t2]
theorem qoz (G:Nat->AV)(s:Str)(hs:Fits s)(h:s.contains 91=false):Pure Tryz.prog G 151 [.str s,.str [91]] (.tup [.str s,.str [],.bool false]):=by
 refine Pure.vc qe Tryz.func151 rfl (by kernel_rfl) ?_;simp;refine qb.call (qdJ G s) rfl ?_;rw[v8,if_neg (by rw[h];decide)];simp
theorem qie (G:Nat->AV)(s:Str)(hs:Fits s)(h:s.contains 91=true):Pure Tryz.prog G 107 [.str s,.str [91]] (.tup [.str (jy s),.str (JL s),.bool true]):=by
 refine Pure.vc qe Tryz.func107 rfl (by kernel_rfl) ?_;simp;refine qb.call (cut262 G s hs h) rfl ?_;simp
theorem qcs (G:Nat->AV)(s:Str)(hs:Fits s)(h:s.contains 91=false):Pure Tryz.prog G 107 [.str s,.str [91]] (.tup [.str s,.str [],.bool false]):=by
 refine Pure.vc qe Tryz.func107 rfl (by kernel_rfl) ?_;simp;refine qb.call (qoz G s hs h) rfl ?_;simp
theorem qjz (i:Nat)(h:i<9):Pure Tryz.prog GG 276 [.int .i64 i] (.str [UInt8.ofNat (48+i)]):=by
 refine Pure.vc qe Tryz.func276 rfl (by kernel_rfl) ?_;have hw:IntKind.i64.wrap ((i:Int)+1)=(i:Int)+1:=wr (by omega) (by omega);have h10:(i:Int)<10:=by omega
 have h11:i<10:=by omega
 have h36:(i:Int)+1<=36:=by omega
 have h37:(0:Int)<=(i:Int)+1:=by omega
 have h38:(i:Int)<=(i:Int)+1:=by omega
 simp[h10,h11,hw,zo,zU,h36,h37,h38];have:i=0\/i=1\/i=2\/i=3\/i=4\/i=5\/i=6\/i=7\/i=8:=by omega
 rcases this with rfl|rfl|rfl|rfl|rfl|rfl|rfl|rfl|rfl<;>rfl
theorem itoa9 (i:Nat)(h:i<9):Pure Tryz.prog GG 152 [.int .i64 i] (.str [UInt8.ofNat (48+i)]):=by
 refine Pure.vc qe Tryz.func152 rfl (by kernel_rfl) ?_;simp;refine qb.call (r:=.str [UInt8.ofNat (48+i)]) ?_ rfl ?_
 . refine Pure.vc qe Tryz.func216 rfl (by kernel_rfl) ?_;simp;refine qb.call (r:=.str [UInt8.ofNat (48+i)]) ?_ rfl ?_
   . refine Pure.vc qe Tryz.func261 rfl (by kernel_rfl) ?_;have h1:(0:Int)<=i:=(by omega);have h2:(i:Int)<100:=(by omega);have h3:i<100:=(by omega);simp[h1,h2,h3];exact qb.call (qjz i h) rfl (by simp)
   . simp
 . simp
theorem qn8 (i:Nat)(h:i<8):Pure Tryz.prog GG 152 [.int .i64 i] (.str [UInt8.ofNat (48+i)]):=itoa9 i (by omega)
theorem Zu (a:Str)(i:Nat)(hi:i<8)(ha:a.length<=1000):Pure Tryz.prog GG 108 [.str a,.int .i64 i] (.str (zZ a i)):=by
 refine Pure.vc qe Tryz.func108 rfl (by kernel_rfl) ?_;have h1:a.length+1<=4611686018427387904:=by omega
 have h2:a.length+(1+1)<=4611686018427387904:=by omega
 have h3:a.length+(1+(1+1))<=4611686018427387904:=by omega
 have h4:a.length+1+1<=4611686018427387904:=by omega
 have h5:a.length+1+1+1<=4611686018427387904:=by omega
 simp[h1];refine qb.call (qn8 i hi) rfl ?_;simp[h2,h3,h4,h5,zZ]
theorem wk {s:Str}(h:zV s=true):s.length<=16:=by
 simp only[zV,qo0,decide_eq_true_eq]at h;exact h.1.2
theorem qla {s:Str}{i:Nat}(hi:i<8)(hn:zV (jy s)=true)(h:s=zZ (jy s) i):(yU s).isSome=true:=by
 rw[wv (a:=jy s) (i:=i) ⟨hi,hn,h⟩];rfl
theorem qlb {s:Str}(h:∀ i,i<8->s≠zZ (jy s) i):yU s=none:=by
 rw[yc];rintro a i hi;have:=hi.has.2.1;exact h i hi.1 (by rw[this];exact hi.2.2)
theorem qa5 {s:Str}(h:zV (jy s)=false):yU s=none:=by
 rw[yc];rintro a i hi;have:=hi.has.2.1;rw[this,hi.2.1]at h;cases h
theorem qkk (s:Str)(hs:Fits s):Pure Tryz.prog GG 69 [.str s] (.bool (kr s)):=by
 refine Pure.vc qe Tryz.func69 rfl (by kernel_rfl) ?_;simp;refine qb.call (kN s) rfl ?_;cases hn:zV s
 . simp;by_cases hc:s.contains 91=true
   . refine qb.call (qie GG s hs hc) rfl ?_;simp;refine qb.call (kN (jy s)) rfl ?_;cases hh:zV (jy s)
     . simp[kr,hn,qa5 hh]
     . simp;refine qF.intro (fun n env U=>∃ i:Nat,i<=8/\n=8-i/\env 0=.str s/\env 3=.str (jy s)/\env 22=.int .i64 i/\U=⟨[],[]⟩/\∀ j,j<i->s≠zZ (jy s) j) 8 ⟨0,by simp⟩ ?_;rintro n env U ⟨i,hi,rfl,h0,h3,h22,rfl,hall⟩;by_cases h8:i<8
       . have h8':(i:Int)<8:=(by omega);simp[h0,h3,h22,h8'];refine qb.call (Zu (jy s) i h8 (by have:=wk hh;omega)) rfl ?_;by_cases he:s=zZ (jy s) i
         . have hv:kr s=true:=(by simp[kr,qla h8 hh he]);rw[<- he];simp[h0,hv]
         . simp[h0,h3,h22,he];refine⟨_,by omega,i+1,by omega,rfl,wr (by omega) (by omega),?_⟩;intro j hj e;rcases qpT.1 hj with hj|rfl
           . exact hall j hj e
           . exact he e
       . have h8':¬ (i:Int)<8:=(by omega);have hv:kr s=false:=by
          have:yU s=none:=qlb fun j hj=>hall j (by omega)
          simp[kr,hn,this]
         simp[h0,h3,h22,h8',hv]
   . have hc':s.contains 91=false:=(by simpa using hc);refine qb.call (qcs GG s hs hc') rfl ?_;simp[kr,hn,qb1 hc']
 . simp[kr,hn]
theorem qhO:∀ (i:Nat),i<8->Pure Tryz.prog GG 105 [.int .i64 i] (.str [UInt8.ofNat (48+i)]):=by
 have key:∀ (i:Nat),i<8->IntKind.i64.wrap (-(i:Int)) = -i/\(-(i:Int)).tmod 10 = -i/\IntKind.i64.wrap (48+(i:Int))=48+i/\IntKind.u8.wrap (48+(i:Int))=48+i/\IntKind.i64.wrap (-((i:Int) / 10))=0/\(48+(i:Int)).toNat=48+i:=by decide
 intro i hi;obtain⟨k1,k2,k3,k4,k5,k6⟩:=key i hi;refine Pure.vc qe Tryz.func105 rfl (by kernel_rfl) ?_;simp;have below:Pure Tryz.prog GG 148 [.int .i64 i] (.int .i64 (-i)):=by
  refine Pure.vc qe Tryz.func148 rfl (by kernel_rfl) ?_;by_cases h0:i=0
  . subst h0;simp
  . have:0<i:=by omega
    simp[this,k1]
 refine qb.call below rfl ?_;refine qF.intro (fun n env U=>n=1/\env 0=.int .i64 i/\env 3=.str []/\env 4=.int .i64 (-i)/\U=⟨[],[]⟩) 1 ⟨rfl,by simp⟩ ?_;rintro n env U ⟨rfl,h0,h3,h4,rfl⟩;simp[h0,h3,h4,k2,k3,k4,k5,k6,qm,qz,yA,bytesOf]
theorem Zt (a:Str)(i:Nat)(hi:i<8)(ha:a.length<=1000):Pure Tryz.prog GG 66 [.str a,.int .i64 i] (.str (zZ a i)):=by
 refine Pure.vc qe Tryz.func66 rfl (by kernel_rfl) ?_;have h1:a.length+1<=4611686018427387904:=by omega
 have h2:a.length+(1+1)<=4611686018427387904:=by omega
 have h3:a.length+(1+(1+1))<=4611686018427387904:=by omega
 have h4:a.length+1+1<=4611686018427387904:=by omega
 have h5:a.length+1+1+1<=4611686018427387904:=by omega
 simp[h1];refine qb.call (qhO i hi) rfl ?_;simp[h2,h3,h4,h5,zZ]
noncomputable def W9 (s:Str):AV:=match yU s with
 | some (a,i)=>.tup [.str a,.int .i64 i,.bool true]
 | none=>.tup [.str [],.int .i64 0,.bool false]
theorem QY {s a:Str}{i:Nat}(h:jj s a i):W9 s=.tup [.str a,.int .i64 i,.bool true]:=by simp[W9,wv h]
theorem wu {s:Str}(h:yU s=none):W9 s=.tup [.str [],.int .i64 0,.bool false]:=by simp[W9,h]
theorem u8_of {c:UInt8}(h1:48<=c.toNat)(h2:c.toNat<56):UInt8.ofNat (48+(c.toNat-48))=c:=by
 have:48+(c.toNat-48)=c.toNat:=by omega
 rw[this];simp
theorem qav {s t:Str}{c:UInt8}(hn:zV t=true)(h1:48<=c.toNat)(h2:c.toNat<56)(h:s=t++[91,c,93]):jj s t (c.toNat-48) :=
 ⟨by omega,hn,by rw[h,zZ,u8_of h1 h2]⟩
theorem qa4 {s a:Str}{i:Nat}(h:jj s a i):s=a++[91,UInt8.ofNat (48+i),93]/\(UInt8.ofNat (48+i)).toNat=48+i/\i<8:=by
 refine⟨h.2.2,?_,h.1⟩;have:=h.1;simp;omega
theorem We (s:Str)(hs:Fits s):Pure Tryz.prog GG 218 [.str s] (W9 s):=by
 refine Pure.vc qe Tryz.func218 rfl (by kernel_rfl) ?_;simp;cases hc:s.contains 91
 . refine qb.call (qcs GG s hs hc) rfl ?_;rw[wu (qb1 hc)];simp
 . refine qb.call (qie GG s hs hc) rfl ?_;simp;refine qb.call (kN (jy s)) rfl ?_;cases hn:zV (jy s)
   . rw[wu (qa5 hn)];simp
   . have no:(∀ c,JL s=[c,93]->¬ (48<=c.toNat/\c.toNat<56))->W9 s=.tup [.str [],.int .i64 0,.bool false]:=by
      intro h;refine wu (yc.2 fun a i hi=>?_);obtain⟨e1,e2,e3⟩:=qa4 hi;exact h _ hi.has.2.2 ⟨by omega,by omega⟩
     cases ht:JL s with
     | nil=>rw[no (by simp[ht])];simp
     | cons c r1=>
      cases r1 with
      | nil=>rw[no (by simp[ht])];simp
      | cons d r2=>
       cases r2 with
       | cons e r3=>
        have hl:¬ ((r3.length:Int)+1+1+1=2):=(by omega);rw[no (by simp[ht])];simp[hl]
       | nil=>
        by_cases hd:d=93
        . subst hd;by_cases h1:48<=c.toNat
          . have h1':¬ (c.toNat:Int)<48:=(by omega);by_cases h2:c.toNat<56
            . have h2':¬ (56:Int)<=c.toNat:=(by omega);have e:jj s (jy s) (c.toNat-48):=qav hn h1 h2 (by have:=qmB hc;rw[ht]at this;exact this);rw[QY e];have w1:IntKind.u8.wrap ((c.toNat:Int)-48)=c.toNat-48:=(by simp[IntKind.wrap,IntKind.bits,IntKind.signed];omega);have w2:IntKind.i64.wrap ((c.toNat:Int)-48)=c.toNat-48:=wr (by omega) (by omega);have w3:((c.toNat:Int)-48)=((c.toNat-48:Nat):Int):=(by omega);simp[h1',h2',yA,w1,w2];omega
            . have h2':(56:Int)<=c.toNat:=(by omega);rw[no (fun c' e=>by rw[ht]at e;cases e;omega)];simp[h1',h2']
          . have h1':(c.toNat:Int)<48:=(by omega);rw[no (fun c' e=>by rw[ht]at e;cases e;omega)];simp[h1']
        . have hd':¬ (d.toNat:Int)=93:=by
           intro e;exact hd (UInt8.toNat_inj.1 (by simp;omega))
          rw[no (fun c' e=>by rw[ht]at e;cases e;exact absurd rfl hd)];simp[hd']
theorem qkC (s:Str)(hs:Fits s):Pure Tryz.prog GG 155 [.str s] (.bool (kr s)):=by
 refine Pure.vc qe Tryz.func155 rfl (by kernel_rfl) ?_;simp
 cases he:yU s with
 | some p=>
  obtain⟨a,i⟩:=p;refine qb.call (by have:=We s hs;rw[QY (yG.1 he)]at this;exact this) rfl ?_;simp[kr,he]
 | none=>
  refine qb.call (by have:=We s hs;rw[wu he]at this;exact this) rfl ?_;simp;refine qb.call (kN s) rfl ?_;simp[kr,he]
theorem last3 {s:Str}(h:3<=s.length):∃ t x y z,s=t++[x,y,z]:=by
 refine⟨s.take (s.length-3),s[s.length-3]'(by omega),s[s.length-2]'(by omega),s[s.length-1]'(by omega),?_⟩;have e:s.drop (s.length-3)=[s[s.length-3]'(by omega),s[s.length-2]'(by omega),s[s.length-1]'(by omega)]:=by
  rw[qph (by omega),qph (by omega),qph (by omega),List.drop_eq_nil_of_le (by omega)];simp only[List.cons.injEq,and_true,true_and];exact⟨by congr 1;omega,by congr 1;omega⟩
 rw[<- e,qpY]
theorem qfi {s:Str}(h:s.length<4):yU s=none:=by
 rw[yc];intro a i hi;have:=WO hi.2.1;have:=qpe.2 this;rw[hi.2.2]at h;simp at h;omega
theorem qcY (s:Str)(hs:Fits s):Pure Tryz.prog GG 255 [.str s] (W9 s):=by
 refine Pure.vc qe Tryz.func255 rfl (by kernel_rfl) ?_;by_cases h4:s.length<4
 . have h4':(s.length:Int)<4:=(by omega);rw[wu (qfi h4)];simp[h4']
 . obtain⟨t,x,y,z,rfl⟩:=last3 (s:=s) (by omega);have hl:(t++[x,y,z]).length=t.length+3:=(by simp);rw[Fits,hl]at hs;rw[hl]at h4;have no:¬ (x=91/\z=93/\48<=y.toNat/\y.toNat<56/\zV t=true)->W9 (t++[x,y,z])=.tup [.str [],.int .i64 0,.bool false]:=by
    intro h;refine wu (yc.2 fun a i hi=>h ?_);obtain⟨e1,e2,e3⟩:=qa4 hi;obtain⟨e4,e5⟩:=List.append_inj' e1 rfl;cases e5;subst e4;exact⟨rfl,rfl,by omega,by omega,hi.2.1⟩
   have h4':¬ (t.length:Int)+3<4:=(by omega);have w1:IntKind.i64.wrap ((t.length:Int)+3-1)=((t.length+2:Nat):Int):=(by rw[wr (by omega) (by omega)];omega);have w2:IntKind.i64.wrap ((t.length:Int)+3-2)=((t.length+1:Nat):Int):=(by rw[wr (by omega) (by omega)];omega);have w3:IntKind.i64.wrap (t.length:Int)=t.length:=wr (by omega) (by omega);have w4:IntKind.i64.wrap ((t.length:Int)+3-3)=t.length:=(by rw[wr (by omega) (by omega)];omega);have g1:(t++[x,y,z])[t.length+2]?=some z:=(by simp);have g2:(t++[x,y,z])[t.length+1]?=some y:=(by simp);have g3:(t++[x,y,z])[t.length]?=some x:=(by simp);have g4:(t++[x,y,z]).take t.length=t:=(by simp);have n1:((t.length:Int)+2).toNat=t.length+2:=(by omega);have n2:((t.length:Int)+1).toNat=t.length+1:=(by omega);have p1:(0:Int)<=(t.length:Int)+2:=(by omega);have p2:(0:Int)<=(t.length:Int)+1:=(by omega);have hle:t.length<=t.length+3:=(by omega);have hn210:=w9 t (show t.length<_ by omega);have yes:x=91->z=93->48<=y.toNat->y.toNat<56->zV t=true->W9 (t++[x,y,z])=.tup [.str t,.int .i64 ((y.toNat:Int)-48),.bool true]:=by
    rintro rfl rfl h1 h2 h3;rw[QY (qav h3 h1 h2 rfl)];congr 4;omega
   generalize hS:t++[x,y,z]=S at *;generalize t.length=T at *;have q1:S[T+2]'(by omega)=z:=(qoX.1 g1).2;have q2:S[T+1]'(by omega)=y:=(qoX.1 g2).2;have q3:S[T]'(by omega)=x:=(qoX.1 g3).2;have le3:(T:Int)<=(T:Int)+3:=(by omega);by_cases hz:z=93
   . by_cases hx:x=91
     . subst hx hz;have wy1:IntKind.i64.wrap (y.toNat:Int)=y.toNat:=(by have:=y.toNat_lt;exact wr (by omega) (by omega));have wy2:IntKind.i64.wrap ((y.toNat:Int)-48)=y.toNat-48:=(by have:=y.toNat_lt;exact wr (by omega) (by omega));by_cases h1:48<=y.toNat
       . by_cases h2:y.toNat<56
         . have h1':¬ (y.toNat:Int)-48<0:=(by omega);have h2':¬ (8:Int)<=(y.toNat:Int)-48:=(by omega);simp[hl,h4',w1,w2,w3,w4,q1,q2,q3,le3,g4,n1,n2,p1,p2,hle,yA,wy1,wy2,h1',h2',zo,zU];refine qb.call hn210 rfl ?_;cases hnt:zV t
           . rw[no (fun h=>by rw[hnt]at h;cases h.2.2.2.2)];simp
           . rw[yes rfl rfl h1 h2 hnt];simp
         . rw[no (fun h=>h2 h.2.2.2.1)];have h1':¬ (y.toNat:Int)-48<0:=(by omega);have h2':(8:Int)<=(y.toNat:Int)-48:=(by omega);simp[hl,h4',w1,w2,w3,w4,q1,q2,q3,le3,g4,n1,n2,p1,p2,hle,yA,wy1,wy2,h1',h2',zo,zU]
       . rw[no (fun h=>h1 h.2.2.1)];have h1':(y.toNat:Int)-48<0:=(by omega);simp[hl,h4',w1,w2,w3,w4,q1,q2,q3,le3,g4,n1,n2,p1,p2,hle,yA,wy1,wy2,h1',zo,zU]
     . have hx':¬ (x.toNat:Int)=91:=by
        intro e;exact hx (UInt8.toNat_inj.1 (by simp;omega))
       rw[no (fun h=>hx h.1)];subst hz;simp[hl,h4',w1,w2,w3,w4,q1,q2,q3,le3,g4,n1,n2,p1,p2,hx']
   . have hz':¬ (z.toNat:Int)=93:=by
      intro e;exact hz (UInt8.toNat_inj.1 (by simp;omega))
     rw[no (fun h=>hz h.2.1)];simp[hl,h4',w1,w2,w3,w4,q1,q2,q3,le3,g4,n1,n2,p1,p2,hz']
theorem qkB (s:Str)(hs:Fits s):Pure Tryz.prog GG 209 [.str s] (.bool (kr s)):=by
 refine Pure.vc qe Tryz.func209 rfl (by kernel_rfl) ?_;simp
 cases he:yU s with
 | some p=>
  obtain⟨a,i⟩:=p;refine qb.call (by have:=qcY s hs;rw[QY (yG.1 he)]at this;exact this) rfl ?_;simp[kr,he]
 | none=>
  refine qb.call (by have:=qcY s hs;rw[wu he]at this;exact this) rfl ?_;simp;refine qb.call (w9 s hs) rfl ?_;simp[kr,he]
theorem qkj (s:Str)(hs:Fits s):Pure Tryz.prog GG 65 [.str s] (.bool (kr s)):=by
 refine Pure.vc qe Tryz.func65 rfl (by kernel_rfl) ?_;simp;refine qb.call (w9 s hs) rfl ?_;cases hn:zV s
 . simp;refine qF.intro (fun n env U=>∃ k:Nat,1<=k/\k<=s.length+1/\n=s.length+1-k/\env 0=.str s/\env 3=.int .i64 k/\U=⟨[],[]⟩/\∀ a i,jj s a i->¬ a.length<k) s.length ⟨1,by simp,by simp,by simp,by simp,by simp,rfl,fun a i hi=>by have:=qpe.2 (WO hi.2.1);omega⟩ ?_;rintro n env U ⟨k,hk1,hk,rfl,h0,h3,rfl,hall⟩;by_cases hlt:k<s.length
   . have hlt':(k:Int)<s.length:=(by omega);have hle':(k:Int)<=s.length:=(by omega);have hle:k<=s.length:=(by omega);have step:(∀ a i,jj s a i->a.length≠k)->∀ a i,jj s a i->¬ a.length<k+1:=fun h a i hi hl=>by
      rcases qpT.1 hl with h1|h1
      . exact hall a i hi h1
      . exact h a i hi h1
     have at91:∀ a i,jj s a i->a.length=k->s[k]=91/\s.take k=a:=fun a i hi hl=>by
      obtain⟨_,_,rfl⟩:=hi;subst hl;simp[zZ]
     have hw:IntKind.i64.wrap ((k:Int)+1)=((k+1:Nat):Int):=(by rw[wr (by omega) (by omega)];omega);by_cases hc:s[k]=91
     . simp[h0,h3,hlt,hc,zo,zU,hle,hle'];refine qb.call (w9 (s.take k) (by simp;omega)) rfl ?_;cases ht:zV (s.take k)
       . simp[h0,h3,hw];refine⟨_,by omega,k+1,by omega,by omega,rfl,rfl,fun a i hi=>Nat.not_lt.1 (step (fun a i hi hl=>?_) a i hi)⟩;have:=(at91 a i hi hl).2;rw[this,hi.2.1]at ht;cases ht
       . simp[h0,h3];refine qF.intro (fun n env U=>∃ i:Nat,i<=8/\n=8-i/\env 0=.str s/\env 3=.int .i64 k/\env 4=.int .i64 i/\U=⟨[],[]⟩/\∀ j,j<i->s≠zZ (s.take k) j) 8 ⟨0,by simp[h0,h3]⟩ ?_;rintro n env U ⟨i,hi,rfl,h0,h3,h4,rfl,hin⟩;by_cases h8:i<8
         . have h8':(i:Int)<8:=(by omega);simp[h0,h3,h4,h8',zo,zU,hle,hle'];refine qb.call (Zt (s.take k) i h8 (by have:=wk ht;omega)) rfl ?_;by_cases he:s=zZ (s.take k) i
           . have hv:kr s=true:=(by simp[kr,wv (show jj s (s.take k) i from ⟨h8,ht,he⟩)]);rw[<- he];simp[h0,hv]
           . simp[h0,h3,h4,he];refine⟨_,by omega,i+1,by omega,rfl,wr (by omega) (by omega),?_⟩;intro j hj e;rcases qpT.1 hj with hj|rfl
             . exact hin j hj e
             . exact he e
         . have h8':¬ (i:Int)<8:=(by omega);simp[h0,h3,h4,h8',hw];refine⟨_,by omega,k+1,by omega,by omega,rfl,rfl,fun a i hi=>Nat.not_lt.1 (step (fun a i' hi' hl=>?_) a i hi)⟩;have:=(at91 a i' hi' hl).2;exact hin i' (by have:=hi'.1;omega) (by rw[this];exact hi'.2.2)
     . have hc':¬ (s[k].toNat:Int)=91:=by
        intro e;exact hc (UInt8.toNat_inj.1 (by simp;omega))
       simp[h0,h3,hlt,hc',hw];refine⟨_,by omega,k+1,by omega,by omega,rfl,rfl,fun a i hi=>Nat.not_lt.1 (step (fun a i hi hl=>?_) a i hi)⟩;exact hc (at91 a i hi hl).1
   . have hlt':¬ (k:Int)<s.length:=(by omega);have hv:kr s=false:=by
      have:yU s=none:=yc.2 fun a i hi=>hall a i hi (by rw[hi.2.2]at hlt;simp at hlt;omega)
      simp[kr,hn,this]
     simp[h0,h3,hlt,hv]
 . simp[kr,hn]
section
theorem qc5 {S:Type}{stp:S->Ex->S×Bool}{s:S}{e:Ex}:QA stp s (pre e)=if (stp s e).2=true then QA stp (stp s e).1 (wC e.args) else ((stp s e).1,false):=by
 rw[jk,QA]
theorem look {hd:List Blk}{c:Nat}(hc:hd.length=c){t:List Blk}{k:Nat}:(hd++t)[c+k]?=t[k]? := by
 subst hc;rw[qo5 (by omega)];simp
theorem qkn {tail t:List Blk}{k:Nat}{b:Blk}(h:tail[k]?=some b):(tail++t)[k]?=some b:=by
 rw[qo8 (qoX.1 h).1,h]
def Wen (e:Ex):Prop:=∀ x∈pre e,Fits x.args/\Fits x.name
theorem Wen.fits {e:Ex}(h:Wen e):Fits e.args:=(h e (by rw[jk];simp)).1
theorem Wen.nm {e:Ex}(h:Wen e):Fits e.name:=(h e (by rw[jk];simp)).2
theorem Wen.arg {e a:Ex}(h:Wen e)(ha:a∈e.args):Wen a:=fun x hx=>h x (by rw[jk];exact qpI _ (vG.2 ⟨a,ha,hx⟩))
section
variable {S:Type}{stp:S->Ex->S×Bool}{hd:S->List Blk}{T:S->List (Option Nat)}{c:Nat}{vf:FuncId}{cap:List AV}{m:S->Nat}
def qbh (stp:S->Ex->S×Bool)(hd:S->List Blk)(T:S->List (Option Nat))(vf:FuncId)(cap:List AV)(m:S->Nat):Prop :=
 ∀ s tail e,Wen e->0<m s->qg Tryz.prog GG vf (.agg (qt e)::cap) ⟨hd s++tail,T s⟩ (fun r U'=>r=.bool (stp s e).2/\∃ t,U'=⟨hd (stp s e).1++(tail++t),T (stp s e).1⟩)
theorem qlW (hm:∀ s e,m s<=m (stp s e).1+1):∀ (s:S) (l:List Ex),m s<=m (QA stp s l).1+l.length
 | s,[]=>by simp[QA]
 | s,e::r=>by
  simp only[QA];split
  . have:=hm s e;have:=qlW hm (stp s e).1 r;simp;omega
  . have:=hm s e;simp;omega
theorem qov (hc:∀ s,(hd s).length=c)(hm:∀ s e,m s<=m (stp s e).1+1)(hv:qbh stp hd T vf cap m):∀ e,Wen e->∀ s tail kb kd,(pre e).length<=m s->tail[kb]?=some (.cells [.fn vf [] cap])->tail[kd]?=some (.cells [.fn 153 [] [.ptr (c+kb) 0,.ptr (c+kd) 0]]) ->
 qg Tryz.prog GG 153 [.agg (qt e),.ptr (c+kb) 0,.ptr (c+kd) 0] ⟨hd s++tail,T s⟩ (fun r U'=>r=.bool (QA stp s (pre e)).2/\∃ t,U'=⟨hd (QA stp s (pre e)).1++(tail++t),T (QA stp s (pre e)).1⟩):=by
 refine Ex.ind fun e ih hwe s tail kb kd hsz hb hd'=>?_
 rw[jk,qpd]at hsz;refine qg.vc qe Tryz.func153 rfl (by kernel_rfl) ?_;have lb:∀ s t,(hd s++(tail++t))[c+kb]?=some (.cells [.fn vf [] cap]):=fun s t=>by rw[look (hc s),qkn hb]
 have ld:∀ s t,(hd s++(tail++t))[c+kd]?=some (.cells [.fn 153 [] [.ptr (c+kb) 0,.ptr (c+kd) 0]]):=fun s t=>by rw[look (hc s),qkn hd']
 have lx:∀ s (t:List Blk) (x:Blk) (u:List Blk),(hd s++(tail++(t++x::u)))[c+(tail.length+t.length)]?=some x:=fun s t x u=>by
  rw[look (hc s),qo5 (by omega),qo5 (by omega)];simp
 have lx0:∀ s (x:Blk) (u:List Blk),(hd s++(tail++(x::u)))[c+tail.length]?=some x:=fun s x u=>by
  have:=lx s [] x u;simpa using this
 simp[qd,hc,lb,ld,lx0];rw[<- qd e];refine qg.imp (hv s (tail++[.cells (qt e)]) e hwe (by omega)) ?_;rintro r U' ⟨rfl,t,rfl⟩;have e0:hd (stp s e).1++(tail++[Blk.cells (qt e)]++t)=hd (stp s e).1++(tail++(Blk.cells (qt e)::t)):=by simp
 rw[e0];cases hst:(stp s e).2
 . simp[qc5,hst]
 . have hl:=hwe.fits;simp only[qd e];simp[hc,lx0];refine qF.intro (fun n env U=>∃ i s' tl,i<=e.args.length/\n=e.args.length-i/\env 1=.ptr (c+kb) 0/\env 2=.ptr (c+kd) 0/\env 12=.sl 4 (e.args.map qt) .none/\env 13=.int .i64 e.args.length/\env 14=.int .i64 i/\U=⟨hd s'++(tail++tl),T s'⟩/\(wC (e.args.drop i)).length<=m s'/\QA stp s (pre e)=QA stp s' (wC (e.args.drop i))) e.args.length ⟨0,(stp s e).1,_,by simp,by simp,by simp,by simp,by simp,by simp,by simp,rfl,by have:=hm s e;simp;omega,by rw[qc5,hst];simp⟩ ?_;rintro n env U ⟨i,s',tl,hi,rfl,h1,h2,h12,h13,h14,rfl,hsz',hrun⟩
   cases hv':e.args[i]? with
   | none=>
    have hcn:¬ i<e.args.length:=(by simp at hv';omega);have hd0:e.args.drop i=[]:=(by simp;omega);rw[hd0]at hrun;simp[h1,h2,h12,h13,h14,hcn,hrun,QA]
   | some a=>
    obtain⟨hcn,hve⟩:=qoX.1 hv';have hma:=qoZ hv';rw[zD hv',yi,JT]at hrun;rw[zD hv',yi,qo3]at hsz';have hmr:=qlW hm s' (pre a);have set1:∀ (z x:Blk),(hd s'++(tail++(tl++[z]))).set (c+(tail.length+tl.length)) x=hd s'++(tail++(tl++[x])):=fun z x=>by
     rw[qpo,if_neg (by rw[hc];omega),hc,qpo,if_neg (by omega),qpo,if_neg (by omega)];have:c+(tail.length+tl.length)-c-tail.length-tl.length=0:=by omega
     rw[this];rfl
    simp[h1,h2,h12,h13,h14,hcn,hve,qd a,hc,lx,set1,lb,ld];rw[<- qd a];refine qg.imp (ih a hma (hwe.arg hma) s' (tail++(tl++[.cells (qt a)])) kb kd (by omega) (qkn hb) (qkn hd')) ?_;rintro r U' ⟨rfl,t',rfl⟩;cases hr:(QA stp s' (pre a)).2
    . rw[hr]at hrun;simp only[qpi,if_false]at hrun;simp[hrun,hr]
    . rw[hr]at hrun;simp only[if_true]at hrun;simp[h1,h2,h12,h13,h14];exact⟨_,by omega,i+1,by omega,rfl,wr (by omega) (by omega),_,⟨⟨_,rfl⟩,rfl⟩,by omega,hrun⟩
theorem qbr (hc:∀ s,(hd s).length=c)(hm:∀ s e,m s<=m (stp s e).1+1)(hv:qbh stp hd T vf cap m)(e:Ex)(hwe:Wen e)(s:S)(hsz:(pre e).length<=m s)(tail:List Blk) :
 qg Tryz.prog GG 112 [.agg (qt e),.fn vf [] cap] ⟨hd s++tail,T s⟩ (fun r U'=>∃ t,U'=⟨hd (QA stp s (pre e)).1++(tail++t),T (QA stp s (pre e)).1⟩):=by
 refine qg.vc qe Tryz.func112 rfl (by kernel_rfl) ?_;have set2:∀ (x y z w:Blk),(hd s++(tail++[x,y,z])).set (c+(tail.length+(1+1))) w=hd s++(tail++[x,y,w]):=fun x y z w=>by
  rw[qpo,if_neg (by rw[hc];omega),hc,qpo,if_neg (by omega)];have:c+(tail.length+(1+1))-c-tail.length=2:=by omega
  rw[this];rfl
 have l0:∀ (x:Blk) (u:List Blk),(hd s++(tail++(x::u)))[c+tail.length]?=some x:=fun x u=>by
  rw[look (hc s),qo5 (by omega)];simp
 have l2:∀ (x y z:Blk) (u:List Blk),(hd s++(tail++(x::y::z::u)))[c+(tail.length+(1+1))]?=some z:=fun x y z u=>by
  rw[look (hc s),qo5 (by omega)];have:tail.length+(1+1)-tail.length=2:=by omega
  rw[this];rfl
 simp[qd e,hc,set2,l0,l2];rw[<- qd e];have k:=qov hc hm hv e hwe s (tail++[.cells (qt e),.cells [.fn vf [] cap],.cells [.fn 153 [] [.ptr (c+(tail.length+1)) 0,.ptr (c+(tail.length+1)+1) 0]]]) (tail.length+1) (tail.length+1+1) hsz
  (by rw[qo5 (by omega)];have:tail.length+1-tail.length=1:=by omega
      rw[this];rfl)
  (by rw[qo5 (by omega)];have:tail.length+1+1-tail.length=2:=by omega
      rw[this];rfl)
 refine qg.imp k ?_;rintro r U' ⟨_,t,rfl⟩;exact⟨_,by rw[qps]⟩
end
end
end Go.Proofs.YtcadpamddlofjaaGreatDoor
end
