/- A part of the proof. -/
import Derived.Test.YtpgcmnabljandaaGreatDoorPa01
import Derived.Test.YtpgcmnabljandaaGreatDoorProg
import Derived.KernelRfl
set_option linter.unusedSimpArgs false
set_option linter.unusedVariables false
set_option linter.defProp false
section
namespace Go.Proofs.YtpgcmnabljandaaGreatDoor
open Go Go.Abs
noncomputable abbrev Zp:=Tryz.prog
@[simp]theorem D1:Dof Zp 1=some (⟨1,8,[AV.nilf],AV.nilf,TD.fn,true⟩:TI):=by kernel_rfl
@[simp]theorem D2:Dof Zp 2=some (⟨1,8,[AV.int IntKind.i64 0],AV.int IntKind.i64 0,TD.int IntKind.i64,true⟩:TI):=by kernel_rfl
@[simp]theorem D3:Dof Zp 3=some (⟨1,8,[AV.int IntKind.i64 0],AV.int IntKind.i64 0,TD.int IntKind.i64,true⟩:TI):=by kernel_rfl
@[simp]theorem D4:Dof Zp 4=some (⟨1,1,[AV.bool false],AV.bool false,TD.bool,true⟩:TI):=by kernel_rfl
@[simp]theorem D5:Dof Zp 5=some (⟨1,1,[AV.int IntKind.u8 0],AV.int IntKind.u8 0,TD.int IntKind.u8,true⟩:TI):=by kernel_rfl
@[simp]theorem D9:Dof Zp 9=some (⟨1,16,[AV.str []],AV.str [],TD.str,true⟩:TI):=by kernel_rfl
@[simp]theorem D22:Dof Zp 22=some (⟨1,24,[AV.sl 0 [] Tok.nil],AV.sl 0 [] Tok.nil,TD.sl 43,true⟩:TI):=by kernel_rfl
@[simp]theorem D23:Dof Zp 23=some (⟨1,24,[AV.sl 0 [] Tok.nil],AV.sl 0 [] Tok.nil,TD.sl 9,true⟩:TI):=by kernel_rfl
@[simp]theorem D24:Dof Zp 24=some (⟨1,24,[AV.sl 0 [] Tok.nil],AV.sl 0 [] Tok.nil,TD.sl 68,true⟩:TI):=by kernel_rfl
@[simp]theorem D25:Dof Zp 25=some (⟨1,24,[AV.sl 0 [] Tok.nil],AV.sl 0 [] Tok.nil,TD.sl 107,true⟩:TI):=by kernel_rfl
@[simp]theorem D27:Dof Zp 27=some (⟨5,112,[AV.sl 0 [] Tok.nil,AV.str [],AV.sl 0 [] Tok.nil,AV.sl 0 [] Tok.nil,AV.sl 0 [] Tok.nil],AV.agg [AV.sl 0 [] Tok.nil,AV.str [],AV.sl 0 [] Tok.nil,AV.sl 0 [] Tok.nil,AV.sl 0 [] Tok.nil],TD.st [(0,22),(1,9),(2,23),(3,24),(4,25)],true⟩:TI):=by kernel_rfl
@[simp]theorem D28:Dof Zp 28=some (⟨1,24,[AV.sl 0 [] Tok.nil],AV.sl 0 [] Tok.nil,TD.sl 3,true⟩:TI):=by kernel_rfl
@[simp]theorem D31:Dof Zp 31=some (⟨1,24,[AV.sl 0 [] Tok.nil],AV.sl 0 [] Tok.nil,TD.sl 65,true⟩:TI):=by kernel_rfl
@[simp]theorem D32:Dof Zp 32=some (⟨1,24,[AV.sl 0 [] Tok.nil],AV.sl 0 [] Tok.nil,TD.sl 55,true⟩:TI):=by kernel_rfl
@[simp]theorem D33:Dof Zp 33=some (⟨1,24,[AV.sl 0 [] Tok.nil],AV.sl 0 [] Tok.nil,TD.sl 118,true⟩:TI):=by kernel_rfl
@[simp]theorem D34:Dof Zp 34=some (⟨1,24,[AV.sl 0 [] Tok.nil],AV.sl 0 [] Tok.nil,TD.sl 28,true⟩:TI):=by kernel_rfl
@[simp]theorem D36:Dof Zp 36=some (⟨5,120,[AV.sl 0 [] Tok.nil,AV.sl 0 [] Tok.nil,AV.sl 0 [] Tok.nil,AV.sl 0 [] Tok.nil,AV.sl 0 [] Tok.nil],AV.agg [AV.sl 0 [] Tok.nil,AV.sl 0 [] Tok.nil,AV.sl 0 [] Tok.nil,AV.sl 0 [] Tok.nil,AV.sl 0 [] Tok.nil],TD.st [(0,31),(1,32),(2,32),(3,33),(4,34)],true⟩:TI):=by kernel_rfl
@[simp]theorem D37:Dof Zp 37=some (⟨1,8,[AV.int IntKind.i64 0],AV.int IntKind.i64 0,TD.int IntKind.i64,true⟩:TI):=by kernel_rfl
@[simp]theorem D40:Dof Zp 40=some (⟨1,24,[AV.sl 0 [] Tok.nil],AV.sl 0 [] Tok.nil,TD.sl 140,true⟩:TI):=by kernel_rfl
@[simp]theorem D41:Dof Zp 41=some (⟨1,24,[AV.sl 0 [] Tok.nil],AV.sl 0 [] Tok.nil,TD.sl 52,true⟩:TI):=by kernel_rfl
@[simp]theorem D43:Dof Zp 43=some (⟨4,80,[AV.str [],AV.str [],AV.sl 0 [] Tok.nil,AV.sl 0 [] Tok.nil],AV.agg [AV.str [],AV.str [],AV.sl 0 [] Tok.nil,AV.sl 0 [] Tok.nil],TD.st [(0,9),(1,9),(2,40),(3,41)],true⟩:TI):=by kernel_rfl
@[simp]theorem D52:Dof Zp 52=some (⟨2,40,[AV.str [],AV.sl 0 [] Tok.nil],AV.agg [AV.str [],AV.sl 0 [] Tok.nil],TD.st [(0,9),(1,24)],true⟩:TI):=by kernel_rfl
@[simp]theorem D55:Dof Zp 55=some (⟨4,56,[AV.int IntKind.i64 0,AV.int IntKind.i64 0,AV.str [],AV.sl 0 [] Tok.nil],AV.agg [AV.int IntKind.i64 0,AV.int IntKind.i64 0,AV.str [],AV.sl 0 [] Tok.nil],TD.st [(0,3),(1,3),(2,9),(3,32)],true⟩:TI):=by kernel_rfl
@[simp]theorem D65:Dof Zp 65=some (⟨4,40,[AV.str [],AV.int IntKind.i64 0,AV.int IntKind.i64 0,AV.int IntKind.i64 0],AV.agg [AV.str [],AV.int IntKind.i64 0,AV.int IntKind.i64 0,AV.int IntKind.i64 0],TD.st [(0,9),(1,3),(2,3),(3,3)],true⟩:TI):=by kernel_rfl
@[simp]theorem D66:Dof Zp 66=some (⟨1,24,[AV.sl 0 [] Tok.nil],AV.sl 0 [] Tok.nil,TD.sl 155,true⟩:TI):=by kernel_rfl
@[simp]theorem D68:Dof Zp 68=some (⟨12,216,[AV.int IntKind.i64 0,AV.int IntKind.i64 0,AV.int IntKind.i64 0,AV.str [],AV.sl 0 [] Tok.nil,AV.str [],AV.str [],AV.sl 0 [] Tok.nil,AV.sl 0 [] Tok.nil,AV.sl 0 [] Tok.nil,AV.sl 0 [] Tok.nil,AV.sl 0 [] Tok.nil],AV.agg [AV.int IntKind.i64 0,AV.int IntKind.i64 0,AV.int IntKind.i64 0,AV.str [],AV.sl 0 [] Tok.nil,AV.str [],AV.str [],AV.sl 0 [] Tok.nil,AV.sl 0 [] Tok.nil,AV.sl 0 [] Tok.nil,AV.sl 0 [] Tok.nil,AV.sl 0 [] Tok.nil],TD.st [(0,3),(1,55),(5,9),(6,9),(7,66),(8,24),(9,24),(10,23),(11,23)],true⟩:TI):=by kernel_rfl
@[simp]theorem D84:Dof Zp 84=some (⟨1,8,[AV.nilp],AV.nilp,TD.ptr 88,true⟩:TI):=by kernel_rfl
@[simp]theorem D86:Dof Zp 86=some (⟨1,8,[AV.nilm],AV.nilm,TD.map 3 28,true⟩:TI):=by kernel_rfl
@[simp]theorem D88:Dof Zp 88=some (⟨10,208,[AV.str [],AV.str [],AV.sl 0 [] Tok.nil,AV.sl 0 [] Tok.nil,AV.sl 0 [] Tok.nil,AV.sl 0 [] Tok.nil,AV.sl 0 [] Tok.nil,AV.sl 0 [] Tok.nil,AV.sl 0 [] Tok.nil,AV.nilm],AV.agg [AV.str [],AV.str [],AV.sl 0 [] Tok.nil,AV.sl 0 [] Tok.nil,AV.sl 0 [] Tok.nil,AV.sl 0 [] Tok.nil,AV.sl 0 [] Tok.nil,AV.sl 0 [] Tok.nil,AV.sl 0 [] Tok.nil,AV.nilm],TD.st [(0,43),(4,36),(9,86)],true⟩:TI):=by kernel_rfl
@[simp]theorem D89:Dof Zp 89=some (⟨1,24,[AV.sl 0 [] Tok.nil],AV.sl 0 [] Tok.nil,TD.sl 24,true⟩:TI):=by kernel_rfl
@[simp]theorem D94:Dof Zp 94=some (⟨1,8,[AV.nilf],AV.nilf,TD.fn,true⟩:TI):=by kernel_rfl
@[simp]theorem D102:Dof Zp 102=some (⟨5,88,[AV.str [],AV.str [],AV.sl 0 [] Tok.nil,AV.sl 0 [] Tok.nil,AV.bool false],AV.agg [AV.str [],AV.str [],AV.sl 0 [] Tok.nil,AV.sl 0 [] Tok.nil,AV.bool false],TD.st [(0,43),(4,4)],true⟩:TI):=by kernel_rfl
@[simp]theorem D103:Dof Zp 103=some (⟨1,8,[AV.nilp],AV.nilp,TD.ptr 102,true⟩:TI):=by kernel_rfl
@[simp]theorem D107:Dof Zp 107=some (⟨2,24,[AV.str [],AV.int IntKind.i64 0],AV.agg [AV.str [],AV.int IntKind.i64 0],TD.st [(0,9),(1,3)],true⟩:TI):=by kernel_rfl
@[simp]theorem D118:Dof Zp 118=some (⟨2,32,[AV.int IntKind.i64 0,AV.sl 0 [] Tok.nil],AV.agg [AV.int IntKind.i64 0,AV.sl 0 [] Tok.nil],TD.st [(0,3),(1,66)],true⟩:TI):=by kernel_rfl
@[simp]theorem D128:Dof Zp 128=some (⟨1,8,[AV.nilf],AV.nilf,TD.fn,true⟩:TI):=by kernel_rfl
@[simp]theorem D137:Dof Zp 137=some (⟨1,24,[AV.sl 0 [] Tok.nil],AV.agg [AV.sl 0 [] Tok.nil],TD.st [(0,25)],true⟩:TI):=by kernel_rfl
@[simp]theorem D140:Dof Zp 140=some (⟨5,48,[AV.str [],AV.int IntKind.i64 0,AV.int IntKind.i64 0,AV.int IntKind.i64 0,AV.int IntKind.i64 0],AV.agg [AV.str [],AV.int IntKind.i64 0,AV.int IntKind.i64 0,AV.int IntKind.i64 0,AV.int IntKind.i64 0],TD.st [(0,9),(1,3),(2,3),(3,3),(4,3)],true⟩:TI):=by kernel_rfl
@[simp]theorem D147:Dof Zp 147=some (⟨1,8,[AV.nilm],AV.nilm,TD.map 9 3,true⟩:TI):=by kernel_rfl
@[simp]theorem D150:Dof Zp 150=some (⟨3,40,[AV.nilm,AV.sl 0 [] Tok.nil,AV.bool false],AV.agg [AV.nilm,AV.sl 0 [] Tok.nil,AV.bool false],TD.st [(0,147),(1,24),(2,4)],true⟩:TI):=by kernel_rfl
@[simp]theorem D155:Dof Zp 155=some (⟨4,32,[AV.int IntKind.i64 0,AV.int IntKind.i64 0,AV.int IntKind.i64 0,AV.bool false],AV.agg [AV.int IntKind.i64 0,AV.int IntKind.i64 0,AV.int IntKind.i64 0,AV.bool false],TD.st [(0,3),(1,3),(2,3),(3,4)],true⟩:TI):=by kernel_rfl
@[simp]theorem D156:Dof Zp 156=some (⟨1,24,[AV.sl 0 [] Tok.nil],AV.sl 0 [] Tok.nil,TD.sl 94,true⟩:TI):=by kernel_rfl
@[simp]theorem D162:Dof Zp 162=some (⟨1,8,[AV.nilm],AV.nilm,TD.map 3 3,true⟩:TI):=by kernel_rfl
@[simp]theorem D186:Dof Zp 186=some (⟨1,24,[AV.sl 0 [] Tok.nil],AV.sl 0 [] Tok.nil,TD.sl 4,true⟩:TI):=by kernel_rfl
@[simp]theorem D204:Dof Zp 204=some (⟨5,72,[AV.int IntKind.i64 0,AV.int IntKind.i64 0,AV.int IntKind.i64 0,AV.sl 0 [] Tok.nil,AV.sl 0 [] Tok.nil],AV.agg [AV.int IntKind.i64 0,AV.int IntKind.i64 0,AV.int IntKind.i64 0,AV.sl 0 [] Tok.nil,AV.sl 0 [] Tok.nil],TD.st [(0,3),(1,3),(2,37),(3,23),(4,23)],true⟩:TI):=by kernel_rfl
@[simp]theorem D220:Dof Zp 220=some (⟨2,32,[AV.int IntKind.i64 0,AV.sl 0 [] Tok.nil],AV.agg [AV.int IntKind.i64 0,AV.sl 0 [] Tok.nil],TD.st [(0,3),(1,23)],true⟩:TI):=by kernel_rfl
@[simp]theorem D222:Dof Zp 222=some (⟨1,8,[AV.nilp],AV.nilp,TD.ptr 55,true⟩:TI):=by kernel_rfl
@[simp]theorem D236:Dof Zp 236=some (⟨1,24,[AV.sl 0 [] Tok.nil],AV.sl 0 [] Tok.nil,TD.sl 32,true⟩:TI):=by kernel_rfl
@[simp]theorem D249:Dof Zp 249=some (⟨1,24,[AV.sl 0 [] Tok.nil],AV.sl 0 [] Tok.nil,TD.sl 5,true⟩:TI):=by kernel_rfl
@[simp]theorem D251:Dof Zp 251=some (⟨1,24,[AV.sl 0 [] Tok.nil],AV.sl 0 [] Tok.nil,TD.sl 285,true⟩:TI):=by kernel_rfl
@[simp]theorem D284:Dof Zp 284=some (⟨1,8,[AV.int IntKind.u64 0],AV.int IntKind.u64 0,TD.int IntKind.u64,true⟩:TI):=by kernel_rfl
@[simp]theorem D285:Dof Zp 285=some (⟨2,16,[AV.int IntKind.i64 0,AV.int IntKind.i64 0],AV.agg [AV.int IntKind.i64 0,AV.int IntKind.i64 0],TD.arr 2 3,true⟩:TI):=by kernel_rfl
@[simp]theorem D295:Dof Zp 295=some (⟨1,2,[AV.int IntKind.u16 0],AV.int IntKind.u16 0,TD.int IntKind.u16,true⟩:TI):=by kernel_rfl
@[simp]theorem D302:Dof Zp 302=some (⟨24,24,[AV.int IntKind.u8 0,AV.int IntKind.u8 0,AV.int IntKind.u8 0,AV.int IntKind.u8 0,AV.int IntKind.u8 0,AV.int IntKind.u8 0,AV.int IntKind.u8 0,AV.int IntKind.u8 0,AV.int IntKind.u8 0,AV.int IntKind.u8 0,AV.int IntKind.u8 0,AV.int IntKind.u8 0,AV.int IntKind.u8 0,AV.int IntKind.u8 0,AV.int IntKind.u8 0,AV.int IntKind.u8 0,AV.int IntKind.u8 0,AV.int IntKind.u8 0,AV.int IntKind.u8 0,AV.int IntKind.u8 0,AV.int IntKind.u8 0,AV.int IntKind.u8 0,AV.int IntKind.u8 0,AV.int IntKind.u8 0],AV.agg [AV.int IntKind.u8 0,AV.int IntKind.u8 0,AV.int IntKind.u8 0,AV.int IntKind.u8 0,AV.int IntKind.u8 0,AV.int IntKind.u8 0,AV.int IntKind.u8 0,AV.int IntKind.u8 0,AV.int IntKind.u8 0,AV.int IntKind.u8 0,AV.int IntKind.u8 0,AV.int IntKind.u8 0,AV.int IntKind.u8 0,AV.int IntKind.u8 0,AV.int IntKind.u8 0,AV.int IntKind.u8 0,AV.int IntKind.u8 0,AV.int IntKind.u8 0,AV.int IntKind.u8 0,AV.int IntKind.u8 0,AV.int IntKind.u8 0,AV.int IntKind.u8 0,AV.int IntKind.u8 0,AV.int IntKind.u8 0],TD.arr 24 5,true⟩:TI):=by kernel_rfl
@[simp]theorem D309:Dof Zp 309=some (⟨7,7,[AV.bool false,AV.bool false,AV.bool false,AV.bool false,AV.bool false,AV.bool false,AV.bool false],AV.agg [AV.bool false,AV.bool false,AV.bool false,AV.bool false,AV.bool false,AV.bool false,AV.bool false],TD.st [(0,4),(1,4),(2,4),(3,4),(4,4),(5,4),(6,4)],true⟩:TI):=by kernel_rfl
@[simp]theorem D311:Dof Zp 311=some (⟨1,8,[AV.nilm],AV.nilm,TD.map 3 309,true⟩:TI):=by kernel_rfl
@[simp]theorem D332:Dof Zp 332=some (⟨1,24,[AV.sl 0 [] Tok.nil],AV.sl 0 [] Tok.nil,TD.sl 23,true⟩:TI):=by kernel_rfl
end Go.Proofs.YtpgcmnabljandaaGreatDoor
end
