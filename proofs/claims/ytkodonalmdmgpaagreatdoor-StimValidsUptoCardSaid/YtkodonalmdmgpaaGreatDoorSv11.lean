import Derived.Test.YtkodonalmdmgpaaGreatDoorSv01
import Derived.Test.YtkodonalmdmgpaaGreatDoorProg
import Derived.KernelRfl
set_option linter.all false
set_option linter.defProp false
section
namespace Go.Proofs.YtkodonalmdmgpaaGreatDoor
open Go Go.Abs
@[simp] theorem D0:Dof Tryz.prog 0=some ({ size:=1,bytes:=0,zero:=[AV.any],zv:=AV.tup [],d:=TD.other,cmp:=true }:TI):=by kernel_rfl
@[simp] theorem D1:Dof Tryz.prog 1=some ({ size:=1,bytes:=8,zero:=[AV.nilf],zv:=AV.nilf,d:=TD.fn,cmp:=true }:TI):=by kernel_rfl
@[simp] theorem D2:Dof Tryz.prog 2=some ({ size:=1,bytes:=8,zero:=[AV.int IntKind.i64 0],zv:=AV.int IntKind.i64 0,d:=TD.int IntKind.i64,cmp:=true }:TI):=by kernel_rfl
@[simp] theorem D3:Dof Tryz.prog 3=some ({ size:=1,bytes:=8,zero:=[AV.int IntKind.i64 0],zv:=AV.int IntKind.i64 0,d:=TD.int IntKind.i64,cmp:=true }:TI):=by kernel_rfl
@[simp] theorem D4:Dof Tryz.prog 4=some ({ size:=1,bytes:=1,zero:=[AV.bool false],zv:=AV.bool false,d:=TD.bool,cmp:=true }:TI):=by kernel_rfl
@[simp] theorem D5:Dof Tryz.prog 5=some ({ size:=1,bytes:=1,zero:=[AV.int IntKind.u8 0],zv:=AV.int IntKind.u8 0,d:=TD.int IntKind.u8,cmp:=true }:TI):=by kernel_rfl
@[simp] theorem D6:Dof Tryz.prog 6=some ({ size:=1,bytes:=1,zero:=[AV.int IntKind.u8 0],zv:=AV.int IntKind.u8 0,d:=TD.int IntKind.u8,cmp:=true }:TI):=by kernel_rfl
@[simp] theorem D7:Dof Tryz.prog 7=some ({ size:=4,bytes:=24,zero:=[AV.int IntKind.i64 0,AV.int IntKind.i64 0,AV.bool false,AV.int IntKind.u8 0],zv:=AV.agg [AV.int IntKind.i64 0,AV.int IntKind.i64 0,AV.bool false,AV.int IntKind.u8 0],d:=TD.st [(0,2),(1,3),(2,4),(3,6)],cmp:=true }:TI):=by kernel_rfl
@[simp] theorem D8:Dof Tryz.prog 8=some ({ size:=4,bytes:=24,zero:=[AV.int IntKind.i64 0,AV.int IntKind.i64 0,AV.bool false,AV.int IntKind.u8 0],zv:=AV.agg [AV.int IntKind.i64 0,AV.int IntKind.i64 0,AV.bool false,AV.int IntKind.u8 0],d:=TD.st [(0,2),(1,3),(2,4),(3,6)],cmp:=true }:TI):=by kernel_rfl
@[simp] theorem D9:Dof Tryz.prog 9=some ({ size:=1,bytes:=16,zero:=[AV.str []],zv:=AV.str [],d:=TD.str,cmp:=true }:TI):=by kernel_rfl
@[simp] theorem D10:Dof Tryz.prog 10=some ({ size:=1,bytes:=16,zero:=[AV.str []],zv:=AV.str [],d:=TD.str,cmp:=true }:TI):=by kernel_rfl
@[simp] theorem D11:Dof Tryz.prog 11=some ({ size:=1,bytes:=16,zero:=[AV.str []],zv:=AV.str [],d:=TD.str,cmp:=true }:TI):=by kernel_rfl
@[simp] theorem D12:Dof Tryz.prog 12=some ({ size:=1,bytes:=8,zero:=[AV.int IntKind.u64 0],zv:=AV.int IntKind.u64 0,d:=TD.int IntKind.u64,cmp:=true }:TI):=by kernel_rfl
@[simp] theorem D13:Dof Tryz.prog 13=some ({ size:=2,bytes:=24,zero:=[AV.str [],AV.int IntKind.u64 0],zv:=AV.agg [AV.str [],AV.int IntKind.u64 0],d:=TD.st [(0,9),(1,12)],cmp:=false }:TI):=by kernel_rfl
@[simp] theorem D14:Dof Tryz.prog 14=some ({ size:=2,bytes:=24,zero:=[AV.str [],AV.int IntKind.u64 0],zv:=AV.agg [AV.str [],AV.int IntKind.u64 0],d:=TD.st [(0,9),(1,12)],cmp:=false }:TI):=by kernel_rfl
@[simp] theorem D15:Dof Tryz.prog 15=some ({ size:=1,bytes:=8,zero:=[AV.nilp],zv:=AV.nilp,d:=TD.ptr 482,cmp:=true }:TI):=by kernel_rfl
@[simp] theorem D16:Dof Tryz.prog 16=some ({ size:=1,bytes:=8,zero:=[AV.nilp],zv:=AV.nilp,d:=TD.ptr 485,cmp:=true }:TI):=by kernel_rfl
@[simp] theorem D17:Dof Tryz.prog 17=some ({ size:=1,bytes:=8,zero:=[AV.nilp],zv:=AV.nilp,d:=TD.ptr 493,cmp:=true }:TI):=by kernel_rfl
@[simp] theorem D18:Dof Tryz.prog 18=some ({ size:=1,bytes:=8,zero:=[AV.nilp],zv:=AV.agg [AV.nilp],d:=TD.st [(0,17)],cmp:=false }:TI):=by kernel_rfl
@[simp] theorem D19:Dof Tryz.prog 19=some ({ size:=1,bytes:=8,zero:=[AV.nilp],zv:=AV.agg [AV.nilp],d:=TD.st [(0,17)],cmp:=false }:TI):=by kernel_rfl
@[simp] theorem D20:Dof Tryz.prog 20=some ({ size:=1,bytes:=16,zero:=[AV.any],zv:=AV.any,d:=TD.other,cmp:=true }:TI):=by kernel_rfl
@[simp] theorem D21:Dof Tryz.prog 21=some ({ size:=1,bytes:=4,zero:=[AV.int IntKind.i32 0],zv:=AV.int IntKind.i32 0,d:=TD.int IntKind.i32,cmp:=true }:TI):=by kernel_rfl
@[simp] theorem D22:Dof Tryz.prog 22=some ({ size:=1,bytes:=24,zero:=[AV.sl 0 [] Tok.nil],zv:=AV.sl 0 [] Tok.nil,d:=TD.sl 39,cmp:=true }:TI):=by kernel_rfl
@[simp] theorem D23:Dof Tryz.prog 23=some ({ size:=1,bytes:=24,zero:=[AV.sl 0 [] Tok.nil],zv:=AV.sl 0 [] Tok.nil,d:=TD.sl 25,cmp:=true }:TI):=by kernel_rfl
@[simp] theorem D24:Dof Tryz.prog 24=some ({ size:=5,bytes:=80,zero:=[AV.int IntKind.i64 0,AV.int IntKind.i64 0,AV.str [],AV.sl 0 [] Tok.nil,AV.sl 0 [] Tok.nil],zv:=AV.agg [AV.int IntKind.i64 0,AV.int IntKind.i64 0,AV.str [],AV.sl 0 [] Tok.nil,AV.sl 0 [] Tok.nil],d:=TD.st [(0,3),(1,3),(2,9),(3,22),(4,23)],cmp:=true }:TI):=by kernel_rfl
@[simp] theorem D25:Dof Tryz.prog 25=some ({ size:=5,bytes:=80,zero:=[AV.int IntKind.i64 0,AV.int IntKind.i64 0,AV.str [],AV.sl 0 [] Tok.nil,AV.sl 0 [] Tok.nil],zv:=AV.agg [AV.int IntKind.i64 0,AV.int IntKind.i64 0,AV.str [],AV.sl 0 [] Tok.nil,AV.sl 0 [] Tok.nil],d:=TD.st [(0,3),(1,3),(2,9),(3,22),(4,23)],cmp:=true }:TI):=by kernel_rfl
@[simp] theorem D26:Dof Tryz.prog 26=some ({ size:=1,bytes:=8,zero:=[AV.nilf],zv:=AV.nilf,d:=TD.fn,cmp:=true }:TI):=by kernel_rfl
@[simp] theorem D27:Dof Tryz.prog 27=some ({ size:=1,bytes:=8,zero:=[AV.nilf],zv:=AV.nilf,d:=TD.fn,cmp:=true }:TI):=by kernel_rfl
@[simp] theorem D28:Dof Tryz.prog 28=some ({ size:=1,bytes:=8,zero:=[AV.nilf],zv:=AV.nilf,d:=TD.fn,cmp:=true }:TI):=by kernel_rfl
@[simp] theorem D29:Dof Tryz.prog 29=some ({ size:=1,bytes:=8,zero:=[AV.int IntKind.i64 0],zv:=AV.int IntKind.i64 0,d:=TD.int IntKind.i64,cmp:=true }:TI):=by kernel_rfl
@[simp] theorem D30:Dof Tryz.prog 30=some ({ size:=1,bytes:=8,zero:=[AV.nilf],zv:=AV.nilf,d:=TD.fn,cmp:=true }:TI):=by kernel_rfl
@[simp] theorem D31:Dof Tryz.prog 31=some ({ size:=1,bytes:=8,zero:=[AV.nilf],zv:=AV.nilf,d:=TD.fn,cmp:=true }:TI):=by kernel_rfl
@[simp] theorem D32:Dof Tryz.prog 32=some ({ size:=1,bytes:=8,zero:=[AV.nilf],zv:=AV.nilf,d:=TD.fn,cmp:=true }:TI):=by kernel_rfl
@[simp] theorem D33:Dof Tryz.prog 33=some ({ size:=1,bytes:=24,zero:=[AV.sl 0 [] Tok.nil],zv:=AV.sl 0 [] Tok.nil,d:=TD.sl 35,cmp:=true }:TI):=by kernel_rfl
@[simp] theorem D34:Dof Tryz.prog 34=some ({ size:=4,bytes:=56,zero:=[AV.int IntKind.i64 0,AV.int IntKind.i64 0,AV.str [],AV.sl 0 [] Tok.nil],zv:=AV.agg [AV.int IntKind.i64 0,AV.int IntKind.i64 0,AV.str [],AV.sl 0 [] Tok.nil],d:=TD.st [(0,3),(1,3),(2,9),(3,33)],cmp:=true }:TI):=by kernel_rfl
@[simp] theorem D35:Dof Tryz.prog 35=some ({ size:=4,bytes:=56,zero:=[AV.int IntKind.i64 0,AV.int IntKind.i64 0,AV.str [],AV.sl 0 [] Tok.nil],zv:=AV.agg [AV.int IntKind.i64 0,AV.int IntKind.i64 0,AV.str [],AV.sl 0 [] Tok.nil],d:=TD.st [(0,3),(1,3),(2,9),(3,33)],cmp:=true }:TI):=by kernel_rfl
@[simp] theorem D36:Dof Tryz.prog 36=some ({ size:=1,bytes:=24,zero:=[AV.sl 0 [] Tok.nil],zv:=AV.sl 0 [] Tok.nil,d:=TD.sl 202,cmp:=true }:TI):=by kernel_rfl
@[simp] theorem D37:Dof Tryz.prog 37=some ({ size:=1,bytes:=24,zero:=[AV.sl 0 [] Tok.nil],zv:=AV.sl 0 [] Tok.nil,d:=TD.sl 9,cmp:=true }:TI):=by kernel_rfl
@[simp] theorem D38:Dof Tryz.prog 38=some ({ size:=12,bytes:=216,zero:=[AV.int IntKind.i64 0,AV.int IntKind.i64 0,AV.int IntKind.i64 0,AV.str [],AV.sl 0 [] Tok.nil,AV.str [],AV.str [],AV.sl 0 [] Tok.nil,AV.sl 0 [] Tok.nil,AV.sl 0 [] Tok.nil,AV.sl 0 [] Tok.nil,AV.sl 0 [] Tok.nil],zv:=AV.agg [AV.int IntKind.i64 0,AV.int IntKind.i64 0,AV.int IntKind.i64 0,AV.str [],AV.sl 0 [] Tok.nil,AV.str [],AV.str [],AV.sl 0 [] Tok.nil,AV.sl 0 [] Tok.nil,AV.sl 0 [] Tok.nil,AV.sl 0 [] Tok.nil,AV.sl 0 [] Tok.nil],d:=TD.st [(0,3),(1,35),(5,9),(6,9),(7,36),(8,22),(9,22),(10,37),(11,37)],cmp:=true }:TI):=by kernel_rfl
@[simp] theorem D39:Dof Tryz.prog 39=some ({ size:=12,bytes:=216,zero:=[AV.int IntKind.i64 0,AV.int IntKind.i64 0,AV.int IntKind.i64 0,AV.str [],AV.sl 0 [] Tok.nil,AV.str [],AV.str [],AV.sl 0 [] Tok.nil,AV.sl 0 [] Tok.nil,AV.sl 0 [] Tok.nil,AV.sl 0 [] Tok.nil,AV.sl 0 [] Tok.nil],zv:=AV.agg [AV.int IntKind.i64 0,AV.int IntKind.i64 0,AV.int IntKind.i64 0,AV.str [],AV.sl 0 [] Tok.nil,AV.str [],AV.str [],AV.sl 0 [] Tok.nil,AV.sl 0 [] Tok.nil,AV.sl 0 [] Tok.nil,AV.sl 0 [] Tok.nil,AV.sl 0 [] Tok.nil],d:=TD.st [(0,3),(1,35),(5,9),(6,9),(7,36),(8,22),(9,22),(10,37),(11,37)],cmp:=true }:TI):=by kernel_rfl
@[simp] theorem D40:Dof Tryz.prog 40=some ({ size:=1,bytes:=8,zero:=[AV.nilf],zv:=AV.nilf,d:=TD.fn,cmp:=true }:TI):=by kernel_rfl
@[simp] theorem D41:Dof Tryz.prog 41=some ({ size:=1,bytes:=8,zero:=[AV.nilf],zv:=AV.nilf,d:=TD.fn,cmp:=true }:TI):=by kernel_rfl
@[simp] theorem D42:Dof Tryz.prog 42=some ({ size:=1,bytes:=24,zero:=[AV.sl 0 [] Tok.nil],zv:=AV.sl 0 [] Tok.nil,d:=TD.sl 52,cmp:=true }:TI):=by kernel_rfl
@[simp] theorem D43:Dof Tryz.prog 43=some ({ size:=1,bytes:=0,zero:=[AV.any],zv:=AV.any,d:=TD.other,cmp:=true }:TI):=by kernel_rfl
@[simp] theorem D44:Dof Tryz.prog 44=some ({ size:=1,bytes:=8,zero:=[AV.nilf],zv:=AV.nilf,d:=TD.fn,cmp:=true }:TI):=by kernel_rfl
@[simp] theorem D45:Dof Tryz.prog 45=some ({ size:=1,bytes:=24,zero:=[AV.sl 0 [] Tok.nil],zv:=AV.sl 0 [] Tok.nil,d:=TD.sl 66,cmp:=true }:TI):=by kernel_rfl
@[simp] theorem D46:Dof Tryz.prog 46=some ({ size:=1,bytes:=8,zero:=[AV.nilf],zv:=AV.nilf,d:=TD.fn,cmp:=true }:TI):=by kernel_rfl
@[simp] theorem D47:Dof Tryz.prog 47=some ({ size:=1,bytes:=8,zero:=[AV.int IntKind.u64 0],zv:=AV.int IntKind.u64 0,d:=TD.int IntKind.u64,cmp:=true }:TI):=by kernel_rfl
@[simp] theorem D48:Dof Tryz.prog 48=some ({ size:=1,bytes:=24,zero:=[AV.sl 0 [] Tok.nil],zv:=AV.sl 0 [] Tok.nil,d:=TD.sl 3,cmp:=true }:TI):=by kernel_rfl
@[simp] theorem D49:Dof Tryz.prog 49=some ({ size:=2,bytes:=48,zero:=[AV.sl 0 [] Tok.nil,AV.sl 0 [] Tok.nil],zv:=AV.agg [AV.sl 0 [] Tok.nil,AV.sl 0 [] Tok.nil],d:=TD.st [(0,37),(1,48)],cmp:=true }:TI):=by kernel_rfl
@[simp] theorem D50:Dof Tryz.prog 50=some ({ size:=2,bytes:=48,zero:=[AV.sl 0 [] Tok.nil,AV.sl 0 [] Tok.nil],zv:=AV.agg [AV.sl 0 [] Tok.nil,AV.sl 0 [] Tok.nil],d:=TD.st [(0,37),(1,48)],cmp:=true }:TI):=by kernel_rfl
@[simp] theorem D51:Dof Tryz.prog 51=some ({ size:=4,bytes:=72,zero:=[AV.bool false,AV.sl 0 [] Tok.nil,AV.sl 0 [] Tok.nil,AV.str []],zv:=AV.agg [AV.bool false,AV.sl 0 [] Tok.nil,AV.sl 0 [] Tok.nil,AV.str []],d:=TD.st [(0,4),(1,50),(3,9)],cmp:=true }:TI):=by kernel_rfl
@[simp] theorem D52:Dof Tryz.prog 52=some ({ size:=4,bytes:=72,zero:=[AV.bool false,AV.sl 0 [] Tok.nil,AV.sl 0 [] Tok.nil,AV.str []],zv:=AV.agg [AV.bool false,AV.sl 0 [] Tok.nil,AV.sl 0 [] Tok.nil,AV.str []],d:=TD.st [(0,4),(1,50),(3,9)],cmp:=true }:TI):=by kernel_rfl
@[simp] theorem D53:Dof Tryz.prog 53=some ({ size:=1,bytes:=0,zero:=[AV.any],zv:=AV.any,d:=TD.other,cmp:=true }:TI):=by kernel_rfl
@[simp] theorem D54:Dof Tryz.prog 54=some ({ size:=1,bytes:=8,zero:=[AV.nilf],zv:=AV.nilf,d:=TD.fn,cmp:=true }:TI):=by kernel_rfl
@[simp] theorem D55:Dof Tryz.prog 55=some ({ size:=1,bytes:=8,zero:=[AV.nilf],zv:=AV.nilf,d:=TD.fn,cmp:=true }:TI):=by kernel_rfl
@[simp] theorem D56:Dof Tryz.prog 56=some ({ size:=1,bytes:=8,zero:=[AV.nilp],zv:=AV.nilp,d:=TD.ptr 59,cmp:=true }:TI):=by kernel_rfl
@[simp] theorem D57:Dof Tryz.prog 57=some ({ size:=1,bytes:=8,zero:=[AV.nilm],zv:=AV.nilm,d:=TD.map 9 83,cmp:=true }:TI):=by kernel_rfl
@[simp] theorem D58:Dof Tryz.prog 58=some ({ size:=4,bytes:=64,zero:=[AV.sl 0 [] Tok.nil,AV.sl 0 [] Tok.nil,AV.int IntKind.u64 0,AV.nilm],zv:=AV.agg [AV.sl 0 [] Tok.nil,AV.sl 0 [] Tok.nil,AV.int IntKind.u64 0,AV.nilm],d:=TD.st [(0,45),(1,37),(2,47),(3,57)],cmp:=true }:TI):=by kernel_rfl
@[simp] theorem D59:Dof Tryz.prog 59=some ({ size:=4,bytes:=64,zero:=[AV.sl 0 [] Tok.nil,AV.sl 0 [] Tok.nil,AV.int IntKind.u64 0,AV.nilm],zv:=AV.agg [AV.sl 0 [] Tok.nil,AV.sl 0 [] Tok.nil,AV.int IntKind.u64 0,AV.nilm],d:=TD.st [(0,45),(1,37),(2,47),(3,57)],cmp:=true }:TI):=by kernel_rfl
@[simp] theorem D60:Dof Tryz.prog 60=some ({ size:=1,bytes:=8,zero:=[AV.nilf],zv:=AV.nilf,d:=TD.fn,cmp:=true }:TI):=by kernel_rfl
@[simp] theorem D61:Dof Tryz.prog 61=some ({ size:=5,bytes:=48,zero:=[AV.str [],AV.int IntKind.i64 0,AV.int IntKind.i64 0,AV.int IntKind.i64 0,AV.int IntKind.i64 0],zv:=AV.agg [AV.str [],AV.int IntKind.i64 0,AV.int IntKind.i64 0,AV.int IntKind.i64 0,AV.int IntKind.i64 0],d:=TD.st [(0,9),(1,3),(2,3),(3,3),(4,3)],cmp:=true }:TI):=by kernel_rfl
@[simp] theorem D62:Dof Tryz.prog 62=some ({ size:=5,bytes:=48,zero:=[AV.str [],AV.int IntKind.i64 0,AV.int IntKind.i64 0,AV.int IntKind.i64 0,AV.int IntKind.i64 0],zv:=AV.agg [AV.str [],AV.int IntKind.i64 0,AV.int IntKind.i64 0,AV.int IntKind.i64 0,AV.int IntKind.i64 0],d:=TD.st [(0,9),(1,3),(2,3),(3,3),(4,3)],cmp:=true }:TI):=by kernel_rfl
@[simp] theorem D63:Dof Tryz.prog 63=some ({ size:=1,bytes:=24,zero:=[AV.sl 0 [] Tok.nil],zv:=AV.sl 0 [] Tok.nil,d:=TD.sl 62,cmp:=true }:TI):=by kernel_rfl
@[simp] theorem D64:Dof Tryz.prog 64=some ({ size:=1,bytes:=24,zero:=[AV.sl 0 [] Tok.nil],zv:=AV.sl 0 [] Tok.nil,d:=TD.sl 166,cmp:=true }:TI):=by kernel_rfl
@[simp] theorem D65:Dof Tryz.prog 65=some ({ size:=4,bytes:=80,zero:=[AV.str [],AV.str [],AV.sl 0 [] Tok.nil,AV.sl 0 [] Tok.nil],zv:=AV.agg [AV.str [],AV.str [],AV.sl 0 [] Tok.nil,AV.sl 0 [] Tok.nil],d:=TD.st [(0,9),(1,9),(2,63),(3,64)],cmp:=true }:TI):=by kernel_rfl
@[simp] theorem D66:Dof Tryz.prog 66=some ({ size:=4,bytes:=80,zero:=[AV.str [],AV.str [],AV.sl 0 [] Tok.nil,AV.sl 0 [] Tok.nil],zv:=AV.agg [AV.str [],AV.str [],AV.sl 0 [] Tok.nil,AV.sl 0 [] Tok.nil],d:=TD.st [(0,9),(1,9),(2,63),(3,64)],cmp:=true }:TI):=by kernel_rfl
@[simp] theorem D67:Dof Tryz.prog 67=some ({ size:=1,bytes:=8,zero:=[AV.nilf],zv:=AV.nilf,d:=TD.fn,cmp:=true }:TI):=by kernel_rfl
@[simp] theorem D68:Dof Tryz.prog 68=some ({ size:=1,bytes:=8,zero:=[AV.nilf],zv:=AV.nilf,d:=TD.fn,cmp:=true }:TI):=by kernel_rfl
@[simp] theorem D69:Dof Tryz.prog 69=some ({ size:=2,bytes:=16,zero:=[AV.int IntKind.u64 0,AV.int IntKind.u64 0],zv:=AV.agg [AV.int IntKind.u64 0,AV.int IntKind.u64 0],d:=TD.st [(0,47),(1,47)],cmp:=true }:TI):=by kernel_rfl
@[simp] theorem D70:Dof Tryz.prog 70=some ({ size:=2,bytes:=16,zero:=[AV.int IntKind.u64 0,AV.int IntKind.u64 0],zv:=AV.agg [AV.int IntKind.u64 0,AV.int IntKind.u64 0],d:=TD.st [(0,47),(1,47)],cmp:=true }:TI):=by kernel_rfl
@[simp] theorem D71:Dof Tryz.prog 71=some ({ size:=1,bytes:=0,zero:=[AV.any],zv:=AV.any,d:=TD.other,cmp:=true }:TI):=by kernel_rfl
@[simp] theorem D72:Dof Tryz.prog 72=some ({ size:=1,bytes:=8,zero:=[AV.nilf],zv:=AV.nilf,d:=TD.fn,cmp:=true }:TI):=by kernel_rfl
@[simp] theorem D73:Dof Tryz.prog 73=some ({ size:=1,bytes:=0,zero:=[AV.any],zv:=AV.any,d:=TD.other,cmp:=true }:TI):=by kernel_rfl
@[simp] theorem D74:Dof Tryz.prog 74=some ({ size:=1,bytes:=8,zero:=[AV.nilf],zv:=AV.nilf,d:=TD.fn,cmp:=true }:TI):=by kernel_rfl
@[simp] theorem D75:Dof Tryz.prog 75=some ({ size:=1,bytes:=8,zero:=[AV.nilf],zv:=AV.nilf,d:=TD.fn,cmp:=true }:TI):=by kernel_rfl
@[simp] theorem D76:Dof Tryz.prog 76=some ({ size:=1,bytes:=24,zero:=[AV.sl 0 [] Tok.nil],zv:=AV.sl 0 [] Tok.nil,d:=TD.sl 42,cmp:=true }:TI):=by kernel_rfl
@[simp] theorem D77:Dof Tryz.prog 77=some ({ size:=1,bytes:=0,zero:=[AV.any],zv:=AV.any,d:=TD.other,cmp:=true }:TI):=by kernel_rfl
@[simp] theorem D78:Dof Tryz.prog 78=some ({ size:=1,bytes:=8,zero:=[AV.nilf],zv:=AV.nilf,d:=TD.fn,cmp:=true }:TI):=by kernel_rfl
@[simp] theorem D79:Dof Tryz.prog 79=some ({ size:=1,bytes:=8,zero:=[AV.nilf],zv:=AV.nilf,d:=TD.fn,cmp:=true }:TI):=by kernel_rfl
@[simp] theorem D80:Dof Tryz.prog 80=some ({ size:=1,bytes:=8,zero:=[AV.nilf],zv:=AV.nilf,d:=TD.fn,cmp:=true }:TI):=by kernel_rfl
@[simp] theorem D81:Dof Tryz.prog 81=some ({ size:=1,bytes:=8,zero:=[AV.nilf],zv:=AV.nilf,d:=TD.fn,cmp:=true }:TI):=by kernel_rfl
@[simp] theorem D82:Dof Tryz.prog 82=some ({ size:=1,bytes:=8,zero:=[AV.nilf],zv:=AV.nilf,d:=TD.fn,cmp:=true }:TI):=by kernel_rfl
@[simp] theorem D83:Dof Tryz.prog 83=some ({ size:=1,bytes:=8,zero:=[AV.nilp],zv:=AV.nilp,d:=TD.ptr 96,cmp:=true }:TI):=by kernel_rfl
@[simp] theorem D84:Dof Tryz.prog 84=some ({ size:=1,bytes:=0,zero:=[AV.any],zv:=AV.any,d:=TD.other,cmp:=true }:TI):=by kernel_rfl
@[simp] theorem D85:Dof Tryz.prog 85=some ({ size:=1,bytes:=8,zero:=[AV.nilf],zv:=AV.nilf,d:=TD.fn,cmp:=true }:TI):=by kernel_rfl
@[simp] theorem D86:Dof Tryz.prog 86=some ({ size:=1,bytes:=24,zero:=[AV.sl 0 [] Tok.nil],zv:=AV.sl 0 [] Tok.nil,d:=TD.sl 48,cmp:=true }:TI):=by kernel_rfl
@[simp] theorem D87:Dof Tryz.prog 87=some ({ size:=1,bytes:=24,zero:=[AV.sl 0 [] Tok.nil],zv:=AV.agg [AV.sl 0 [] Tok.nil],d:=TD.st [(0,86)],cmp:=true }:TI):=by kernel_rfl
@[simp] theorem D88:Dof Tryz.prog 88=some ({ size:=1,bytes:=24,zero:=[AV.sl 0 [] Tok.nil],zv:=AV.agg [AV.sl 0 [] Tok.nil],d:=TD.st [(0,86)],cmp:=true }:TI):=by kernel_rfl
@[simp] theorem D89:Dof Tryz.prog 89=some ({ size:=1,bytes:=0,zero:=[AV.any],zv:=AV.any,d:=TD.other,cmp:=true }:TI):=by kernel_rfl
@[simp] theorem D90:Dof Tryz.prog 90=some ({ size:=1,bytes:=8,zero:=[AV.nilf],zv:=AV.nilf,d:=TD.fn,cmp:=true }:TI):=by kernel_rfl
@[simp] theorem D91:Dof Tryz.prog 91=some ({ size:=1,bytes:=24,zero:=[AV.sl 0 [] Tok.nil],zv:=AV.sl 0 [] Tok.nil,d:=TD.sl 129,cmp:=true }:TI):=by kernel_rfl
@[simp] theorem D92:Dof Tryz.prog 92=some ({ size:=1,bytes:=24,zero:=[AV.sl 0 [] Tok.nil],zv:=AV.sl 0 [] Tok.nil,d:=TD.sl 229,cmp:=true }:TI):=by kernel_rfl
@[simp] theorem D93:Dof Tryz.prog 93=some ({ size:=5,bytes:=120,zero:=[AV.sl 0 [] Tok.nil,AV.sl 0 [] Tok.nil,AV.sl 0 [] Tok.nil,AV.sl 0 [] Tok.nil,AV.sl 0 [] Tok.nil],zv:=AV.agg [AV.sl 0 [] Tok.nil,AV.sl 0 [] Tok.nil,AV.sl 0 [] Tok.nil,AV.sl 0 [] Tok.nil,AV.sl 0 [] Tok.nil],d:=TD.st [(0,91),(1,33),(2,33),(3,92),(4,86)],cmp:=true }:TI):=by kernel_rfl
@[simp] theorem D94:Dof Tryz.prog 94=some ({ size:=5,bytes:=120,zero:=[AV.sl 0 [] Tok.nil,AV.sl 0 [] Tok.nil,AV.sl 0 [] Tok.nil,AV.sl 0 [] Tok.nil,AV.sl 0 [] Tok.nil],zv:=AV.agg [AV.sl 0 [] Tok.nil,AV.sl 0 [] Tok.nil,AV.sl 0 [] Tok.nil,AV.sl 0 [] Tok.nil,AV.sl 0 [] Tok.nil],d:=TD.st [(0,91),(1,33),(2,33),(3,92),(4,86)],cmp:=true }:TI):=by kernel_rfl
@[simp] theorem D95:Dof Tryz.prog 95=some ({ size:=6,bytes:=144,zero:=[AV.sl 0 [] Tok.nil,AV.sl 0 [] Tok.nil,AV.sl 0 [] Tok.nil,AV.sl 0 [] Tok.nil,AV.sl 0 [] Tok.nil,AV.sl 0 [] Tok.nil],zv:=AV.agg [AV.sl 0 [] Tok.nil,AV.sl 0 [] Tok.nil,AV.sl 0 [] Tok.nil,AV.sl 0 [] Tok.nil,AV.sl 0 [] Tok.nil,AV.sl 0 [] Tok.nil],d:=TD.st [(0,94),(5,88)],cmp:=true }:TI):=by kernel_rfl
@[simp] theorem D96:Dof Tryz.prog 96=some ({ size:=6,bytes:=144,zero:=[AV.sl 0 [] Tok.nil,AV.sl 0 [] Tok.nil,AV.sl 0 [] Tok.nil,AV.sl 0 [] Tok.nil,AV.sl 0 [] Tok.nil,AV.sl 0 [] Tok.nil],zv:=AV.agg [AV.sl 0 [] Tok.nil,AV.sl 0 [] Tok.nil,AV.sl 0 [] Tok.nil,AV.sl 0 [] Tok.nil,AV.sl 0 [] Tok.nil,AV.sl 0 [] Tok.nil],d:=TD.st [(0,94),(5,88)],cmp:=true }:TI):=by kernel_rfl
@[simp] theorem D97:Dof Tryz.prog 97=some ({ size:=1,bytes:=8,zero:=[AV.nilf],zv:=AV.nilf,d:=TD.fn,cmp:=true }:TI):=by kernel_rfl
@[simp] theorem D98:Dof Tryz.prog 98=some ({ size:=1,bytes:=8,zero:=[AV.int IntKind.u64 0],zv:=AV.int IntKind.u64 0,d:=TD.int IntKind.u64,cmp:=true }:TI):=by kernel_rfl
@[simp] theorem D99:Dof Tryz.prog 99=some ({ size:=1,bytes:=0,zero:=[AV.any],zv:=AV.any,d:=TD.other,cmp:=true }:TI):=by kernel_rfl
@[simp] theorem D100:Dof Tryz.prog 100=some ({ size:=1,bytes:=8,zero:=[AV.nilf],zv:=AV.nilf,d:=TD.fn,cmp:=true }:TI):=by kernel_rfl
@[simp] theorem D101:Dof Tryz.prog 101=some ({ size:=1,bytes:=0,zero:=[AV.any],zv:=AV.any,d:=TD.other,cmp:=true }:TI):=by kernel_rfl
@[simp] theorem D102:Dof Tryz.prog 102=some ({ size:=1,bytes:=8,zero:=[AV.nilf],zv:=AV.nilf,d:=TD.fn,cmp:=true }:TI):=by kernel_rfl
@[simp] theorem D103:Dof Tryz.prog 103=some ({ size:=1,bytes:=0,zero:=[AV.any],zv:=AV.any,d:=TD.other,cmp:=true }:TI):=by kernel_rfl
@[simp] theorem D104:Dof Tryz.prog 104=some ({ size:=1,bytes:=8,zero:=[AV.nilf],zv:=AV.nilf,d:=TD.fn,cmp:=true }:TI):=by kernel_rfl
@[simp] theorem D105:Dof Tryz.prog 105=some ({ size:=1,bytes:=8,zero:=[AV.nilf],zv:=AV.nilf,d:=TD.fn,cmp:=true }:TI):=by kernel_rfl
@[simp] theorem D106:Dof Tryz.prog 106=some ({ size:=1,bytes:=8,zero:=[AV.nilf],zv:=AV.nilf,d:=TD.fn,cmp:=true }:TI):=by kernel_rfl
@[simp] theorem D107:Dof Tryz.prog 107=some ({ size:=1,bytes:=8,zero:=[AV.nilf],zv:=AV.nilf,d:=TD.fn,cmp:=true }:TI):=by kernel_rfl
@[simp] theorem D108:Dof Tryz.prog 108=some ({ size:=1,bytes:=8,zero:=[AV.nilf],zv:=AV.nilf,d:=TD.fn,cmp:=true }:TI):=by kernel_rfl
@[simp] theorem D109:Dof Tryz.prog 109=some ({ size:=1,bytes:=8,zero:=[AV.nilf],zv:=AV.nilf,d:=TD.fn,cmp:=true }:TI):=by kernel_rfl
@[simp] theorem D110:Dof Tryz.prog 110=some ({ size:=1,bytes:=8,zero:=[AV.nilp],zv:=AV.nilp,d:=TD.ptr 70,cmp:=true }:TI):=by kernel_rfl
@[simp] theorem D111:Dof Tryz.prog 111=some ({ size:=1,bytes:=8,zero:=[AV.nilf],zv:=AV.nilf,d:=TD.fn,cmp:=true }:TI):=by kernel_rfl
@[simp] theorem D112:Dof Tryz.prog 112=some ({ size:=1,bytes:=8,zero:=[AV.nilf],zv:=AV.nilf,d:=TD.fn,cmp:=true }:TI):=by kernel_rfl
@[simp] theorem D113:Dof Tryz.prog 113=some ({ size:=2,bytes:=32,zero:=[AV.int IntKind.i64 0,AV.sl 0 [] Tok.nil],zv:=AV.agg [AV.int IntKind.i64 0,AV.sl 0 [] Tok.nil],d:=TD.st [(0,3),(1,37)],cmp:=true }:TI):=by kernel_rfl
@[simp] theorem D114:Dof Tryz.prog 114=some ({ size:=2,bytes:=32,zero:=[AV.int IntKind.i64 0,AV.sl 0 [] Tok.nil],zv:=AV.agg [AV.int IntKind.i64 0,AV.sl 0 [] Tok.nil],d:=TD.st [(0,3),(1,37)],cmp:=true }:TI):=by kernel_rfl
@[simp] theorem D115:Dof Tryz.prog 115=some ({ size:=1,bytes:=8,zero:=[AV.nilf],zv:=AV.nilf,d:=TD.fn,cmp:=true }:TI):=by kernel_rfl
@[simp] theorem D116:Dof Tryz.prog 116=some ({ size:=1,bytes:=8,zero:=[AV.nilf],zv:=AV.nilf,d:=TD.fn,cmp:=true }:TI):=by kernel_rfl
@[simp] theorem D117:Dof Tryz.prog 117=some ({ size:=1,bytes:=8,zero:=[AV.nilf],zv:=AV.nilf,d:=TD.fn,cmp:=true }:TI):=by kernel_rfl
@[simp] theorem D118:Dof Tryz.prog 118=some ({ size:=1,bytes:=0,zero:=[AV.any],zv:=AV.any,d:=TD.other,cmp:=true }:TI):=by kernel_rfl
@[simp] theorem D119:Dof Tryz.prog 119=some ({ size:=1,bytes:=0,zero:=[AV.any],zv:=AV.any,d:=TD.other,cmp:=true }:TI):=by kernel_rfl
@[simp] theorem D120:Dof Tryz.prog 120=some ({ size:=1,bytes:=8,zero:=[AV.nilf],zv:=AV.nilf,d:=TD.fn,cmp:=true }:TI):=by kernel_rfl
@[simp] theorem D121:Dof Tryz.prog 121=some ({ size:=1,bytes:=8,zero:=[AV.nilf],zv:=AV.nilf,d:=TD.fn,cmp:=true }:TI):=by kernel_rfl
@[simp] theorem D122:Dof Tryz.prog 122=some ({ size:=1,bytes:=8,zero:=[AV.nilf],zv:=AV.nilf,d:=TD.fn,cmp:=true }:TI):=by kernel_rfl
@[simp] theorem D123:Dof Tryz.prog 123=some ({ size:=1,bytes:=8,zero:=[AV.nilf],zv:=AV.nilf,d:=TD.fn,cmp:=true }:TI):=by kernel_rfl
@[simp] theorem D124:Dof Tryz.prog 124=some ({ size:=1,bytes:=8,zero:=[AV.nilf],zv:=AV.nilf,d:=TD.fn,cmp:=true }:TI):=by kernel_rfl
@[simp] theorem D125:Dof Tryz.prog 125=some ({ size:=1,bytes:=0,zero:=[AV.any],zv:=AV.any,d:=TD.other,cmp:=true }:TI):=by kernel_rfl
@[simp] theorem D126:Dof Tryz.prog 126=some ({ size:=1,bytes:=8,zero:=[AV.nilf],zv:=AV.nilf,d:=TD.fn,cmp:=true }:TI):=by kernel_rfl
@[simp] theorem D127:Dof Tryz.prog 127=some ({ size:=1,bytes:=8,zero:=[AV.nilf],zv:=AV.nilf,d:=TD.fn,cmp:=true }:TI):=by kernel_rfl
@[simp] theorem D128:Dof Tryz.prog 128=some ({ size:=4,bytes:=40,zero:=[AV.str [],AV.int IntKind.i64 0,AV.int IntKind.i64 0,AV.int IntKind.i64 0],zv:=AV.agg [AV.str [],AV.int IntKind.i64 0,AV.int IntKind.i64 0,AV.int IntKind.i64 0],d:=TD.st [(0,9),(1,3),(2,3),(3,3)],cmp:=true }:TI):=by kernel_rfl
@[simp] theorem D129:Dof Tryz.prog 129=some ({ size:=4,bytes:=40,zero:=[AV.str [],AV.int IntKind.i64 0,AV.int IntKind.i64 0,AV.int IntKind.i64 0],zv:=AV.agg [AV.str [],AV.int IntKind.i64 0,AV.int IntKind.i64 0,AV.int IntKind.i64 0],d:=TD.st [(0,9),(1,3),(2,3),(3,3)],cmp:=true }:TI):=by kernel_rfl
@[simp] theorem D130:Dof Tryz.prog 130=some ({ size:=1,bytes:=8,zero:=[AV.nilf],zv:=AV.nilf,d:=TD.fn,cmp:=true }:TI):=by kernel_rfl
@[simp] theorem D131:Dof Tryz.prog 131=some ({ size:=1,bytes:=8,zero:=[AV.nilf],zv:=AV.nilf,d:=TD.fn,cmp:=true }:TI):=by kernel_rfl
@[simp] theorem D132:Dof Tryz.prog 132=some ({ size:=1,bytes:=8,zero:=[AV.nilf],zv:=AV.nilf,d:=TD.fn,cmp:=true }:TI):=by kernel_rfl
@[simp] theorem D133:Dof Tryz.prog 133=some ({ size:=1,bytes:=0,zero:=[AV.any],zv:=AV.any,d:=TD.other,cmp:=true }:TI):=by kernel_rfl
@[simp] theorem D134:Dof Tryz.prog 134=some ({ size:=1,bytes:=8,zero:=[AV.nilf],zv:=AV.nilf,d:=TD.fn,cmp:=true }:TI):=by kernel_rfl
@[simp] theorem D135:Dof Tryz.prog 135=some ({ size:=1,bytes:=8,zero:=[AV.nilf],zv:=AV.nilf,d:=TD.fn,cmp:=true }:TI):=by kernel_rfl
@[simp] theorem D136:Dof Tryz.prog 136=some ({ size:=1,bytes:=4,zero:=[AV.int IntKind.u32 0],zv:=AV.int IntKind.u32 0,d:=TD.int IntKind.u32,cmp:=true }:TI):=by kernel_rfl
@[simp] theorem D137:Dof Tryz.prog 137=some ({ size:=1,bytes:=0,zero:=[AV.any],zv:=AV.any,d:=TD.other,cmp:=true }:TI):=by kernel_rfl
@[simp] theorem D138:Dof Tryz.prog 138=some ({ size:=1,bytes:=8,zero:=[AV.nilf],zv:=AV.nilf,d:=TD.fn,cmp:=true }:TI):=by kernel_rfl
@[simp] theorem D139:Dof Tryz.prog 139=some ({ size:=1,bytes:=0,zero:=[AV.any],zv:=AV.any,d:=TD.other,cmp:=true }:TI):=by kernel_rfl
@[simp] theorem D140:Dof Tryz.prog 140=some ({ size:=1,bytes:=8,zero:=[AV.nilf],zv:=AV.nilf,d:=TD.fn,cmp:=true }:TI):=by kernel_rfl
@[simp] theorem D141:Dof Tryz.prog 141=some ({ size:=1,bytes:=8,zero:=[AV.nilf],zv:=AV.nilf,d:=TD.fn,cmp:=true }:TI):=by kernel_rfl
@[simp] theorem D142:Dof Tryz.prog 142=some ({ size:=1,bytes:=8,zero:=[AV.nilf],zv:=AV.nilf,d:=TD.fn,cmp:=true }:TI):=by kernel_rfl
@[simp] theorem D143:Dof Tryz.prog 143=some ({ size:=1,bytes:=8,zero:=[AV.nilf],zv:=AV.nilf,d:=TD.fn,cmp:=true }:TI):=by kernel_rfl
@[simp] theorem D144:Dof Tryz.prog 144=some ({ size:=1,bytes:=8,zero:=[AV.nilf],zv:=AV.nilf,d:=TD.fn,cmp:=true }:TI):=by kernel_rfl
@[simp] theorem D145:Dof Tryz.prog 145=some ({ size:=1,bytes:=0,zero:=[AV.any],zv:=AV.any,d:=TD.other,cmp:=true }:TI):=by kernel_rfl
@[simp] theorem D146:Dof Tryz.prog 146=some ({ size:=1,bytes:=8,zero:=[AV.nilf],zv:=AV.nilf,d:=TD.fn,cmp:=true }:TI):=by kernel_rfl
@[simp] theorem D147:Dof Tryz.prog 147=some ({ size:=1,bytes:=8,zero:=[AV.nilf],zv:=AV.nilf,d:=TD.fn,cmp:=true }:TI):=by kernel_rfl
@[simp] theorem D148:Dof Tryz.prog 148=some ({ size:=1,bytes:=8,zero:=[AV.nilf],zv:=AV.nilf,d:=TD.fn,cmp:=true }:TI):=by kernel_rfl
@[simp] theorem D149:Dof Tryz.prog 149=some ({ size:=1,bytes:=8,zero:=[AV.nilf],zv:=AV.nilf,d:=TD.fn,cmp:=true }:TI):=by kernel_rfl
@[simp] theorem D150:Dof Tryz.prog 150=some ({ size:=7,bytes:=7,zero:=[AV.bool false,AV.bool false,AV.bool false,AV.bool false,AV.bool false,AV.bool false,AV.bool false],zv:=AV.agg [AV.bool false,AV.bool false,AV.bool false,AV.bool false,AV.bool false,AV.bool false,AV.bool false],d:=TD.st [(0,4),(1,4),(2,4),(3,4),(4,4),(5,4),(6,4)],cmp:=true }:TI):=by kernel_rfl
@[simp] theorem D151:Dof Tryz.prog 151=some ({ size:=7,bytes:=7,zero:=[AV.bool false,AV.bool false,AV.bool false,AV.bool false,AV.bool false,AV.bool false,AV.bool false],zv:=AV.agg [AV.bool false,AV.bool false,AV.bool false,AV.bool false,AV.bool false,AV.bool false,AV.bool false],d:=TD.st [(0,4),(1,4),(2,4),(3,4),(4,4),(5,4),(6,4)],cmp:=true }:TI):=by kernel_rfl
@[simp] theorem D152:Dof Tryz.prog 152=some ({ size:=1,bytes:=0,zero:=[AV.any],zv:=AV.any,d:=TD.other,cmp:=true }:TI):=by kernel_rfl
@[simp] theorem D153:Dof Tryz.prog 153=some ({ size:=1,bytes:=8,zero:=[AV.nilm],zv:=AV.nilm,d:=TD.map 3 151,cmp:=true }:TI):=by kernel_rfl
@[simp] theorem D154:Dof Tryz.prog 154=some ({ size:=1,bytes:=8,zero:=[AV.nilf],zv:=AV.nilf,d:=TD.fn,cmp:=true }:TI):=by kernel_rfl
@[simp] theorem D155:Dof Tryz.prog 155=some ({ size:=1,bytes:=8,zero:=[AV.nilf],zv:=AV.nilf,d:=TD.fn,cmp:=true }:TI):=by kernel_rfl
@[simp] theorem D156:Dof Tryz.prog 156=some ({ size:=1,bytes:=8,zero:=[AV.nilf],zv:=AV.nilf,d:=TD.fn,cmp:=true }:TI):=by kernel_rfl
@[simp] theorem D157:Dof Tryz.prog 157=some ({ size:=1,bytes:=8,zero:=[AV.nilf],zv:=AV.nilf,d:=TD.fn,cmp:=true }:TI):=by kernel_rfl
@[simp] theorem D158:Dof Tryz.prog 158=some ({ size:=1,bytes:=8,zero:=[AV.nilf],zv:=AV.nilf,d:=TD.fn,cmp:=true }:TI):=by kernel_rfl
@[simp] theorem D159:Dof Tryz.prog 159=some ({ size:=1,bytes:=8,zero:=[AV.nilf],zv:=AV.nilf,d:=TD.fn,cmp:=true }:TI):=by kernel_rfl
@[simp] theorem D160:Dof Tryz.prog 160=some ({ size:=1,bytes:=8,zero:=[AV.nilf],zv:=AV.nilf,d:=TD.fn,cmp:=true }:TI):=by kernel_rfl
@[simp] theorem D161:Dof Tryz.prog 161=some ({ size:=1,bytes:=24,zero:=[AV.sl 0 [] Tok.nil],zv:=AV.sl 0 [] Tok.nil,d:=TD.sl 233,cmp:=true }:TI):=by kernel_rfl
@[simp] theorem D162:Dof Tryz.prog 162=some ({ size:=1,bytes:=0,zero:=[AV.any],zv:=AV.any,d:=TD.other,cmp:=true }:TI):=by kernel_rfl
@[simp] theorem D163:Dof Tryz.prog 163=some ({ size:=1,bytes:=8,zero:=[AV.nilf],zv:=AV.nilf,d:=TD.fn,cmp:=true }:TI):=by kernel_rfl
@[simp] theorem D164:Dof Tryz.prog 164=some ({ size:=1,bytes:=8,zero:=[AV.nilf],zv:=AV.nilf,d:=TD.fn,cmp:=true }:TI):=by kernel_rfl
@[simp] theorem D165:Dof Tryz.prog 165=some ({ size:=2,bytes:=40,zero:=[AV.str [],AV.sl 0 [] Tok.nil],zv:=AV.agg [AV.str [],AV.sl 0 [] Tok.nil],d:=TD.st [(0,9),(1,22)],cmp:=true }:TI):=by kernel_rfl
@[simp] theorem D166:Dof Tryz.prog 166=some ({ size:=2,bytes:=40,zero:=[AV.str [],AV.sl 0 [] Tok.nil],zv:=AV.agg [AV.str [],AV.sl 0 [] Tok.nil],d:=TD.st [(0,9),(1,22)],cmp:=true }:TI):=by kernel_rfl
@[simp] theorem D167:Dof Tryz.prog 167=some ({ size:=1,bytes:=8,zero:=[AV.nilf],zv:=AV.nilf,d:=TD.fn,cmp:=true }:TI):=by kernel_rfl
@[simp] theorem D168:Dof Tryz.prog 168=some ({ size:=1,bytes:=8,zero:=[AV.nilp],zv:=AV.nilp,d:=TD.ptr 172,cmp:=true }:TI):=by kernel_rfl
@[simp] theorem D169:Dof Tryz.prog 169=some ({ size:=1,bytes:=8,zero:=[AV.nilf],zv:=AV.nilf,d:=TD.fn,cmp:=true }:TI):=by kernel_rfl
@[simp] theorem D170:Dof Tryz.prog 170=some ({ size:=1,bytes:=8,zero:=[AV.nilm],zv:=AV.nilm,d:=TD.map 3 48,cmp:=true }:TI):=by kernel_rfl
@[simp] theorem D171:Dof Tryz.prog 171=some ({ size:=10,bytes:=208,zero:=[AV.str [],AV.str [],AV.sl 0 [] Tok.nil,AV.sl 0 [] Tok.nil,AV.sl 0 [] Tok.nil,AV.sl 0 [] Tok.nil,AV.sl 0 [] Tok.nil,AV.sl 0 [] Tok.nil,AV.sl 0 [] Tok.nil,AV.nilm],zv:=AV.agg [AV.str [],AV.str [],AV.sl 0 [] Tok.nil,AV.sl 0 [] Tok.nil,AV.sl 0 [] Tok.nil,AV.sl 0 [] Tok.nil,AV.sl 0 [] Tok.nil,AV.sl 0 [] Tok.nil,AV.sl 0 [] Tok.nil,AV.nilm],d:=TD.st [(0,66),(4,94),(9,170)],cmp:=true }:TI):=by kernel_rfl
@[simp] theorem D172:Dof Tryz.prog 172=some ({ size:=10,bytes:=208,zero:=[AV.str [],AV.str [],AV.sl 0 [] Tok.nil,AV.sl 0 [] Tok.nil,AV.sl 0 [] Tok.nil,AV.sl 0 [] Tok.nil,AV.sl 0 [] Tok.nil,AV.sl 0 [] Tok.nil,AV.sl 0 [] Tok.nil,AV.nilm],zv:=AV.agg [AV.str [],AV.str [],AV.sl 0 [] Tok.nil,AV.sl 0 [] Tok.nil,AV.sl 0 [] Tok.nil,AV.sl 0 [] Tok.nil,AV.sl 0 [] Tok.nil,AV.sl 0 [] Tok.nil,AV.sl 0 [] Tok.nil,AV.nilm],d:=TD.st [(0,66),(4,94),(9,170)],cmp:=true }:TI):=by kernel_rfl
@[simp] theorem D173:Dof Tryz.prog 173=some ({ size:=1,bytes:=24,zero:=[AV.sl 0 [] Tok.nil],zv:=AV.sl 0 [] Tok.nil,d:=TD.sl 22,cmp:=true }:TI):=by kernel_rfl
@[simp] theorem D174:Dof Tryz.prog 174=some ({ size:=1,bytes:=8,zero:=[AV.nilf],zv:=AV.nilf,d:=TD.fn,cmp:=true }:TI):=by kernel_rfl
@[simp] theorem D175:Dof Tryz.prog 175=some ({ size:=1,bytes:=0,zero:=[AV.any],zv:=AV.any,d:=TD.other,cmp:=true }:TI):=by kernel_rfl
@[simp] theorem D176:Dof Tryz.prog 176=some ({ size:=1,bytes:=8,zero:=[AV.nilf],zv:=AV.nilf,d:=TD.fn,cmp:=true }:TI):=by kernel_rfl
@[simp] theorem D177:Dof Tryz.prog 177=some ({ size:=1,bytes:=8,zero:=[AV.nilf],zv:=AV.nilf,d:=TD.fn,cmp:=true }:TI):=by kernel_rfl
@[simp] theorem D178:Dof Tryz.prog 178=some ({ size:=1,bytes:=8,zero:=[AV.nilf],zv:=AV.nilf,d:=TD.fn,cmp:=true }:TI):=by kernel_rfl
@[simp] theorem D179:Dof Tryz.prog 179=some ({ size:=1,bytes:=8,zero:=[AV.nilf],zv:=AV.nilf,d:=TD.fn,cmp:=true }:TI):=by kernel_rfl
@[simp] theorem D180:Dof Tryz.prog 180=some ({ size:=1,bytes:=8,zero:=[AV.nilf],zv:=AV.nilf,d:=TD.fn,cmp:=true }:TI):=by kernel_rfl
@[simp] theorem D181:Dof Tryz.prog 181=some ({ size:=1,bytes:=8,zero:=[AV.nilf],zv:=AV.nilf,d:=TD.fn,cmp:=true }:TI):=by kernel_rfl
@[simp] theorem D182:Dof Tryz.prog 182=some ({ size:=1,bytes:=8,zero:=[AV.nilp],zv:=AV.nilp,d:=TD.ptr 33,cmp:=true }:TI):=by kernel_rfl
@[simp] theorem D183:Dof Tryz.prog 183=some ({ size:=1,bytes:=8,zero:=[AV.nilf],zv:=AV.nilf,d:=TD.fn,cmp:=true }:TI):=by kernel_rfl
@[simp] theorem D184:Dof Tryz.prog 184=some ({ size:=1,bytes:=8,zero:=[AV.nilf],zv:=AV.nilf,d:=TD.fn,cmp:=true }:TI):=by kernel_rfl
@[simp] theorem D185:Dof Tryz.prog 185=some ({ size:=1,bytes:=0,zero:=[AV.any],zv:=AV.any,d:=TD.other,cmp:=true }:TI):=by kernel_rfl
@[simp] theorem D186:Dof Tryz.prog 186=some ({ size:=1,bytes:=8,zero:=[AV.nilf],zv:=AV.nilf,d:=TD.fn,cmp:=true }:TI):=by kernel_rfl
@[simp] theorem D187:Dof Tryz.prog 187=some ({ size:=1,bytes:=8,zero:=[AV.nilf],zv:=AV.nilf,d:=TD.fn,cmp:=true }:TI):=by kernel_rfl
@[simp] theorem D188:Dof Tryz.prog 188=some ({ size:=1,bytes:=8,zero:=[AV.nilf],zv:=AV.nilf,d:=TD.fn,cmp:=true }:TI):=by kernel_rfl
@[simp] theorem D189:Dof Tryz.prog 189=some ({ size:=1,bytes:=8,zero:=[AV.nilf],zv:=AV.nilf,d:=TD.fn,cmp:=true }:TI):=by kernel_rfl
@[simp] theorem D190:Dof Tryz.prog 190=some ({ size:=1,bytes:=8,zero:=[AV.nilf],zv:=AV.nilf,d:=TD.fn,cmp:=true }:TI):=by kernel_rfl
@[simp] theorem D191:Dof Tryz.prog 191=some ({ size:=1,bytes:=8,zero:=[AV.nilf],zv:=AV.nilf,d:=TD.fn,cmp:=true }:TI):=by kernel_rfl
@[simp] theorem D192:Dof Tryz.prog 192=some ({ size:=1,bytes:=8,zero:=[AV.nilf],zv:=AV.nilf,d:=TD.fn,cmp:=true }:TI):=by kernel_rfl
@[simp] theorem D193:Dof Tryz.prog 193=some ({ size:=1,bytes:=8,zero:=[AV.nilp],zv:=AV.nilp,d:=TD.ptr 265,cmp:=true }:TI):=by kernel_rfl
@[simp] theorem D194:Dof Tryz.prog 194=some ({ size:=1,bytes:=0,zero:=[AV.any],zv:=AV.any,d:=TD.other,cmp:=true }:TI):=by kernel_rfl
@[simp] theorem D195:Dof Tryz.prog 195=some ({ size:=1,bytes:=8,zero:=[AV.nilf],zv:=AV.nilf,d:=TD.fn,cmp:=true }:TI):=by kernel_rfl
@[simp] theorem D196:Dof Tryz.prog 196=some ({ size:=1,bytes:=8,zero:=[AV.nilf],zv:=AV.nilf,d:=TD.fn,cmp:=true }:TI):=by kernel_rfl
@[simp] theorem D197:Dof Tryz.prog 197=some ({ size:=1,bytes:=8,zero:=[AV.nilf],zv:=AV.nilf,d:=TD.fn,cmp:=true }:TI):=by kernel_rfl
@[simp] theorem D198:Dof Tryz.prog 198=some ({ size:=1,bytes:=8,zero:=[AV.nilf],zv:=AV.nilf,d:=TD.fn,cmp:=true }:TI):=by kernel_rfl
@[simp] theorem D199:Dof Tryz.prog 199=some ({ size:=1,bytes:=8,zero:=[AV.nilf],zv:=AV.nilf,d:=TD.fn,cmp:=true }:TI):=by kernel_rfl
@[simp] theorem D200:Dof Tryz.prog 200=some ({ size:=1,bytes:=8,zero:=[AV.nilf],zv:=AV.nilf,d:=TD.fn,cmp:=true }:TI):=by kernel_rfl
@[simp] theorem D201:Dof Tryz.prog 201=some ({ size:=4,bytes:=32,zero:=[AV.int IntKind.i64 0,AV.int IntKind.i64 0,AV.int IntKind.i64 0,AV.bool false],zv:=AV.agg [AV.int IntKind.i64 0,AV.int IntKind.i64 0,AV.int IntKind.i64 0,AV.bool false],d:=TD.st [(0,3),(1,3),(2,3),(3,4)],cmp:=true }:TI):=by kernel_rfl
@[simp] theorem D202:Dof Tryz.prog 202=some ({ size:=4,bytes:=32,zero:=[AV.int IntKind.i64 0,AV.int IntKind.i64 0,AV.int IntKind.i64 0,AV.bool false],zv:=AV.agg [AV.int IntKind.i64 0,AV.int IntKind.i64 0,AV.int IntKind.i64 0,AV.bool false],d:=TD.st [(0,3),(1,3),(2,3),(3,4)],cmp:=true }:TI):=by kernel_rfl
@[simp] theorem D203:Dof Tryz.prog 203=some ({ size:=1,bytes:=24,zero:=[AV.sl 0 [] Tok.nil],zv:=AV.sl 0 [] Tok.nil,d:=TD.sl 37,cmp:=true }:TI):=by kernel_rfl
@[simp] theorem D204:Dof Tryz.prog 204=some ({ size:=1,bytes:=8,zero:=[AV.nilf],zv:=AV.nilf,d:=TD.fn,cmp:=true }:TI):=by kernel_rfl
@[simp] theorem D205:Dof Tryz.prog 205=some ({ size:=1,bytes:=8,zero:=[AV.nilf],zv:=AV.nilf,d:=TD.fn,cmp:=true }:TI):=by kernel_rfl
@[simp] theorem D206:Dof Tryz.prog 206=some ({ size:=1,bytes:=8,zero:=[AV.nilf],zv:=AV.nilf,d:=TD.fn,cmp:=true }:TI):=by kernel_rfl
@[simp] theorem D207:Dof Tryz.prog 207=some ({ size:=1,bytes:=8,zero:=[AV.nilf],zv:=AV.nilf,d:=TD.fn,cmp:=true }:TI):=by kernel_rfl
@[simp] theorem D208:Dof Tryz.prog 208=some ({ size:=1,bytes:=8,zero:=[AV.nilf],zv:=AV.nilf,d:=TD.fn,cmp:=true }:TI):=by kernel_rfl
@[simp] theorem D209:Dof Tryz.prog 209=some ({ size:=1,bytes:=8,zero:=[AV.nilf],zv:=AV.nilf,d:=TD.fn,cmp:=true }:TI):=by kernel_rfl
@[simp] theorem D210:Dof Tryz.prog 210=some ({ size:=1,bytes:=0,zero:=[AV.any],zv:=AV.any,d:=TD.other,cmp:=true }:TI):=by kernel_rfl
@[simp] theorem D211:Dof Tryz.prog 211=some ({ size:=1,bytes:=8,zero:=[AV.nilf],zv:=AV.nilf,d:=TD.fn,cmp:=true }:TI):=by kernel_rfl
@[simp] theorem D212:Dof Tryz.prog 212=some ({ size:=5,bytes:=88,zero:=[AV.str [],AV.str [],AV.sl 0 [] Tok.nil,AV.sl 0 [] Tok.nil,AV.bool false],zv:=AV.agg [AV.str [],AV.str [],AV.sl 0 [] Tok.nil,AV.sl 0 [] Tok.nil,AV.bool false],d:=TD.st [(0,66),(4,4)],cmp:=true }:TI):=by kernel_rfl
@[simp] theorem D213:Dof Tryz.prog 213=some ({ size:=5,bytes:=88,zero:=[AV.str [],AV.str [],AV.sl 0 [] Tok.nil,AV.sl 0 [] Tok.nil,AV.bool false],zv:=AV.agg [AV.str [],AV.str [],AV.sl 0 [] Tok.nil,AV.sl 0 [] Tok.nil,AV.bool false],d:=TD.st [(0,66),(4,4)],cmp:=true }:TI):=by kernel_rfl
@[simp] theorem D214:Dof Tryz.prog 214=some ({ size:=1,bytes:=8,zero:=[AV.nilp],zv:=AV.nilp,d:=TD.ptr 213,cmp:=true }:TI):=by kernel_rfl
@[simp] theorem D215:Dof Tryz.prog 215=some ({ size:=1,bytes:=8,zero:=[AV.nilf],zv:=AV.nilf,d:=TD.fn,cmp:=true }:TI):=by kernel_rfl
@[simp] theorem D216:Dof Tryz.prog 216=some ({ size:=1,bytes:=8,zero:=[AV.nilf],zv:=AV.nilf,d:=TD.fn,cmp:=true }:TI):=by kernel_rfl
@[simp] theorem D217:Dof Tryz.prog 217=some ({ size:=1,bytes:=8,zero:=[AV.nilf],zv:=AV.nilf,d:=TD.fn,cmp:=true }:TI):=by kernel_rfl
@[simp] theorem D218:Dof Tryz.prog 218=some ({ size:=1,bytes:=8,zero:=[AV.nilf],zv:=AV.nilf,d:=TD.fn,cmp:=true }:TI):=by kernel_rfl
@[simp] theorem D219:Dof Tryz.prog 219=some ({ size:=1,bytes:=8,zero:=[AV.nilp],zv:=AV.nilp,d:=TD.ptr 224,cmp:=true }:TI):=by kernel_rfl
@[simp] theorem D220:Dof Tryz.prog 220=some ({ size:=1,bytes:=8,zero:=[AV.nilm],zv:=AV.nilm,d:=TD.map 9 3,cmp:=true }:TI):=by kernel_rfl
@[simp] theorem D221:Dof Tryz.prog 221=some ({ size:=1,bytes:=8,zero:=[AV.nilm],zv:=AV.nilm,d:=TD.map 9 3,cmp:=true }:TI):=by kernel_rfl
@[simp] theorem D222:Dof Tryz.prog 222=some ({ size:=1,bytes:=8,zero:=[AV.nilf],zv:=AV.nilf,d:=TD.fn,cmp:=true }:TI):=by kernel_rfl
@[simp] theorem D223:Dof Tryz.prog 223=some ({ size:=3,bytes:=40,zero:=[AV.nilm,AV.sl 0 [] Tok.nil,AV.bool false],zv:=AV.agg [AV.nilm,AV.sl 0 [] Tok.nil,AV.bool false],d:=TD.st [(0,221),(1,22),(2,4)],cmp:=true }:TI):=by kernel_rfl
@[simp] theorem D224:Dof Tryz.prog 224=some ({ size:=3,bytes:=40,zero:=[AV.nilm,AV.sl 0 [] Tok.nil,AV.bool false],zv:=AV.agg [AV.nilm,AV.sl 0 [] Tok.nil,AV.bool false],d:=TD.st [(0,221),(1,22),(2,4)],cmp:=true }:TI):=by kernel_rfl
@[simp] theorem D225:Dof Tryz.prog 225=some ({ size:=1,bytes:=8,zero:=[AV.nilf],zv:=AV.nilf,d:=TD.fn,cmp:=true }:TI):=by kernel_rfl
@[simp] theorem D226:Dof Tryz.prog 226=some ({ size:=1,bytes:=8,zero:=[AV.nilf],zv:=AV.nilf,d:=TD.fn,cmp:=true }:TI):=by kernel_rfl
@[simp] theorem D227:Dof Tryz.prog 227=some ({ size:=1,bytes:=8,zero:=[AV.nilf],zv:=AV.nilf,d:=TD.fn,cmp:=true }:TI):=by kernel_rfl
@[simp] theorem D228:Dof Tryz.prog 228=some ({ size:=2,bytes:=32,zero:=[AV.int IntKind.i64 0,AV.sl 0 [] Tok.nil],zv:=AV.agg [AV.int IntKind.i64 0,AV.sl 0 [] Tok.nil],d:=TD.st [(0,3),(1,36)],cmp:=true }:TI):=by kernel_rfl
@[simp] theorem D229:Dof Tryz.prog 229=some ({ size:=2,bytes:=32,zero:=[AV.int IntKind.i64 0,AV.sl 0 [] Tok.nil],zv:=AV.agg [AV.int IntKind.i64 0,AV.sl 0 [] Tok.nil],d:=TD.st [(0,3),(1,36)],cmp:=true }:TI):=by kernel_rfl
@[simp] theorem D230:Dof Tryz.prog 230=some ({ size:=1,bytes:=8,zero:=[AV.nilf],zv:=AV.nilf,d:=TD.fn,cmp:=true }:TI):=by kernel_rfl
@[simp] theorem D231:Dof Tryz.prog 231=some ({ size:=1,bytes:=24,zero:=[AV.sl 0 [] Tok.nil],zv:=AV.sl 0 [] Tok.nil,d:=TD.sl 178,cmp:=true }:TI):=by kernel_rfl
@[simp] theorem D232:Dof Tryz.prog 232=some ({ size:=2,bytes:=24,zero:=[AV.str [],AV.int IntKind.i64 0],zv:=AV.agg [AV.str [],AV.int IntKind.i64 0],d:=TD.st [(0,9),(1,3)],cmp:=true }:TI):=by kernel_rfl
@[simp] theorem D233:Dof Tryz.prog 233=some ({ size:=2,bytes:=24,zero:=[AV.str [],AV.int IntKind.i64 0],zv:=AV.agg [AV.str [],AV.int IntKind.i64 0],d:=TD.st [(0,9),(1,3)],cmp:=true }:TI):=by kernel_rfl
@[simp] theorem D234:Dof Tryz.prog 234=some ({ size:=1,bytes:=8,zero:=[AV.nilf],zv:=AV.nilf,d:=TD.fn,cmp:=true }:TI):=by kernel_rfl
@[simp] theorem D235:Dof Tryz.prog 235=some ({ size:=1,bytes:=8,zero:=[AV.nilf],zv:=AV.nilf,d:=TD.fn,cmp:=true }:TI):=by kernel_rfl
@[simp] theorem D236:Dof Tryz.prog 236=some ({ size:=1,bytes:=8,zero:=[AV.nilf],zv:=AV.nilf,d:=TD.fn,cmp:=true }:TI):=by kernel_rfl
@[simp] theorem D237:Dof Tryz.prog 237=some ({ size:=1,bytes:=8,zero:=[AV.nilf],zv:=AV.nilf,d:=TD.fn,cmp:=true }:TI):=by kernel_rfl
@[simp] theorem D238:Dof Tryz.prog 238=some ({ size:=1,bytes:=8,zero:=[AV.nilf],zv:=AV.nilf,d:=TD.fn,cmp:=true }:TI):=by kernel_rfl
@[simp] theorem D239:Dof Tryz.prog 239=some ({ size:=1,bytes:=8,zero:=[AV.nilm],zv:=AV.nilm,d:=TD.map 3 3,cmp:=true }:TI):=by kernel_rfl
@[simp] theorem D240:Dof Tryz.prog 240=some ({ size:=1,bytes:=0,zero:=[AV.any],zv:=AV.any,d:=TD.other,cmp:=true }:TI):=by kernel_rfl
@[simp] theorem D241:Dof Tryz.prog 241=some ({ size:=1,bytes:=8,zero:=[AV.nilf],zv:=AV.nilf,d:=TD.fn,cmp:=true }:TI):=by kernel_rfl
@[simp] theorem D242:Dof Tryz.prog 242=some ({ size:=1,bytes:=0,zero:=[AV.any],zv:=AV.any,d:=TD.other,cmp:=true }:TI):=by kernel_rfl
@[simp] theorem D243:Dof Tryz.prog 243=some ({ size:=1,bytes:=8,zero:=[AV.nilf],zv:=AV.nilf,d:=TD.fn,cmp:=true }:TI):=by kernel_rfl
@[simp] theorem D244:Dof Tryz.prog 244=some ({ size:=1,bytes:=8,zero:=[AV.nilf],zv:=AV.nilf,d:=TD.fn,cmp:=true }:TI):=by kernel_rfl
@[simp] theorem D245:Dof Tryz.prog 245=some ({ size:=1,bytes:=0,zero:=[AV.any],zv:=AV.any,d:=TD.other,cmp:=true }:TI):=by kernel_rfl
@[simp] theorem D246:Dof Tryz.prog 246=some ({ size:=1,bytes:=8,zero:=[AV.nilf],zv:=AV.nilf,d:=TD.fn,cmp:=true }:TI):=by kernel_rfl
@[simp] theorem D247:Dof Tryz.prog 247=some ({ size:=1,bytes:=8,zero:=[AV.nilf],zv:=AV.nilf,d:=TD.fn,cmp:=true }:TI):=by kernel_rfl
@[simp] theorem D248:Dof Tryz.prog 248=some ({ size:=1,bytes:=8,zero:=[AV.nilf],zv:=AV.nilf,d:=TD.fn,cmp:=true }:TI):=by kernel_rfl
@[simp] theorem D249:Dof Tryz.prog 249=some ({ size:=1,bytes:=8,zero:=[AV.nilf],zv:=AV.nilf,d:=TD.fn,cmp:=true }:TI):=by kernel_rfl
@[simp] theorem D250:Dof Tryz.prog 250=some ({ size:=1,bytes:=8,zero:=[AV.nilf],zv:=AV.nilf,d:=TD.fn,cmp:=true }:TI):=by kernel_rfl
@[simp] theorem D251:Dof Tryz.prog 251=some ({ size:=1,bytes:=8,zero:=[AV.nilf],zv:=AV.nilf,d:=TD.fn,cmp:=true }:TI):=by kernel_rfl
@[simp] theorem D252:Dof Tryz.prog 252=some ({ size:=1,bytes:=8,zero:=[AV.nilf],zv:=AV.nilf,d:=TD.fn,cmp:=true }:TI):=by kernel_rfl
@[simp] theorem D253:Dof Tryz.prog 253=some ({ size:=1,bytes:=8,zero:=[AV.nilf],zv:=AV.nilf,d:=TD.fn,cmp:=true }:TI):=by kernel_rfl
@[simp] theorem D254:Dof Tryz.prog 254=some ({ size:=1,bytes:=24,zero:=[AV.sl 0 [] Tok.nil],zv:=AV.sl 0 [] Tok.nil,d:=TD.sl 4,cmp:=true }:TI):=by kernel_rfl
@[simp] theorem D255:Dof Tryz.prog 255=some ({ size:=1,bytes:=8,zero:=[AV.nilf],zv:=AV.nilf,d:=TD.fn,cmp:=true }:TI):=by kernel_rfl
@[simp] theorem D256:Dof Tryz.prog 256=some ({ size:=1,bytes:=8,zero:=[AV.nilf],zv:=AV.nilf,d:=TD.fn,cmp:=true }:TI):=by kernel_rfl
@[simp] theorem D257:Dof Tryz.prog 257=some ({ size:=1,bytes:=8,zero:=[AV.nilf],zv:=AV.nilf,d:=TD.fn,cmp:=true }:TI):=by kernel_rfl
@[simp] theorem D258:Dof Tryz.prog 258=some ({ size:=1,bytes:=8,zero:=[AV.nilf],zv:=AV.nilf,d:=TD.fn,cmp:=true }:TI):=by kernel_rfl
@[simp] theorem D259:Dof Tryz.prog 259=some ({ size:=1,bytes:=8,zero:=[AV.nilf],zv:=AV.nilf,d:=TD.fn,cmp:=true }:TI):=by kernel_rfl
@[simp] theorem D260:Dof Tryz.prog 260=some ({ size:=1,bytes:=8,zero:=[AV.nilf],zv:=AV.nilf,d:=TD.fn,cmp:=true }:TI):=by kernel_rfl
@[simp] theorem D261:Dof Tryz.prog 261=some ({ size:=1,bytes:=24,zero:=[AV.sl 0 [] Tok.nil],zv:=AV.sl 0 [] Tok.nil,d:=TD.sl 364,cmp:=true }:TI):=by kernel_rfl
@[simp] theorem D262:Dof Tryz.prog 262=some ({ size:=1,bytes:=24,zero:=[AV.sl 0 [] Tok.nil],zv:=AV.agg [AV.sl 0 [] Tok.nil],d:=TD.st [(0,261)],cmp:=true }:TI):=by kernel_rfl
@[simp] theorem D263:Dof Tryz.prog 263=some ({ size:=1,bytes:=24,zero:=[AV.sl 0 [] Tok.nil],zv:=AV.agg [AV.sl 0 [] Tok.nil],d:=TD.st [(0,261)],cmp:=true }:TI):=by kernel_rfl
@[simp] theorem D264:Dof Tryz.prog 264=some ({ size:=11,bytes:=216,zero:=[AV.sl 0 [] Tok.nil,AV.sl 0 [] Tok.nil,AV.sl 0 [] Tok.nil,AV.sl 0 [] Tok.nil,AV.sl 0 [] Tok.nil,AV.sl 0 [] Tok.nil,AV.sl 0 [] Tok.nil,AV.sl 0 [] Tok.nil,AV.int IntKind.i64 0,AV.bool false,AV.nilf],zv:=AV.agg [AV.sl 0 [] Tok.nil,AV.sl 0 [] Tok.nil,AV.sl 0 [] Tok.nil,AV.sl 0 [] Tok.nil,AV.sl 0 [] Tok.nil,AV.sl 0 [] Tok.nil,AV.sl 0 [] Tok.nil,AV.sl 0 [] Tok.nil,AV.int IntKind.i64 0,AV.bool false,AV.nilf],d:=TD.st [(0,94),(5,33),(6,48),(7,263),(8,3),(9,4),(10,259)],cmp:=true }:TI):=by kernel_rfl
@[simp] theorem D265:Dof Tryz.prog 265=some ({ size:=11,bytes:=216,zero:=[AV.sl 0 [] Tok.nil,AV.sl 0 [] Tok.nil,AV.sl 0 [] Tok.nil,AV.sl 0 [] Tok.nil,AV.sl 0 [] Tok.nil,AV.sl 0 [] Tok.nil,AV.sl 0 [] Tok.nil,AV.sl 0 [] Tok.nil,AV.int IntKind.i64 0,AV.bool false,AV.nilf],zv:=AV.agg [AV.sl 0 [] Tok.nil,AV.sl 0 [] Tok.nil,AV.sl 0 [] Tok.nil,AV.sl 0 [] Tok.nil,AV.sl 0 [] Tok.nil,AV.sl 0 [] Tok.nil,AV.sl 0 [] Tok.nil,AV.sl 0 [] Tok.nil,AV.int IntKind.i64 0,AV.bool false,AV.nilf],d:=TD.st [(0,94),(5,33),(6,48),(7,263),(8,3),(9,4),(10,259)],cmp:=true }:TI):=by kernel_rfl
@[simp] theorem D266:Dof Tryz.prog 266=some ({ size:=1,bytes:=0,zero:=[AV.any],zv:=AV.any,d:=TD.other,cmp:=true }:TI):=by kernel_rfl
@[simp] theorem D267:Dof Tryz.prog 267=some ({ size:=1,bytes:=8,zero:=[AV.nilf],zv:=AV.nilf,d:=TD.fn,cmp:=true }:TI):=by kernel_rfl
@[simp] theorem D268:Dof Tryz.prog 268=some ({ size:=1,bytes:=8,zero:=[AV.nilf],zv:=AV.nilf,d:=TD.fn,cmp:=true }:TI):=by kernel_rfl
@[simp] theorem D269:Dof Tryz.prog 269=some ({ size:=1,bytes:=8,zero:=[AV.nilf],zv:=AV.nilf,d:=TD.fn,cmp:=true }:TI):=by kernel_rfl
@[simp] theorem D270:Dof Tryz.prog 270=some ({ size:=1,bytes:=8,zero:=[AV.nilf],zv:=AV.nilf,d:=TD.fn,cmp:=true }:TI):=by kernel_rfl
@[simp] theorem D271:Dof Tryz.prog 271=some ({ size:=1,bytes:=8,zero:=[AV.nilf],zv:=AV.nilf,d:=TD.fn,cmp:=true }:TI):=by kernel_rfl
@[simp] theorem D272:Dof Tryz.prog 272=some ({ size:=1,bytes:=8,zero:=[AV.nilf],zv:=AV.nilf,d:=TD.fn,cmp:=true }:TI):=by kernel_rfl
@[simp] theorem D273:Dof Tryz.prog 273=some ({ size:=24,bytes:=24,zero:=[AV.int IntKind.u8 0,AV.int IntKind.u8 0,AV.int IntKind.u8 0,AV.int IntKind.u8 0,AV.int IntKind.u8 0,AV.int IntKind.u8 0,AV.int IntKind.u8 0,AV.int IntKind.u8 0,AV.int IntKind.u8 0,AV.int IntKind.u8 0,AV.int IntKind.u8 0,AV.int IntKind.u8 0,AV.int IntKind.u8 0,AV.int IntKind.u8 0,AV.int IntKind.u8 0,AV.int IntKind.u8 0,AV.int IntKind.u8 0,AV.int IntKind.u8 0,AV.int IntKind.u8 0,AV.int IntKind.u8 0,AV.int IntKind.u8 0,AV.int IntKind.u8 0,AV.int IntKind.u8 0,AV.int IntKind.u8 0],zv:=AV.agg [AV.int IntKind.u8 0,AV.int IntKind.u8 0,AV.int IntKind.u8 0,AV.int IntKind.u8 0,AV.int IntKind.u8 0,AV.int IntKind.u8 0,AV.int IntKind.u8 0,AV.int IntKind.u8 0,AV.int IntKind.u8 0,AV.int IntKind.u8 0,AV.int IntKind.u8 0,AV.int IntKind.u8 0,AV.int IntKind.u8 0,AV.int IntKind.u8 0,AV.int IntKind.u8 0,AV.int IntKind.u8 0,AV.int IntKind.u8 0,AV.int IntKind.u8 0,AV.int IntKind.u8 0,AV.int IntKind.u8 0,AV.int IntKind.u8 0,AV.int IntKind.u8 0,AV.int IntKind.u8 0,AV.int IntKind.u8 0],d:=TD.arr 24 5,cmp:=true }:TI):=by kernel_rfl
@[simp] theorem D274:Dof Tryz.prog 274=some ({ size:=1,bytes:=8,zero:=[AV.nilf],zv:=AV.nilf,d:=TD.fn,cmp:=true }:TI):=by kernel_rfl
@[simp] theorem D275:Dof Tryz.prog 275=some ({ size:=1,bytes:=8,zero:=[AV.nilf],zv:=AV.nilf,d:=TD.fn,cmp:=true }:TI):=by kernel_rfl
@[simp] theorem D276:Dof Tryz.prog 276=some ({ size:=1,bytes:=24,zero:=[AV.sl 0 [] Tok.nil],zv:=AV.sl 0 [] Tok.nil,d:=TD.sl 5,cmp:=true }:TI):=by kernel_rfl
@[simp] theorem D277:Dof Tryz.prog 277=some ({ size:=1,bytes:=0,zero:=[AV.any],zv:=AV.any,d:=TD.other,cmp:=true }:TI):=by kernel_rfl
@[simp] theorem D278:Dof Tryz.prog 278=some ({ size:=1,bytes:=8,zero:=[AV.nilf],zv:=AV.nilf,d:=TD.fn,cmp:=true }:TI):=by kernel_rfl
@[simp] theorem D279:Dof Tryz.prog 279=some ({ size:=1,bytes:=8,zero:=[AV.nilf],zv:=AV.nilf,d:=TD.fn,cmp:=true }:TI):=by kernel_rfl
@[simp] theorem D280:Dof Tryz.prog 280=some ({ size:=1,bytes:=8,zero:=[AV.nilf],zv:=AV.nilf,d:=TD.fn,cmp:=true }:TI):=by kernel_rfl
@[simp] theorem D281:Dof Tryz.prog 281=some ({ size:=1,bytes:=8,zero:=[AV.nilp],zv:=AV.nilp,d:=TD.ptr 284,cmp:=true }:TI):=by kernel_rfl
@[simp] theorem D282:Dof Tryz.prog 282=some ({ size:=1,bytes:=8,zero:=[AV.nilf],zv:=AV.nilf,d:=TD.fn,cmp:=true }:TI):=by kernel_rfl
@[simp] theorem D283:Dof Tryz.prog 283=some ({ size:=5,bytes:=72,zero:=[AV.int IntKind.i64 0,AV.int IntKind.i64 0,AV.int IntKind.i64 0,AV.sl 0 [] Tok.nil,AV.sl 0 [] Tok.nil],zv:=AV.agg [AV.int IntKind.i64 0,AV.int IntKind.i64 0,AV.int IntKind.i64 0,AV.sl 0 [] Tok.nil,AV.sl 0 [] Tok.nil],d:=TD.st [(0,3),(1,3),(2,29),(3,37),(4,37)],cmp:=true }:TI):=by kernel_rfl
@[simp] theorem D284:Dof Tryz.prog 284=some ({ size:=5,bytes:=72,zero:=[AV.int IntKind.i64 0,AV.int IntKind.i64 0,AV.int IntKind.i64 0,AV.sl 0 [] Tok.nil,AV.sl 0 [] Tok.nil],zv:=AV.agg [AV.int IntKind.i64 0,AV.int IntKind.i64 0,AV.int IntKind.i64 0,AV.sl 0 [] Tok.nil,AV.sl 0 [] Tok.nil],d:=TD.st [(0,3),(1,3),(2,29),(3,37),(4,37)],cmp:=true }:TI):=by kernel_rfl
@[simp] theorem D285:Dof Tryz.prog 285=some ({ size:=1,bytes:=8,zero:=[AV.nilf],zv:=AV.nilf,d:=TD.fn,cmp:=true }:TI):=by kernel_rfl
@[simp] theorem D286:Dof Tryz.prog 286=some ({ size:=1,bytes:=0,zero:=[AV.any],zv:=AV.any,d:=TD.other,cmp:=true }:TI):=by kernel_rfl
@[simp] theorem D287:Dof Tryz.prog 287=some ({ size:=1,bytes:=8,zero:=[AV.nilf],zv:=AV.nilf,d:=TD.fn,cmp:=true }:TI):=by kernel_rfl
@[simp] theorem D288:Dof Tryz.prog 288=some ({ size:=1,bytes:=0,zero:=[AV.any],zv:=AV.any,d:=TD.other,cmp:=true }:TI):=by kernel_rfl
@[simp] theorem D289:Dof Tryz.prog 289=some ({ size:=1,bytes:=8,zero:=[AV.nilf],zv:=AV.nilf,d:=TD.fn,cmp:=true }:TI):=by kernel_rfl
@[simp] theorem D290:Dof Tryz.prog 290=some ({ size:=1,bytes:=8,zero:=[AV.nilf],zv:=AV.nilf,d:=TD.fn,cmp:=true }:TI):=by kernel_rfl
@[simp] theorem D291:Dof Tryz.prog 291=some ({ size:=1,bytes:=8,zero:=[AV.nilf],zv:=AV.nilf,d:=TD.fn,cmp:=true }:TI):=by kernel_rfl
@[simp] theorem D292:Dof Tryz.prog 292=some ({ size:=1,bytes:=8,zero:=[AV.nilf],zv:=AV.nilf,d:=TD.fn,cmp:=true }:TI):=by kernel_rfl
@[simp] theorem D293:Dof Tryz.prog 293=some ({ size:=1,bytes:=8,zero:=[AV.nilf],zv:=AV.nilf,d:=TD.fn,cmp:=true }:TI):=by kernel_rfl
@[simp] theorem D294:Dof Tryz.prog 294=some ({ size:=1,bytes:=8,zero:=[AV.nilf],zv:=AV.nilf,d:=TD.fn,cmp:=true }:TI):=by kernel_rfl
@[simp] theorem D295:Dof Tryz.prog 295=some ({ size:=1,bytes:=8,zero:=[AV.nilf],zv:=AV.nilf,d:=TD.fn,cmp:=true }:TI):=by kernel_rfl
@[simp] theorem D296:Dof Tryz.prog 296=some ({ size:=1,bytes:=8,zero:=[AV.nilf],zv:=AV.nilf,d:=TD.fn,cmp:=true }:TI):=by kernel_rfl
@[simp] theorem D297:Dof Tryz.prog 297=some ({ size:=1,bytes:=8,zero:=[AV.nilf],zv:=AV.nilf,d:=TD.fn,cmp:=true }:TI):=by kernel_rfl
@[simp] theorem D298:Dof Tryz.prog 298=some ({ size:=1,bytes:=8,zero:=[AV.nilf],zv:=AV.nilf,d:=TD.fn,cmp:=true }:TI):=by kernel_rfl
@[simp] theorem D299:Dof Tryz.prog 299=some ({ size:=1,bytes:=8,zero:=[AV.nilp],zv:=AV.nilp,d:=TD.ptr 35,cmp:=true }:TI):=by kernel_rfl
@[simp] theorem D300:Dof Tryz.prog 300=some ({ size:=1,bytes:=8,zero:=[AV.nilf],zv:=AV.nilf,d:=TD.fn,cmp:=true }:TI):=by kernel_rfl
@[simp] theorem D301:Dof Tryz.prog 301=some ({ size:=1,bytes:=8,zero:=[AV.nilf],zv:=AV.nilf,d:=TD.fn,cmp:=true }:TI):=by kernel_rfl
@[simp] theorem D302:Dof Tryz.prog 302=some ({ size:=1,bytes:=8,zero:=[AV.nilf],zv:=AV.nilf,d:=TD.fn,cmp:=true }:TI):=by kernel_rfl
@[simp] theorem D303:Dof Tryz.prog 303=some ({ size:=1,bytes:=8,zero:=[AV.nilf],zv:=AV.nilf,d:=TD.fn,cmp:=true }:TI):=by kernel_rfl
@[simp] theorem D304:Dof Tryz.prog 304=some ({ size:=1,bytes:=8,zero:=[AV.nilf],zv:=AV.nilf,d:=TD.fn,cmp:=true }:TI):=by kernel_rfl
@[simp] theorem D305:Dof Tryz.prog 305=some ({ size:=1,bytes:=8,zero:=[AV.nilf],zv:=AV.nilf,d:=TD.fn,cmp:=true }:TI):=by kernel_rfl
@[simp] theorem D306:Dof Tryz.prog 306=some ({ size:=1,bytes:=8,zero:=[AV.nilf],zv:=AV.nilf,d:=TD.fn,cmp:=true }:TI):=by kernel_rfl
@[simp] theorem D307:Dof Tryz.prog 307=some ({ size:=1,bytes:=0,zero:=[AV.any],zv:=AV.any,d:=TD.other,cmp:=true }:TI):=by kernel_rfl
@[simp] theorem D308:Dof Tryz.prog 308=some ({ size:=1,bytes:=8,zero:=[AV.nilf],zv:=AV.nilf,d:=TD.fn,cmp:=true }:TI):=by kernel_rfl
@[simp] theorem D309:Dof Tryz.prog 309=some ({ size:=1,bytes:=24,zero:=[AV.sl 0 [] Tok.nil],zv:=AV.sl 0 [] Tok.nil,d:=TD.sl 33,cmp:=true }:TI):=by kernel_rfl
@[simp] theorem D310:Dof Tryz.prog 310=some ({ size:=1,bytes:=8,zero:=[AV.nilf],zv:=AV.nilf,d:=TD.fn,cmp:=true }:TI):=by kernel_rfl
@[simp] theorem D311:Dof Tryz.prog 311=some ({ size:=1,bytes:=8,zero:=[AV.nilf],zv:=AV.nilf,d:=TD.fn,cmp:=true }:TI):=by kernel_rfl
@[simp] theorem D312:Dof Tryz.prog 312=some ({ size:=1,bytes:=8,zero:=[AV.nilf],zv:=AV.nilf,d:=TD.fn,cmp:=true }:TI):=by kernel_rfl
@[simp] theorem D313:Dof Tryz.prog 313=some ({ size:=1,bytes:=8,zero:=[AV.nilf],zv:=AV.nilf,d:=TD.fn,cmp:=true }:TI):=by kernel_rfl
@[simp] theorem D314:Dof Tryz.prog 314=some ({ size:=1,bytes:=8,zero:=[AV.nilf],zv:=AV.nilf,d:=TD.fn,cmp:=true }:TI):=by kernel_rfl
@[simp] theorem D315:Dof Tryz.prog 315=some ({ size:=1,bytes:=8,zero:=[AV.nilf],zv:=AV.nilf,d:=TD.fn,cmp:=true }:TI):=by kernel_rfl
@[simp] theorem D316:Dof Tryz.prog 316=some ({ size:=1,bytes:=8,zero:=[AV.nilf],zv:=AV.nilf,d:=TD.fn,cmp:=true }:TI):=by kernel_rfl
@[simp] theorem D317:Dof Tryz.prog 317=some ({ size:=1,bytes:=8,zero:=[AV.nilf],zv:=AV.nilf,d:=TD.fn,cmp:=true }:TI):=by kernel_rfl
@[simp] theorem D318:Dof Tryz.prog 318=some ({ size:=1,bytes:=24,zero:=[AV.sl 0 [] Tok.nil],zv:=AV.sl 0 [] Tok.nil,d:=TD.sl 36,cmp:=true }:TI):=by kernel_rfl
@[simp] theorem D319:Dof Tryz.prog 319=some ({ size:=1,bytes:=8,zero:=[AV.nilf],zv:=AV.nilf,d:=TD.fn,cmp:=true }:TI):=by kernel_rfl
@[simp] theorem D320:Dof Tryz.prog 320=some ({ size:=1,bytes:=8,zero:=[AV.nilf],zv:=AV.nilf,d:=TD.fn,cmp:=true }:TI):=by kernel_rfl
@[simp] theorem D321:Dof Tryz.prog 321=some ({ size:=1,bytes:=8,zero:=[AV.nilf],zv:=AV.nilf,d:=TD.fn,cmp:=true }:TI):=by kernel_rfl
@[simp] theorem D322:Dof Tryz.prog 322=some ({ size:=1,bytes:=8,zero:=[AV.nilf],zv:=AV.nilf,d:=TD.fn,cmp:=true }:TI):=by kernel_rfl
@[simp] theorem D323:Dof Tryz.prog 323=some ({ size:=1,bytes:=8,zero:=[AV.nilf],zv:=AV.nilf,d:=TD.fn,cmp:=true }:TI):=by kernel_rfl
@[simp] theorem D324:Dof Tryz.prog 324=some ({ size:=1,bytes:=8,zero:=[AV.nilf],zv:=AV.nilf,d:=TD.fn,cmp:=true }:TI):=by kernel_rfl
@[simp] theorem D325:Dof Tryz.prog 325=some ({ size:=1,bytes:=8,zero:=[AV.nilm],zv:=AV.nilm,d:=TD.map 327 3,cmp:=true }:TI):=by kernel_rfl
@[simp] theorem D326:Dof Tryz.prog 326=some ({ size:=2,bytes:=16,zero:=[AV.int IntKind.i64 0,AV.int IntKind.i64 0],zv:=AV.agg [AV.int IntKind.i64 0,AV.int IntKind.i64 0],d:=TD.st [(0,3),(1,3)],cmp:=true }:TI):=by kernel_rfl
@[simp] theorem D327:Dof Tryz.prog 327=some ({ size:=2,bytes:=16,zero:=[AV.int IntKind.i64 0,AV.int IntKind.i64 0],zv:=AV.agg [AV.int IntKind.i64 0,AV.int IntKind.i64 0],d:=TD.st [(0,3),(1,3)],cmp:=true }:TI):=by kernel_rfl
@[simp] theorem D328:Dof Tryz.prog 328=some ({ size:=1,bytes:=8,zero:=[AV.nilf],zv:=AV.nilf,d:=TD.fn,cmp:=true }:TI):=by kernel_rfl
@[simp] theorem D329:Dof Tryz.prog 329=some ({ size:=1,bytes:=8,zero:=[AV.nilf],zv:=AV.nilf,d:=TD.fn,cmp:=true }:TI):=by kernel_rfl
@[simp] theorem D330:Dof Tryz.prog 330=some ({ size:=1,bytes:=8,zero:=[AV.nilf],zv:=AV.nilf,d:=TD.fn,cmp:=true }:TI):=by kernel_rfl
@[simp] theorem D331:Dof Tryz.prog 331=some ({ size:=1,bytes:=8,zero:=[AV.nilf],zv:=AV.nilf,d:=TD.fn,cmp:=true }:TI):=by kernel_rfl
@[simp] theorem D332:Dof Tryz.prog 332=some ({ size:=20,bytes:=160,zero:=[AV.int IntKind.u64 0,AV.int IntKind.u64 0,AV.int IntKind.u64 0,AV.int IntKind.u64 0,AV.int IntKind.u64 0,AV.int IntKind.u64 0,AV.int IntKind.u64 0,AV.int IntKind.u64 0,AV.int IntKind.u64 0,AV.int IntKind.u64 0,AV.int IntKind.u64 0,AV.int IntKind.u64 0,AV.int IntKind.u64 0,AV.int IntKind.u64 0,AV.int IntKind.u64 0,AV.int IntKind.u64 0,AV.int IntKind.u64 0,AV.int IntKind.u64 0,AV.int IntKind.u64 0,AV.int IntKind.u64 0],zv:=AV.agg [AV.int IntKind.u64 0,AV.int IntKind.u64 0,AV.int IntKind.u64 0,AV.int IntKind.u64 0,AV.int IntKind.u64 0,AV.int IntKind.u64 0,AV.int IntKind.u64 0,AV.int IntKind.u64 0,AV.int IntKind.u64 0,AV.int IntKind.u64 0,AV.int IntKind.u64 0,AV.int IntKind.u64 0,AV.int IntKind.u64 0,AV.int IntKind.u64 0,AV.int IntKind.u64 0,AV.int IntKind.u64 0,AV.int IntKind.u64 0,AV.int IntKind.u64 0,AV.int IntKind.u64 0,AV.int IntKind.u64 0],d:=TD.arr 20 47,cmp:=true }:TI):=by kernel_rfl
@[simp] theorem D334:Dof Tryz.prog 334=some ({ size:=1,bytes:=8,zero:=[AV.nilf],zv:=AV.nilf,d:=TD.fn,cmp:=true }:TI):=by kernel_rfl
@[simp] theorem D335:Dof Tryz.prog 335=some ({ size:=1,bytes:=0,zero:=[AV.any],zv:=AV.any,d:=TD.other,cmp:=true }:TI):=by kernel_rfl
@[simp] theorem D336:Dof Tryz.prog 336=some ({ size:=1,bytes:=8,zero:=[AV.nilf],zv:=AV.nilf,d:=TD.fn,cmp:=true }:TI):=by kernel_rfl
@[simp] theorem D337:Dof Tryz.prog 337=some ({ size:=1,bytes:=8,zero:=[AV.nilf],zv:=AV.nilf,d:=TD.fn,cmp:=true }:TI):=by kernel_rfl
@[simp] theorem D338:Dof Tryz.prog 338=some ({ size:=1,bytes:=8,zero:=[AV.nilf],zv:=AV.nilf,d:=TD.fn,cmp:=true }:TI):=by kernel_rfl
@[simp] theorem D339:Dof Tryz.prog 339=some ({ size:=1,bytes:=8,zero:=[AV.nilf],zv:=AV.nilf,d:=TD.fn,cmp:=true }:TI):=by kernel_rfl
@[simp] theorem D340:Dof Tryz.prog 340=some ({ size:=1,bytes:=8,zero:=[AV.nilf],zv:=AV.nilf,d:=TD.fn,cmp:=true }:TI):=by kernel_rfl
@[simp] theorem D341:Dof Tryz.prog 341=some ({ size:=1,bytes:=8,zero:=[AV.nilf],zv:=AV.nilf,d:=TD.fn,cmp:=true }:TI):=by kernel_rfl
@[simp] theorem D342:Dof Tryz.prog 342=some ({ size:=1,bytes:=8,zero:=[AV.nilf],zv:=AV.nilf,d:=TD.fn,cmp:=true }:TI):=by kernel_rfl
@[simp] theorem D343:Dof Tryz.prog 343=some ({ size:=1,bytes:=8,zero:=[AV.nilf],zv:=AV.nilf,d:=TD.fn,cmp:=true }:TI):=by kernel_rfl
@[simp] theorem D344:Dof Tryz.prog 344=some ({ size:=1,bytes:=8,zero:=[AV.nilf],zv:=AV.nilf,d:=TD.fn,cmp:=true }:TI):=by kernel_rfl
@[simp] theorem D345:Dof Tryz.prog 345=some ({ size:=1,bytes:=8,zero:=[AV.nilf],zv:=AV.nilf,d:=TD.fn,cmp:=true }:TI):=by kernel_rfl
@[simp] theorem D346:Dof Tryz.prog 346=some ({ size:=1,bytes:=8,zero:=[AV.nilf],zv:=AV.nilf,d:=TD.fn,cmp:=true }:TI):=by kernel_rfl
@[simp] theorem D347:Dof Tryz.prog 347=some ({ size:=1,bytes:=8,zero:=[AV.nilf],zv:=AV.nilf,d:=TD.fn,cmp:=true }:TI):=by kernel_rfl
@[simp] theorem D348:Dof Tryz.prog 348=some ({ size:=1,bytes:=8,zero:=[AV.nilf],zv:=AV.nilf,d:=TD.fn,cmp:=true }:TI):=by kernel_rfl
@[simp] theorem D349:Dof Tryz.prog 349=some ({ size:=1,bytes:=8,zero:=[AV.nilf],zv:=AV.nilf,d:=TD.fn,cmp:=true }:TI):=by kernel_rfl
@[simp] theorem D350:Dof Tryz.prog 350=some ({ size:=1,bytes:=8,zero:=[AV.nilf],zv:=AV.nilf,d:=TD.fn,cmp:=true }:TI):=by kernel_rfl
@[simp] theorem D351:Dof Tryz.prog 351=some ({ size:=1,bytes:=8,zero:=[AV.nilp],zv:=AV.nilp,d:=TD.ptr 356,cmp:=true }:TI):=by kernel_rfl
@[simp] theorem D352:Dof Tryz.prog 352=some ({ size:=1,bytes:=0,zero:=[AV.any],zv:=AV.any,d:=TD.other,cmp:=true }:TI):=by kernel_rfl
@[simp] theorem D353:Dof Tryz.prog 353=some ({ size:=1,bytes:=8,zero:=[AV.nilf],zv:=AV.nilf,d:=TD.fn,cmp:=true }:TI):=by kernel_rfl
@[simp] theorem D354:Dof Tryz.prog 354=some ({ size:=1,bytes:=8,zero:=[AV.nilf],zv:=AV.nilf,d:=TD.fn,cmp:=true }:TI):=by kernel_rfl
@[simp] theorem D355:Dof Tryz.prog 355=some ({ size:=9,bytes:=184,zero:=[AV.sl 0 [] Tok.nil,AV.sl 0 [] Tok.nil,AV.sl 0 [] Tok.nil,AV.sl 0 [] Tok.nil,AV.sl 0 [] Tok.nil,AV.sl 0 [] Tok.nil,AV.sl 0 [] Tok.nil,AV.bool false,AV.int IntKind.i64 0],zv:=AV.agg [AV.sl 0 [] Tok.nil,AV.sl 0 [] Tok.nil,AV.sl 0 [] Tok.nil,AV.sl 0 [] Tok.nil,AV.sl 0 [] Tok.nil,AV.sl 0 [] Tok.nil,AV.sl 0 [] Tok.nil,AV.bool false,AV.int IntKind.i64 0],d:=TD.st [(0,94),(5,33),(6,48),(7,4),(8,3)],cmp:=true }:TI):=by kernel_rfl
@[simp] theorem D356:Dof Tryz.prog 356=some ({ size:=9,bytes:=184,zero:=[AV.sl 0 [] Tok.nil,AV.sl 0 [] Tok.nil,AV.sl 0 [] Tok.nil,AV.sl 0 [] Tok.nil,AV.sl 0 [] Tok.nil,AV.sl 0 [] Tok.nil,AV.sl 0 [] Tok.nil,AV.bool false,AV.int IntKind.i64 0],zv:=AV.agg [AV.sl 0 [] Tok.nil,AV.sl 0 [] Tok.nil,AV.sl 0 [] Tok.nil,AV.sl 0 [] Tok.nil,AV.sl 0 [] Tok.nil,AV.sl 0 [] Tok.nil,AV.sl 0 [] Tok.nil,AV.bool false,AV.int IntKind.i64 0],d:=TD.st [(0,94),(5,33),(6,48),(7,4),(8,3)],cmp:=true }:TI):=by kernel_rfl
@[simp] theorem D357:Dof Tryz.prog 357=some ({ size:=1,bytes:=8,zero:=[AV.nilf],zv:=AV.nilf,d:=TD.fn,cmp:=true }:TI):=by kernel_rfl
@[simp] theorem D358:Dof Tryz.prog 358=some ({ size:=1,bytes:=8,zero:=[AV.nilf],zv:=AV.nilf,d:=TD.fn,cmp:=true }:TI):=by kernel_rfl
@[simp] theorem D359:Dof Tryz.prog 359=some ({ size:=1,bytes:=24,zero:=[AV.sl 0 [] Tok.nil],zv:=AV.sl 0 [] Tok.nil,d:=TD.sl 395,cmp:=true }:TI):=by kernel_rfl
@[simp] theorem D360:Dof Tryz.prog 360=some ({ size:=1,bytes:=8,zero:=[AV.nilf],zv:=AV.nilf,d:=TD.fn,cmp:=true }:TI):=by kernel_rfl
@[simp] theorem D361:Dof Tryz.prog 361=some ({ size:=1,bytes:=8,zero:=[AV.nilf],zv:=AV.nilf,d:=TD.fn,cmp:=true }:TI):=by kernel_rfl
@[simp] theorem D362:Dof Tryz.prog 362=some ({ size:=1,bytes:=8,zero:=[AV.nilf],zv:=AV.nilf,d:=TD.fn,cmp:=true }:TI):=by kernel_rfl
@[simp] theorem D363:Dof Tryz.prog 363=some ({ size:=3,bytes:=24,zero:=[AV.int IntKind.i64 0,AV.int IntKind.i64 0,AV.int IntKind.i64 0],zv:=AV.agg [AV.int IntKind.i64 0,AV.int IntKind.i64 0,AV.int IntKind.i64 0],d:=TD.st [(0,3),(1,3),(2,3)],cmp:=true }:TI):=by kernel_rfl
@[simp] theorem D364:Dof Tryz.prog 364=some ({ size:=3,bytes:=24,zero:=[AV.int IntKind.i64 0,AV.int IntKind.i64 0,AV.int IntKind.i64 0],zv:=AV.agg [AV.int IntKind.i64 0,AV.int IntKind.i64 0,AV.int IntKind.i64 0],d:=TD.st [(0,3),(1,3),(2,3)],cmp:=true }:TI):=by kernel_rfl
@[simp] theorem D365:Dof Tryz.prog 365=some ({ size:=1,bytes:=8,zero:=[AV.nilp],zv:=AV.nilp,d:=TD.ptr 374,cmp:=true }:TI):=by kernel_rfl
@[simp] theorem D366:Dof Tryz.prog 366=some ({ size:=1,bytes:=0,zero:=[AV.any],zv:=AV.any,d:=TD.other,cmp:=true }:TI):=by kernel_rfl
@[simp] theorem D367:Dof Tryz.prog 367=some ({ size:=1,bytes:=8,zero:=[AV.nilf],zv:=AV.nilf,d:=TD.fn,cmp:=true }:TI):=by kernel_rfl
@[simp] theorem D368:Dof Tryz.prog 368=some ({ size:=1,bytes:=8,zero:=[AV.nilf],zv:=AV.nilf,d:=TD.fn,cmp:=true }:TI):=by kernel_rfl
@[simp] theorem D369:Dof Tryz.prog 369=some ({ size:=1,bytes:=8,zero:=[AV.nilf],zv:=AV.nilf,d:=TD.fn,cmp:=true }:TI):=by kernel_rfl
@[simp] theorem D370:Dof Tryz.prog 370=some ({ size:=16,bytes:=128,zero:=[AV.int IntKind.i64 0,AV.int IntKind.i64 0,AV.int IntKind.i64 0,AV.int IntKind.i64 0,AV.int IntKind.i64 0,AV.int IntKind.i64 0,AV.int IntKind.i64 0,AV.int IntKind.i64 0,AV.int IntKind.i64 0,AV.int IntKind.i64 0,AV.int IntKind.i64 0,AV.int IntKind.i64 0,AV.int IntKind.i64 0,AV.int IntKind.i64 0,AV.int IntKind.i64 0,AV.int IntKind.i64 0],zv:=AV.agg [AV.int IntKind.i64 0,AV.int IntKind.i64 0,AV.int IntKind.i64 0,AV.int IntKind.i64 0,AV.int IntKind.i64 0,AV.int IntKind.i64 0,AV.int IntKind.i64 0,AV.int IntKind.i64 0,AV.int IntKind.i64 0,AV.int IntKind.i64 0,AV.int IntKind.i64 0,AV.int IntKind.i64 0,AV.int IntKind.i64 0,AV.int IntKind.i64 0,AV.int IntKind.i64 0,AV.int IntKind.i64 0],d:=TD.arr 16 3,cmp:=true }:TI):=by kernel_rfl
@[simp] theorem D371:Dof Tryz.prog 371=some ({ size:=16,bytes:=128,zero:=[AV.int IntKind.i64 0,AV.int IntKind.i64 0,AV.int IntKind.i64 0,AV.int IntKind.i64 0,AV.int IntKind.i64 0,AV.int IntKind.i64 0,AV.int IntKind.i64 0,AV.int IntKind.i64 0,AV.int IntKind.i64 0,AV.int IntKind.i64 0,AV.int IntKind.i64 0,AV.int IntKind.i64 0,AV.int IntKind.i64 0,AV.int IntKind.i64 0,AV.int IntKind.i64 0,AV.int IntKind.i64 0],zv:=AV.agg [AV.int IntKind.i64 0,AV.int IntKind.i64 0,AV.int IntKind.i64 0,AV.int IntKind.i64 0,AV.int IntKind.i64 0,AV.int IntKind.i64 0,AV.int IntKind.i64 0,AV.int IntKind.i64 0,AV.int IntKind.i64 0,AV.int IntKind.i64 0,AV.int IntKind.i64 0,AV.int IntKind.i64 0,AV.int IntKind.i64 0,AV.int IntKind.i64 0,AV.int IntKind.i64 0,AV.int IntKind.i64 0],d:=TD.arr 16 3,cmp:=true }:TI):=by kernel_rfl
@[simp] theorem D372:Dof Tryz.prog 372=some ({ size:=1,bytes:=8,zero:=[AV.nilf],zv:=AV.nilf,d:=TD.fn,cmp:=true }:TI):=by kernel_rfl
@[simp] theorem D373:Dof Tryz.prog 373=some ({ size:=8,bytes:=176,zero:=[AV.sl 0 [] Tok.nil,AV.sl 0 [] Tok.nil,AV.sl 0 [] Tok.nil,AV.sl 0 [] Tok.nil,AV.sl 0 [] Tok.nil,AV.sl 0 [] Tok.nil,AV.sl 0 [] Tok.nil,AV.nilm],zv:=AV.agg [AV.sl 0 [] Tok.nil,AV.sl 0 [] Tok.nil,AV.sl 0 [] Tok.nil,AV.sl 0 [] Tok.nil,AV.sl 0 [] Tok.nil,AV.sl 0 [] Tok.nil,AV.sl 0 [] Tok.nil,AV.nilm],d:=TD.st [(0,263),(1,94),(6,48),(7,220)],cmp:=true }:TI):=by kernel_rfl
@[simp] theorem D374:Dof Tryz.prog 374=some ({ size:=8,bytes:=176,zero:=[AV.sl 0 [] Tok.nil,AV.sl 0 [] Tok.nil,AV.sl 0 [] Tok.nil,AV.sl 0 [] Tok.nil,AV.sl 0 [] Tok.nil,AV.sl 0 [] Tok.nil,AV.sl 0 [] Tok.nil,AV.nilm],zv:=AV.agg [AV.sl 0 [] Tok.nil,AV.sl 0 [] Tok.nil,AV.sl 0 [] Tok.nil,AV.sl 0 [] Tok.nil,AV.sl 0 [] Tok.nil,AV.sl 0 [] Tok.nil,AV.sl 0 [] Tok.nil,AV.nilm],d:=TD.st [(0,263),(1,94),(6,48),(7,220)],cmp:=true }:TI):=by kernel_rfl
@[simp] theorem D375:Dof Tryz.prog 375=some ({ size:=1,bytes:=8,zero:=[AV.nilf],zv:=AV.nilf,d:=TD.fn,cmp:=true }:TI):=by kernel_rfl
@[simp] theorem D376:Dof Tryz.prog 376=some ({ size:=3,bytes:=24,zero:=[AV.int IntKind.i64 0,AV.int IntKind.i64 0,AV.int IntKind.i64 0],zv:=AV.agg [AV.int IntKind.i64 0,AV.int IntKind.i64 0,AV.int IntKind.i64 0],d:=TD.st [(0,3),(1,3),(2,3)],cmp:=true }:TI):=by kernel_rfl
@[simp] theorem D377:Dof Tryz.prog 377=some ({ size:=3,bytes:=24,zero:=[AV.int IntKind.i64 0,AV.int IntKind.i64 0,AV.int IntKind.i64 0],zv:=AV.agg [AV.int IntKind.i64 0,AV.int IntKind.i64 0,AV.int IntKind.i64 0],d:=TD.st [(0,3),(1,3),(2,3)],cmp:=true }:TI):=by kernel_rfl
@[simp] theorem D378:Dof Tryz.prog 378=some ({ size:=1,bytes:=8,zero:=[AV.nilf],zv:=AV.nilf,d:=TD.fn,cmp:=true }:TI):=by kernel_rfl
@[simp] theorem D379:Dof Tryz.prog 379=some ({ size:=1,bytes:=8,zero:=[AV.nilf],zv:=AV.nilf,d:=TD.fn,cmp:=true }:TI):=by kernel_rfl
@[simp] theorem D380:Dof Tryz.prog 380=some ({ size:=1,bytes:=0,zero:=[AV.any],zv:=AV.any,d:=TD.other,cmp:=true }:TI):=by kernel_rfl
@[simp] theorem D381:Dof Tryz.prog 381=some ({ size:=1,bytes:=8,zero:=[AV.nilf],zv:=AV.nilf,d:=TD.fn,cmp:=true }:TI):=by kernel_rfl
@[simp] theorem D382:Dof Tryz.prog 382=some ({ size:=1,bytes:=8,zero:=[AV.nilf],zv:=AV.nilf,d:=TD.fn,cmp:=true }:TI):=by kernel_rfl
@[simp] theorem D383:Dof Tryz.prog 383=some ({ size:=1,bytes:=8,zero:=[AV.nilf],zv:=AV.nilf,d:=TD.fn,cmp:=true }:TI):=by kernel_rfl
@[simp] theorem D384:Dof Tryz.prog 384=some ({ size:=1,bytes:=8,zero:=[AV.nilf],zv:=AV.nilf,d:=TD.fn,cmp:=true }:TI):=by kernel_rfl
@[simp] theorem D385:Dof Tryz.prog 385=some ({ size:=1,bytes:=8,zero:=[AV.nilf],zv:=AV.nilf,d:=TD.fn,cmp:=true }:TI):=by kernel_rfl
@[simp] theorem D386:Dof Tryz.prog 386=some ({ size:=1,bytes:=8,zero:=[AV.nilf],zv:=AV.nilf,d:=TD.fn,cmp:=true }:TI):=by kernel_rfl
@[simp] theorem D387:Dof Tryz.prog 387=some ({ size:=1,bytes:=8,zero:=[AV.nilf],zv:=AV.nilf,d:=TD.fn,cmp:=true }:TI):=by kernel_rfl
@[simp] theorem D388:Dof Tryz.prog 388=some ({ size:=1,bytes:=8,zero:=[AV.nilf],zv:=AV.nilf,d:=TD.fn,cmp:=true }:TI):=by kernel_rfl
@[simp] theorem D389:Dof Tryz.prog 389=some ({ size:=1,bytes:=8,zero:=[AV.nilf],zv:=AV.nilf,d:=TD.fn,cmp:=true }:TI):=by kernel_rfl
@[simp] theorem D390:Dof Tryz.prog 390=some ({ size:=1,bytes:=8,zero:=[AV.nilf],zv:=AV.nilf,d:=TD.fn,cmp:=true }:TI):=by kernel_rfl
@[simp] theorem D391:Dof Tryz.prog 391=some ({ size:=1,bytes:=8,zero:=[AV.nilf],zv:=AV.nilf,d:=TD.fn,cmp:=true }:TI):=by kernel_rfl
@[simp] theorem D392:Dof Tryz.prog 392=some ({ size:=1,bytes:=8,zero:=[AV.nilf],zv:=AV.nilf,d:=TD.fn,cmp:=true }:TI):=by kernel_rfl
@[simp] theorem D393:Dof Tryz.prog 393=some ({ size:=1,bytes:=8,zero:=[AV.nilf],zv:=AV.nilf,d:=TD.fn,cmp:=true }:TI):=by kernel_rfl
@[simp] theorem D394:Dof Tryz.prog 394=some ({ size:=2,bytes:=16,zero:=[AV.int IntKind.i64 0,AV.int IntKind.i64 0],zv:=AV.agg [AV.int IntKind.i64 0,AV.int IntKind.i64 0],d:=TD.st [(0,3),(1,3)],cmp:=true }:TI):=by kernel_rfl
@[simp] theorem D395:Dof Tryz.prog 395=some ({ size:=2,bytes:=16,zero:=[AV.int IntKind.i64 0,AV.int IntKind.i64 0],zv:=AV.agg [AV.int IntKind.i64 0,AV.int IntKind.i64 0],d:=TD.st [(0,3),(1,3)],cmp:=true }:TI):=by kernel_rfl
@[simp] theorem D396:Dof Tryz.prog 396=some ({ size:=1,bytes:=8,zero:=[AV.nilf],zv:=AV.nilf,d:=TD.fn,cmp:=true }:TI):=by kernel_rfl
@[simp] theorem D397:Dof Tryz.prog 397=some ({ size:=1,bytes:=0,zero:=[AV.any],zv:=AV.any,d:=TD.other,cmp:=true }:TI):=by kernel_rfl
@[simp] theorem D398:Dof Tryz.prog 398=some ({ size:=1,bytes:=8,zero:=[AV.nilf],zv:=AV.nilf,d:=TD.fn,cmp:=true }:TI):=by kernel_rfl
@[simp] theorem D399:Dof Tryz.prog 399=some ({ size:=1,bytes:=8,zero:=[AV.nilf],zv:=AV.nilf,d:=TD.fn,cmp:=true }:TI):=by kernel_rfl
@[simp] theorem D400:Dof Tryz.prog 400=some ({ size:=1,bytes:=8,zero:=[AV.nilf],zv:=AV.nilf,d:=TD.fn,cmp:=true }:TI):=by kernel_rfl
@[simp] theorem D401:Dof Tryz.prog 401=some ({ size:=1,bytes:=8,zero:=[AV.nilf],zv:=AV.nilf,d:=TD.fn,cmp:=true }:TI):=by kernel_rfl
@[simp] theorem D402:Dof Tryz.prog 402=some ({ size:=1,bytes:=8,zero:=[AV.nilf],zv:=AV.nilf,d:=TD.fn,cmp:=true }:TI):=by kernel_rfl
@[simp] theorem D403:Dof Tryz.prog 403=some ({ size:=1,bytes:=8,zero:=[AV.nilf],zv:=AV.nilf,d:=TD.fn,cmp:=true }:TI):=by kernel_rfl
@[simp] theorem D404:Dof Tryz.prog 404=some ({ size:=1,bytes:=8,zero:=[AV.int IntKind.i64 0],zv:=AV.agg [AV.int IntKind.i64 0],d:=TD.st [(0,29)],cmp:=true }:TI):=by kernel_rfl
@[simp] theorem D405:Dof Tryz.prog 405=some ({ size:=1,bytes:=8,zero:=[AV.int IntKind.i64 0],zv:=AV.agg [AV.int IntKind.i64 0],d:=TD.st [(0,29)],cmp:=true }:TI):=by kernel_rfl
@[simp] theorem D406:Dof Tryz.prog 406=some ({ size:=1,bytes:=0,zero:=[AV.any],zv:=AV.any,d:=TD.other,cmp:=true }:TI):=by kernel_rfl
@[simp] theorem D407:Dof Tryz.prog 407=some ({ size:=1,bytes:=24,zero:=[AV.sl 0 [] Tok.nil],zv:=AV.sl 0 [] Tok.nil,d:=TD.sl 371,cmp:=true }:TI):=by kernel_rfl
@[simp] theorem D408:Dof Tryz.prog 408=some ({ size:=1,bytes:=8,zero:=[AV.nilf],zv:=AV.nilf,d:=TD.fn,cmp:=true }:TI):=by kernel_rfl
@[simp] theorem D409:Dof Tryz.prog 409=some ({ size:=1,bytes:=8,zero:=[AV.nilf],zv:=AV.nilf,d:=TD.fn,cmp:=true }:TI):=by kernel_rfl
@[simp] theorem D410:Dof Tryz.prog 410=some ({ size:=1,bytes:=8,zero:=[AV.nilf],zv:=AV.nilf,d:=TD.fn,cmp:=true }:TI):=by kernel_rfl
@[simp] theorem D411:Dof Tryz.prog 411=some ({ size:=1,bytes:=8,zero:=[AV.nilf],zv:=AV.nilf,d:=TD.fn,cmp:=true }:TI):=by kernel_rfl
@[simp] theorem D412:Dof Tryz.prog 412=some ({ size:=1,bytes:=8,zero:=[AV.nilf],zv:=AV.nilf,d:=TD.fn,cmp:=true }:TI):=by kernel_rfl
@[simp] theorem D413:Dof Tryz.prog 413=some ({ size:=1,bytes:=8,zero:=[AV.nilf],zv:=AV.nilf,d:=TD.fn,cmp:=true }:TI):=by kernel_rfl
@[simp] theorem D414:Dof Tryz.prog 414=some ({ size:=1,bytes:=8,zero:=[AV.nilf],zv:=AV.nilf,d:=TD.fn,cmp:=true }:TI):=by kernel_rfl
@[simp] theorem D415:Dof Tryz.prog 415=some ({ size:=1,bytes:=8,zero:=[AV.nilf],zv:=AV.nilf,d:=TD.fn,cmp:=true }:TI):=by kernel_rfl
@[simp] theorem D416:Dof Tryz.prog 416=some ({ size:=1,bytes:=8,zero:=[AV.nilp],zv:=AV.nilp,d:=TD.ptr 421,cmp:=true }:TI):=by kernel_rfl
@[simp] theorem D417:Dof Tryz.prog 417=some ({ size:=1,bytes:=8,zero:=[AV.nilp],zv:=AV.nilp,d:=TD.ptr 452,cmp:=true }:TI):=by kernel_rfl
@[simp] theorem D418:Dof Tryz.prog 418=some ({ size:=1,bytes:=8,zero:=[AV.nilf],zv:=AV.nilf,d:=TD.fn,cmp:=true }:TI):=by kernel_rfl
@[simp] theorem D419:Dof Tryz.prog 419=some ({ size:=1,bytes:=8,zero:=[AV.nilm],zv:=AV.nilm,d:=TD.map 377 3,cmp:=true }:TI):=by kernel_rfl
@[simp] theorem D420:Dof Tryz.prog 420=some ({ size:=3,bytes:=24,zero:=[AV.nilp,AV.nilf,AV.nilm],zv:=AV.agg [AV.nilp,AV.nilf,AV.nilm],d:=TD.st [(0,417),(1,378),(2,419)],cmp:=true }:TI):=by kernel_rfl
@[simp] theorem D421:Dof Tryz.prog 421=some ({ size:=3,bytes:=24,zero:=[AV.nilp,AV.nilf,AV.nilm],zv:=AV.agg [AV.nilp,AV.nilf,AV.nilm],d:=TD.st [(0,417),(1,378),(2,419)],cmp:=true }:TI):=by kernel_rfl
@[simp] theorem D422:Dof Tryz.prog 422=some ({ size:=1,bytes:=8,zero:=[AV.nilf],zv:=AV.nilf,d:=TD.fn,cmp:=true }:TI):=by kernel_rfl
@[simp] theorem D423:Dof Tryz.prog 423=some ({ size:=1,bytes:=8,zero:=[AV.nilf],zv:=AV.nilf,d:=TD.fn,cmp:=true }:TI):=by kernel_rfl
@[simp] theorem D424:Dof Tryz.prog 424=some ({ size:=1,bytes:=8,zero:=[AV.nilf],zv:=AV.nilf,d:=TD.fn,cmp:=true }:TI):=by kernel_rfl
@[simp] theorem D425:Dof Tryz.prog 425=some ({ size:=1,bytes:=8,zero:=[AV.nilf],zv:=AV.nilf,d:=TD.fn,cmp:=true }:TI):=by kernel_rfl
@[simp] theorem D426:Dof Tryz.prog 426=some ({ size:=1,bytes:=8,zero:=[AV.int IntKind.i64 0],zv:=AV.int IntKind.i64 0,d:=TD.int IntKind.i64,cmp:=true }:TI):=by kernel_rfl
@[simp] theorem D427:Dof Tryz.prog 427=some ({ size:=1,bytes:=0,zero:=[AV.any],zv:=AV.any,d:=TD.other,cmp:=true }:TI):=by kernel_rfl
@[simp] theorem D428:Dof Tryz.prog 428=some ({ size:=1,bytes:=8,zero:=[AV.nilf],zv:=AV.nilf,d:=TD.fn,cmp:=true }:TI):=by kernel_rfl
@[simp] theorem D429:Dof Tryz.prog 429=some ({ size:=1,bytes:=8,zero:=[AV.nilf],zv:=AV.nilf,d:=TD.fn,cmp:=true }:TI):=by kernel_rfl
@[simp] theorem D430:Dof Tryz.prog 430=some ({ size:=1,bytes:=8,zero:=[AV.nilf],zv:=AV.nilf,d:=TD.fn,cmp:=true }:TI):=by kernel_rfl
@[simp] theorem D431:Dof Tryz.prog 431=some ({ size:=1,bytes:=8,zero:=[AV.nilf],zv:=AV.nilf,d:=TD.fn,cmp:=true }:TI):=by kernel_rfl
@[simp] theorem D432:Dof Tryz.prog 432=some ({ size:=1,bytes:=8,zero:=[AV.nilf],zv:=AV.nilf,d:=TD.fn,cmp:=true }:TI):=by kernel_rfl
@[simp] theorem D433:Dof Tryz.prog 433=some ({ size:=32,bytes:=32,zero:=[AV.int IntKind.u8 0,AV.int IntKind.u8 0,AV.int IntKind.u8 0,AV.int IntKind.u8 0,AV.int IntKind.u8 0,AV.int IntKind.u8 0,AV.int IntKind.u8 0,AV.int IntKind.u8 0,AV.int IntKind.u8 0,AV.int IntKind.u8 0,AV.int IntKind.u8 0,AV.int IntKind.u8 0,AV.int IntKind.u8 0,AV.int IntKind.u8 0,AV.int IntKind.u8 0,AV.int IntKind.u8 0,AV.int IntKind.u8 0,AV.int IntKind.u8 0,AV.int IntKind.u8 0,AV.int IntKind.u8 0,AV.int IntKind.u8 0,AV.int IntKind.u8 0,AV.int IntKind.u8 0,AV.int IntKind.u8 0,AV.int IntKind.u8 0,AV.int IntKind.u8 0,AV.int IntKind.u8 0,AV.int IntKind.u8 0,AV.int IntKind.u8 0,AV.int IntKind.u8 0,AV.int IntKind.u8 0,AV.int IntKind.u8 0],zv:=AV.agg [AV.int IntKind.u8 0,AV.int IntKind.u8 0,AV.int IntKind.u8 0,AV.int IntKind.u8 0,AV.int IntKind.u8 0,AV.int IntKind.u8 0,AV.int IntKind.u8 0,AV.int IntKind.u8 0,AV.int IntKind.u8 0,AV.int IntKind.u8 0,AV.int IntKind.u8 0,AV.int IntKind.u8 0,AV.int IntKind.u8 0,AV.int IntKind.u8 0,AV.int IntKind.u8 0,AV.int IntKind.u8 0,AV.int IntKind.u8 0,AV.int IntKind.u8 0,AV.int IntKind.u8 0,AV.int IntKind.u8 0,AV.int IntKind.u8 0,AV.int IntKind.u8 0,AV.int IntKind.u8 0,AV.int IntKind.u8 0,AV.int IntKind.u8 0,AV.int IntKind.u8 0,AV.int IntKind.u8 0,AV.int IntKind.u8 0,AV.int IntKind.u8 0,AV.int IntKind.u8 0,AV.int IntKind.u8 0,AV.int IntKind.u8 0],d:=TD.arr 32 5,cmp:=true }:TI):=by kernel_rfl
@[simp] theorem D435:Dof Tryz.prog 435=some ({ size:=1,bytes:=8,zero:=[AV.nilf],zv:=AV.nilf,d:=TD.fn,cmp:=true }:TI):=by kernel_rfl
@[simp] theorem D436:Dof Tryz.prog 436=some ({ size:=1,bytes:=8,zero:=[AV.nilf],zv:=AV.nilf,d:=TD.fn,cmp:=true }:TI):=by kernel_rfl
@[simp] theorem D437:Dof Tryz.prog 437=some ({ size:=1,bytes:=24,zero:=[AV.sl 0 [] Tok.nil],zv:=AV.agg [AV.sl 0 [] Tok.nil],d:=TD.st [(0,161)],cmp:=true }:TI):=by kernel_rfl
@[simp] theorem D438:Dof Tryz.prog 438=some ({ size:=1,bytes:=24,zero:=[AV.sl 0 [] Tok.nil],zv:=AV.agg [AV.sl 0 [] Tok.nil],d:=TD.st [(0,161)],cmp:=true }:TI):=by kernel_rfl
@[simp] theorem D439:Dof Tryz.prog 439=some ({ size:=1,bytes:=8,zero:=[AV.nilf],zv:=AV.nilf,d:=TD.fn,cmp:=true }:TI):=by kernel_rfl
@[simp] theorem D440:Dof Tryz.prog 440=some ({ size:=1,bytes:=8,zero:=[AV.nilf],zv:=AV.nilf,d:=TD.fn,cmp:=true }:TI):=by kernel_rfl
@[simp] theorem D441:Dof Tryz.prog 441=some ({ size:=1,bytes:=8,zero:=[AV.nilf],zv:=AV.nilf,d:=TD.fn,cmp:=true }:TI):=by kernel_rfl
@[simp] theorem D442:Dof Tryz.prog 442=some ({ size:=1,bytes:=8,zero:=[AV.nilm],zv:=AV.nilm,d:=TD.map 364 4,cmp:=true }:TI):=by kernel_rfl
@[simp] theorem D443:Dof Tryz.prog 443=some ({ size:=1,bytes:=8,zero:=[AV.nilf],zv:=AV.nilf,d:=TD.fn,cmp:=true }:TI):=by kernel_rfl
@[simp] theorem D444:Dof Tryz.prog 444=some ({ size:=1,bytes:=8,zero:=[AV.nilf],zv:=AV.nilf,d:=TD.fn,cmp:=true }:TI):=by kernel_rfl
@[simp] theorem D445:Dof Tryz.prog 445=some ({ size:=1,bytes:=8,zero:=[AV.nilf],zv:=AV.nilf,d:=TD.fn,cmp:=true }:TI):=by kernel_rfl
@[simp] theorem D446:Dof Tryz.prog 446=some ({ size:=1,bytes:=8,zero:=[AV.nilf],zv:=AV.nilf,d:=TD.fn,cmp:=true }:TI):=by kernel_rfl
@[simp] theorem D447:Dof Tryz.prog 447=some ({ size:=1,bytes:=8,zero:=[AV.nilf],zv:=AV.nilf,d:=TD.fn,cmp:=true }:TI):=by kernel_rfl
@[simp] theorem D448:Dof Tryz.prog 448=some ({ size:=1,bytes:=8,zero:=[AV.nilf],zv:=AV.nilf,d:=TD.fn,cmp:=true }:TI):=by kernel_rfl
@[simp] theorem D449:Dof Tryz.prog 449=some ({ size:=1,bytes:=8,zero:=[AV.nilf],zv:=AV.nilf,d:=TD.fn,cmp:=true }:TI):=by kernel_rfl
@[simp] theorem D450:Dof Tryz.prog 450=some ({ size:=1,bytes:=8,zero:=[AV.nilm],zv:=AV.nilm,d:=TD.map 364 3,cmp:=true }:TI):=by kernel_rfl
@[simp] theorem D451:Dof Tryz.prog 451=some ({ size:=3,bytes:=40,zero:=[AV.sl 0 [] Tok.nil,AV.nilm,AV.bool false],zv:=AV.agg [AV.sl 0 [] Tok.nil,AV.nilm,AV.bool false],d:=TD.st [(0,261),(1,450),(2,4)],cmp:=true }:TI):=by kernel_rfl
@[simp] theorem D452:Dof Tryz.prog 452=some ({ size:=3,bytes:=40,zero:=[AV.sl 0 [] Tok.nil,AV.nilm,AV.bool false],zv:=AV.agg [AV.sl 0 [] Tok.nil,AV.nilm,AV.bool false],d:=TD.st [(0,261),(1,450),(2,4)],cmp:=true }:TI):=by kernel_rfl
@[simp] theorem D453:Dof Tryz.prog 453=some ({ size:=1,bytes:=8,zero:=[AV.nilf],zv:=AV.nilf,d:=TD.fn,cmp:=true }:TI):=by kernel_rfl
@[simp] theorem D454:Dof Tryz.prog 454=some ({ size:=1,bytes:=8,zero:=[AV.nilm],zv:=AV.nilm,d:=TD.map 9 4,cmp:=true }:TI):=by kernel_rfl
@[simp] theorem D455:Dof Tryz.prog 455=some ({ size:=1,bytes:=8,zero:=[AV.int IntKind.u64 0],zv:=AV.int IntKind.u64 0,d:=TD.int IntKind.u64,cmp:=true }:TI):=by kernel_rfl
@[simp] theorem D456:Dof Tryz.prog 456=some ({ size:=1,bytes:=8,zero:=[AV.nilf],zv:=AV.nilf,d:=TD.fn,cmp:=true }:TI):=by kernel_rfl
@[simp] theorem D457:Dof Tryz.prog 457=some ({ size:=1,bytes:=8,zero:=[AV.nilf],zv:=AV.nilf,d:=TD.fn,cmp:=true }:TI):=by kernel_rfl
@[simp] theorem D458:Dof Tryz.prog 458=some ({ size:=1,bytes:=8,zero:=[AV.nilf],zv:=AV.nilf,d:=TD.fn,cmp:=true }:TI):=by kernel_rfl
@[simp] theorem D459:Dof Tryz.prog 459=some ({ size:=1,bytes:=8,zero:=[AV.nilp],zv:=AV.nilp,d:=TD.ptr 3,cmp:=true }:TI):=by kernel_rfl
@[simp] theorem D460:Dof Tryz.prog 460=some ({ size:=1,bytes:=8,zero:=[AV.nilf],zv:=AV.nilf,d:=TD.fn,cmp:=true }:TI):=by kernel_rfl
@[simp] theorem D461:Dof Tryz.prog 461=some ({ size:=1,bytes:=8,zero:=[AV.nilf],zv:=AV.nilf,d:=TD.fn,cmp:=true }:TI):=by kernel_rfl
@[simp] theorem D462:Dof Tryz.prog 462=some ({ size:=1,bytes:=8,zero:=[AV.nilf],zv:=AV.nilf,d:=TD.fn,cmp:=true }:TI):=by kernel_rfl
@[simp] theorem D463:Dof Tryz.prog 463=some ({ size:=1,bytes:=8,zero:=[AV.nilf],zv:=AV.nilf,d:=TD.fn,cmp:=true }:TI):=by kernel_rfl
@[simp] theorem D464:Dof Tryz.prog 464=some ({ size:=1,bytes:=8,zero:=[AV.nilf],zv:=AV.nilf,d:=TD.fn,cmp:=true }:TI):=by kernel_rfl
@[simp] theorem D465:Dof Tryz.prog 465=some ({ size:=1,bytes:=8,zero:=[AV.nilf],zv:=AV.nilf,d:=TD.fn,cmp:=true }:TI):=by kernel_rfl
@[simp] theorem D466:Dof Tryz.prog 466=some ({ size:=1,bytes:=8,zero:=[AV.nilf],zv:=AV.nilf,d:=TD.fn,cmp:=true }:TI):=by kernel_rfl
@[simp] theorem D467:Dof Tryz.prog 467=some ({ size:=1,bytes:=8,zero:=[AV.nilp],zv:=AV.nilp,d:=TD.ptr 455,cmp:=true }:TI):=by kernel_rfl
@[simp] theorem D468:Dof Tryz.prog 468=some ({ size:=1,bytes:=0,zero:=[AV.any],zv:=AV.any,d:=TD.other,cmp:=true }:TI):=by kernel_rfl
@[simp] theorem D469:Dof Tryz.prog 469=some ({ size:=1,bytes:=8,zero:=[AV.nilf],zv:=AV.nilf,d:=TD.fn,cmp:=true }:TI):=by kernel_rfl
@[simp] theorem D470:Dof Tryz.prog 470=some ({ size:=1,bytes:=2,zero:=[AV.int IntKind.u16 0],zv:=AV.int IntKind.u16 0,d:=TD.int IntKind.u16,cmp:=true }:TI):=by kernel_rfl
@[simp] theorem D471:Dof Tryz.prog 471=some ({ size:=1,bytes:=2,zero:=[AV.int IntKind.u16 0],zv:=AV.int IntKind.u16 0,d:=TD.int IntKind.u16,cmp:=true }:TI):=by kernel_rfl
@[simp] theorem D472:Dof Tryz.prog 472=some ({ size:=1,bytes:=8,zero:=[AV.nilf],zv:=AV.nilf,d:=TD.fn,cmp:=true }:TI):=by kernel_rfl
@[simp] theorem D473:Dof Tryz.prog 473=some ({ size:=1,bytes:=8,zero:=[AV.nilf],zv:=AV.nilf,d:=TD.fn,cmp:=true }:TI):=by kernel_rfl
@[simp] theorem D474:Dof Tryz.prog 474=some ({ size:=1,bytes:=8,zero:=[AV.nilf],zv:=AV.nilf,d:=TD.fn,cmp:=true }:TI):=by kernel_rfl
@[simp] theorem D475:Dof Tryz.prog 475=some ({ size:=1,bytes:=8,zero:=[AV.nilf],zv:=AV.nilf,d:=TD.fn,cmp:=true }:TI):=by kernel_rfl
@[simp] theorem D476:Dof Tryz.prog 476=some ({ size:=1,bytes:=8,zero:=[AV.nilf],zv:=AV.nilf,d:=TD.fn,cmp:=true }:TI):=by kernel_rfl
@[simp] theorem D477:Dof Tryz.prog 477=some ({ size:=1,bytes:=8,zero:=[AV.nilf],zv:=AV.nilf,d:=TD.fn,cmp:=true }:TI):=by kernel_rfl
@[simp] theorem D478:Dof Tryz.prog 478=some ({ size:=1,bytes:=8,zero:=[AV.nilf],zv:=AV.nilf,d:=TD.fn,cmp:=true }:TI):=by kernel_rfl
@[simp] theorem D479:Dof Tryz.prog 479=some ({ size:=1,bytes:=8,zero:=[AV.nilf],zv:=AV.nilf,d:=TD.fn,cmp:=true }:TI):=by kernel_rfl
@[simp] theorem D480:Dof Tryz.prog 480=some ({ size:=1,bytes:=8,zero:=[AV.nilf],zv:=AV.nilf,d:=TD.fn,cmp:=true }:TI):=by kernel_rfl
@[simp] theorem D481:Dof Tryz.prog 481=some ({ size:=4,bytes:=40,zero:=[AV.nilp,AV.nilp,AV.nilp,AV.str []],zv:=AV.agg [AV.nilp,AV.nilp,AV.nilp,AV.str []],d:=TD.st [(0,17),(1,17),(2,17),(3,9)],cmp:=false }:TI):=by kernel_rfl
@[simp] theorem D482:Dof Tryz.prog 482=some ({ size:=4,bytes:=40,zero:=[AV.nilp,AV.nilp,AV.nilp,AV.str []],zv:=AV.agg [AV.nilp,AV.nilp,AV.nilp,AV.str []],d:=TD.st [(0,17),(1,17),(2,17),(3,9)],cmp:=false }:TI):=by kernel_rfl
@[simp] theorem D483:Dof Tryz.prog 483=some ({ size:=0,bytes:=0,zero:=[],zv:=AV.agg [],d:=TD.arr 0 16,cmp:=true }:TI):=by kernel_rfl
@[simp] theorem D484:Dof Tryz.prog 484=some ({ size:=0,bytes:=0,zero:=[],zv:=AV.agg [],d:=TD.other,cmp:=false }:TI):=by kernel_rfl
@[simp] theorem D485:Dof Tryz.prog 485=some ({ size:=0,bytes:=0,zero:=[],zv:=AV.agg [],d:=TD.other,cmp:=false }:TI):=by kernel_rfl
@[simp] theorem D486:Dof Tryz.prog 486=some ({ size:=1,bytes:=1,zero:=[AV.int IntKind.u8 0],zv:=AV.int IntKind.u8 0,d:=TD.int IntKind.u8,cmp:=true }:TI):=by kernel_rfl
@[simp] theorem D487:Dof Tryz.prog 487=some ({ size:=1,bytes:=1,zero:=[AV.int IntKind.u8 0],zv:=AV.int IntKind.u8 0,d:=TD.int IntKind.u8,cmp:=true }:TI):=by kernel_rfl
@[simp] theorem D488:Dof Tryz.prog 488=some ({ size:=1,bytes:=8,zero:=[AV.nilf],zv:=AV.nilf,d:=TD.fn,cmp:=true }:TI):=by kernel_rfl
@[simp] theorem D489:Dof Tryz.prog 489=some ({ size:=1,bytes:=8,zero:=[AV.nilp],zv:=AV.nilp,d:=TD.ptr 5,cmp:=true }:TI):=by kernel_rfl
@[simp] theorem D490:Dof Tryz.prog 490=some ({ size:=1,bytes:=4,zero:=[AV.int IntKind.i32 0],zv:=AV.int IntKind.i32 0,d:=TD.int IntKind.i32,cmp:=true }:TI):=by kernel_rfl
@[simp] theorem D491:Dof Tryz.prog 491=some ({ size:=1,bytes:=4,zero:=[AV.int IntKind.i32 0],zv:=AV.int IntKind.i32 0,d:=TD.int IntKind.i32,cmp:=true }:TI):=by kernel_rfl
@[simp] theorem D492:Dof Tryz.prog 492=some ({ size:=11,bytes:=48,zero:=[AV.int IntKind.u64 0,AV.int IntKind.u64 0,AV.int IntKind.u32 0,AV.int IntKind.u8 0,AV.int IntKind.u8 0,AV.int IntKind.u8 0,AV.int IntKind.u8 0,AV.nilf,AV.nilp,AV.int IntKind.i32 0,AV.int IntKind.i32 0],zv:=AV.agg [AV.int IntKind.u64 0,AV.int IntKind.u64 0,AV.int IntKind.u32 0,AV.int IntKind.u8 0,AV.int IntKind.u8 0,AV.int IntKind.u8 0,AV.int IntKind.u8 0,AV.nilf,AV.nilp,AV.int IntKind.i32 0,AV.int IntKind.i32 0],d:=TD.st [(0,12),(1,12),(2,136),(3,486),(4,5),(5,5),(6,487),(7,488),(8,489),(9,490),(10,491)],cmp:=false }:TI):=by kernel_rfl
@[simp] theorem D493:Dof Tryz.prog 493=some ({ size:=11,bytes:=48,zero:=[AV.int IntKind.u64 0,AV.int IntKind.u64 0,AV.int IntKind.u32 0,AV.int IntKind.u8 0,AV.int IntKind.u8 0,AV.int IntKind.u8 0,AV.int IntKind.u8 0,AV.nilf,AV.nilp,AV.int IntKind.i32 0,AV.int IntKind.i32 0],zv:=AV.agg [AV.int IntKind.u64 0,AV.int IntKind.u64 0,AV.int IntKind.u32 0,AV.int IntKind.u8 0,AV.int IntKind.u8 0,AV.int IntKind.u8 0,AV.int IntKind.u8 0,AV.nilf,AV.nilp,AV.int IntKind.i32 0,AV.int IntKind.i32 0],d:=TD.st [(0,12),(1,12),(2,136),(3,486),(4,5),(5,5),(6,487),(7,488),(8,489),(9,490),(10,491)],cmp:=false }:TI):=by kernel_rfl
@[simp] theorem D494:Dof Tryz.prog 494=some ({ size:=1,bytes:=8,zero:=[AV.nilp],zv:=AV.nilp,d:=TD.other,cmp:=true }:TI):=by kernel_rfl
end Go.Proofs.YtkodonalmdmgpaaGreatDoor
end
