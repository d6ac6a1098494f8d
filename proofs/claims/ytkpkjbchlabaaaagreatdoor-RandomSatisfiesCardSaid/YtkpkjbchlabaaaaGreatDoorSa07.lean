/- A part of the proof. -/
import Derived.Test.YtkpkjbchlabaaaaGreatDoorProg
import Derived.KernelRfl
import Derived.Test.YtkpkjbchlabaaaaGreatDoorSa06
import Derived.Laws.RangeAny
import Derived.Shelf.Lay
import Derived.Shelf.Strings.Search1
import Derived.WalkKit
import Derived.ChangeArms
import Derived.DataReads
set_option linter.unusedVariables false
set_option linter.unusedSimpArgs false
set_option maxRecDepth 100000
set_option maxHeartbeats 16000000
set_option linter.defProp false
section
namespace Go.Proofs.YtkpkjbchlabaaaaGreatDoor
open Go Go.Abs
@[simp]theorem D1:Dof Tryz.prog 1=some ⟨1,8,[.nilf],.nilf,.fn,true⟩:=by kernel_rfl
@[simp]theorem D2:Dof Tryz.prog 2=some ⟨1,8,[.int .i64 0],.int .i64 0,.int .i64,true⟩:=by kernel_rfl
@[simp]theorem D3:Dof Tryz.prog 3=some ⟨1,8,[.int .i64 0],.int .i64 0,.int .i64,true⟩:=by kernel_rfl
@[simp]theorem D4:Dof Tryz.prog 4=some ⟨1,1,[.bool false],.bool false,.bool,true⟩:=by kernel_rfl
@[simp]theorem D5:Dof Tryz.prog 5=some ⟨1,1,[.int .u8 0],.int .u8 0,.int .u8,true⟩:=by kernel_rfl
@[simp]theorem D9:Dof Tryz.prog 9=some ⟨1,16,[.str []],.str [],.str,true⟩:=by kernel_rfl
@[simp]theorem D22:Dof Tryz.prog 22=some ⟨1,24,[.sl 0 [] .nil],.sl 0 [] .nil,.sl 61,true⟩:=by kernel_rfl
@[simp]theorem D23:Dof Tryz.prog 23=some ⟨1,24,[.sl 0 [] .nil],.sl 0 [] .nil,.sl 52,true⟩:=by kernel_rfl
@[simp]theorem D24:Dof Tryz.prog 24=some ⟨1,24,[.sl 0 [] .nil],.sl 0 [] .nil,.sl 56,true⟩:=by kernel_rfl
@[simp]theorem D25:Dof Tryz.prog 25=some ⟨1,24,[.sl 0 [] .nil],.sl 0 [] .nil,.sl 28,true⟩:=by kernel_rfl
@[simp]theorem D27:Dof Tryz.prog 27=some ⟨5,120,[.sl 0 [] .nil,.sl 0 [] .nil,.sl 0 [] .nil,.sl 0 [] .nil,.sl 0 [] .nil],.agg [.sl 0 [] .nil,.sl 0 [] .nil,.sl 0 [] .nil,.sl 0 [] .nil,.sl 0 [] .nil],.st [(0,22),(1,23),(2,23),(3,24),(4,25)],true⟩:=by kernel_rfl
@[simp]theorem D28:Dof Tryz.prog 28=some ⟨1,24,[.sl 0 [] .nil],.sl 0 [] .nil,.sl 3,true⟩:=by kernel_rfl
@[simp]theorem D32:Dof Tryz.prog 32=some ⟨1,8,[.int .i64 0],.int .i64 0,.int .i64,true⟩:=by kernel_rfl
@[simp]theorem D41:Dof Tryz.prog 41=some ⟨2,16,[.int .i64 0,.int .i64 0],.agg [.int .i64 0,.int .i64 0],.st [(0,3),(1,3)],true⟩:=by kernel_rfl
@[simp]theorem D45:Dof Tryz.prog 45=some ⟨1,8,[.int .u64 0],.int .u64 0,.int .u64,true⟩:=by kernel_rfl
@[simp]theorem D47:Dof Tryz.prog 47=some ⟨2,16,[.int .u64 0,.int .u64 0],.agg [.int .u64 0,.int .u64 0],.st [(0,45),(1,45)],true⟩:=by kernel_rfl
@[simp]theorem D52:Dof Tryz.prog 52=some ⟨4,56,[.int .i64 0,.int .i64 0,.str [],.sl 0 [] .nil],.agg [.int .i64 0,.int .i64 0,.str [],.sl 0 [] .nil],.st [(0,3),(1,3),(2,9),(3,23)],true⟩:=by kernel_rfl
@[simp]theorem D54:Dof Tryz.prog 54=some ⟨1,24,[.sl 0 [] .nil],.sl 0 [] .nil,.sl 136,true⟩:=by kernel_rfl
@[simp]theorem D56:Dof Tryz.prog 56=some ⟨2,32,[.int .i64 0,.sl 0 [] .nil],.agg [.int .i64 0,.sl 0 [] .nil],.st [(0,3),(1,54)],true⟩:=by kernel_rfl
@[simp]theorem D61:Dof Tryz.prog 61=some ⟨4,40,[.str [],.int .i64 0,.int .i64 0,.int .i64 0],.agg [.str [],.int .i64 0,.int .i64 0,.int .i64 0],.st [(0,9),(1,3),(2,3),(3,3)],true⟩:=by kernel_rfl
@[simp]theorem D62:Dof Tryz.prog 62=some ⟨1,8,[.nilp],.nilp,.ptr 70,true⟩:=by kernel_rfl
@[simp]theorem D65:Dof Tryz.prog 65=some ⟨1,24,[.sl 0 [] .nil],.sl 0 [] .nil,.sl 155,true⟩:=by kernel_rfl
@[simp]theorem D67:Dof Tryz.prog 67=some ⟨1,24,[.sl 0 [] .nil],.agg [.sl 0 [] .nil],.st [(0,65)],true⟩:=by kernel_rfl
@[simp]theorem D68:Dof Tryz.prog 68=some ⟨1,8,[.nilf],.nilf,.fn,true⟩:=by kernel_rfl
@[simp]theorem D70:Dof Tryz.prog 70=some ⟨11,216,[.sl 0 [] .nil,.sl 0 [] .nil,.sl 0 [] .nil,.sl 0 [] .nil,.sl 0 [] .nil,.sl 0 [] .nil,.sl 0 [] .nil,.sl 0 [] .nil,.int .i64 0,.bool false,.nilf],.agg [.sl 0 [] .nil,.sl 0 [] .nil,.sl 0 [] .nil,.sl 0 [] .nil,.sl 0 [] .nil,.sl 0 [] .nil,.sl 0 [] .nil,.sl 0 [] .nil,.int .i64 0,.bool false,.nilf],.st [(0,27),(5,23),(6,28),(7,67),(8,3),(9,4),(10,68)],true⟩:=by kernel_rfl
@[simp]theorem D88:Dof Tryz.prog 88=some ⟨1,24,[.sl 0 [] .nil],.sl 0 [] .nil,.sl 133,true⟩:=by kernel_rfl
@[simp]theorem D102:Dof Tryz.prog 102=some ⟨2,32,[.sl 0 [] .nil,.int .i64 0],.agg [.sl 0 [] .nil,.int .i64 0],.st [(0,67),(1,3)],true⟩:=by kernel_rfl
@[simp]theorem D103:Dof Tryz.prog 103=some ⟨1,8,[.nilf],.nilf,.fn,true⟩:=by kernel_rfl
@[simp]theorem D106:Dof Tryz.prog 106=some ⟨1,8,[.nilm],.nilm,.map 3 3,true⟩:=by kernel_rfl
@[simp]theorem D115:Dof Tryz.prog 115=some ⟨1,8,[.nilf],.nilf,.fn,true⟩:=by kernel_rfl
@[simp]theorem D117:Dof Tryz.prog 117=some ⟨3,24,[.bool false,.int .u64 0,.int .u64 0],.agg [.bool false,.int .u64 0,.int .u64 0],.st [(0,4),(1,45),(2,45)],true⟩:=by kernel_rfl
@[simp]theorem D123:Dof Tryz.prog 123=some ⟨1,8,[.nilf],.nilf,.fn,true⟩:=by kernel_rfl
@[simp]theorem D125:Dof Tryz.prog 125=some ⟨1,8,[.nilp],.nilp,.ptr 47,true⟩:=by kernel_rfl
@[simp]theorem D127:Dof Tryz.prog 127=some ⟨1,8,[.nilf],.nilf,.fn,true⟩:=by kernel_rfl
@[simp]theorem D129:Dof Tryz.prog 129=some ⟨1,24,[.sl 0 [] .nil],.agg [.sl 0 [] .nil],.st [(0,88)],true⟩:=by kernel_rfl
@[simp]theorem D133:Dof Tryz.prog 133=some ⟨2,24,[.str [],.int .i64 0],.agg [.str [],.int .i64 0],.st [(0,9),(1,3)],true⟩:=by kernel_rfl
@[simp]theorem D136:Dof Tryz.prog 136=some ⟨4,32,[.int .i64 0,.int .i64 0,.int .i64 0,.bool false],.agg [.int .i64 0,.int .i64 0,.int .i64 0,.bool false],.st [(0,3),(1,3),(2,3),(3,4)],true⟩:=by kernel_rfl
@[simp]theorem D147:Dof Tryz.prog 147=some ⟨1,24,[.sl 0 [] .nil],.sl 0 [] .nil,.sl 54,true⟩:=by kernel_rfl
@[simp]theorem D153:Dof Tryz.prog 153=some ⟨2,16,[.int .i64 0,.int .i64 0],.agg [.int .i64 0,.int .i64 0],.arr 2 3,true⟩:=by kernel_rfl
@[simp]theorem D155:Dof Tryz.prog 155=some ⟨3,24,[.int .i64 0,.int .i64 0,.int .i64 0],.agg [.int .i64 0,.int .i64 0,.int .i64 0],.st [(0,3),(1,3),(2,3)],true⟩:=by kernel_rfl
@[simp]theorem D156:Dof Tryz.prog 156=some ⟨1,8,[.nilf],.nilf,.fn,true⟩:=by kernel_rfl
@[simp]theorem D159:Dof Tryz.prog 159=some ⟨1,8,[.nilm],.nilm,.map 161 3,true⟩:=by kernel_rfl
@[simp]theorem D161:Dof Tryz.prog 161=some ⟨2,16,[.int .i64 0,.int .i64 0],.agg [.int .i64 0,.int .i64 0],.st [(0,3),(1,3)],true⟩:=by kernel_rfl
@[simp]theorem D176:Dof Tryz.prog 176=some ⟨1,24,[.sl 0 [] .nil],.sl 0 [] .nil,.sl 127,true⟩:=by kernel_rfl
@[simp]theorem D182:Dof Tryz.prog 182=some ⟨1,24,[.sl 0 [] .nil],.sl 0 [] .nil,.sl 9,true⟩:=by kernel_rfl
@[simp]theorem D188:Dof Tryz.prog 188=some ⟨1,24,[.sl 0 [] .nil],.sl 0 [] .nil,.sl 4,true⟩:=by kernel_rfl
@[simp]theorem D200:Dof Tryz.prog 200=some ⟨5,72,[.int .i64 0,.int .i64 0,.int .i64 0,.sl 0 [] .nil,.sl 0 [] .nil],.agg [.int .i64 0,.int .i64 0,.int .i64 0,.sl 0 [] .nil,.sl 0 [] .nil],.st [(0,3),(1,3),(2,32),(3,182),(4,182)],true⟩:=by kernel_rfl
@[simp]theorem D202:Dof Tryz.prog 202=some ⟨1,8,[.nilp],.nilp,.ptr 212,true⟩:=by kernel_rfl
@[simp]theorem D208:Dof Tryz.prog 208=some ⟨16,128,[.int .i64 0,.int .i64 0,.int .i64 0,.int .i64 0,.int .i64 0,.int .i64 0,.int .i64 0,.int .i64 0,.int .i64 0,.int .i64 0,.int .i64 0,.int .i64 0,.int .i64 0,.int .i64 0,.int .i64 0,.int .i64 0],.agg [.int .i64 0,.int .i64 0,.int .i64 0,.int .i64 0,.int .i64 0,.int .i64 0,.int .i64 0,.int .i64 0,.int .i64 0,.int .i64 0,.int .i64 0,.int .i64 0,.int .i64 0,.int .i64 0,.int .i64 0,.int .i64 0],.arr 16 3,true⟩:=by kernel_rfl
@[simp]theorem D210:Dof Tryz.prog 210=some ⟨1,8,[.nilm],.nilm,.map 9 3,true⟩:=by kernel_rfl
@[simp]theorem D212:Dof Tryz.prog 212=some ⟨8,176,[.sl 0 [] .nil,.sl 0 [] .nil,.sl 0 [] .nil,.sl 0 [] .nil,.sl 0 [] .nil,.sl 0 [] .nil,.sl 0 [] .nil,.nilm],.agg [.sl 0 [] .nil,.sl 0 [] .nil,.sl 0 [] .nil,.sl 0 [] .nil,.sl 0 [] .nil,.sl 0 [] .nil,.sl 0 [] .nil,.nilm],.st [(0,67),(1,27),(6,28),(7,210)],true⟩:=by kernel_rfl
@[simp]theorem D215:Dof Tryz.prog 215=some ⟨3,24,[.int .i64 0,.int .i64 0,.int .i64 0],.agg [.int .i64 0,.int .i64 0,.int .i64 0],.st [(0,3),(1,3),(2,3)],true⟩:=by kernel_rfl
@[simp]theorem D216:Dof Tryz.prog 216=some ⟨1,8,[.nilf],.nilf,.fn,true⟩:=by kernel_rfl
@[simp]theorem D218:Dof Tryz.prog 218=some ⟨1,8,[.nilm],.nilm,.map 155 4,true⟩:=by kernel_rfl
@[simp]theorem D226:Dof Tryz.prog 226=some ⟨1,8,[.int .u64 0],.int .u64 0,.int .u64,true⟩:=by kernel_rfl
@[simp]theorem D232:Dof Tryz.prog 232=some ⟨1,24,[.sl 0 [] .nil],.sl 0 [] .nil,.sl 23,true⟩:=by kernel_rfl
@[simp]theorem D239:Dof Tryz.prog 239=some ⟨1,24,[.sl 0 [] .nil],.sl 0 [] .nil,.sl 5,true⟩:=by kernel_rfl
@[simp]theorem D246:Dof Tryz.prog 246=some ⟨1,24,[.sl 0 [] .nil],.sl 0 [] .nil,.sl 208,true⟩:=by kernel_rfl
@[simp]theorem D256:Dof Tryz.prog 256=some ⟨1,8,[.nilp],.nilp,.ptr 307,true⟩:=by kernel_rfl
@[simp]theorem D258:Dof Tryz.prog 258=some ⟨1,8,[.nilm],.nilm,.map 215 3,true⟩:=by kernel_rfl
@[simp]theorem D260:Dof Tryz.prog 260=some ⟨3,24,[.nilp,.nilf,.nilm],.agg [.nilp,.nilf,.nilm],.st [(0,256),(1,216),(2,258)],true⟩:=by kernel_rfl
@[simp]theorem D282:Dof Tryz.prog 282=some ⟨9,184,[.sl 0 [] .nil,.sl 0 [] .nil,.sl 0 [] .nil,.sl 0 [] .nil,.sl 0 [] .nil,.sl 0 [] .nil,.sl 0 [] .nil,.bool false,.int .i64 0],.agg [.sl 0 [] .nil,.sl 0 [] .nil,.sl 0 [] .nil,.sl 0 [] .nil,.sl 0 [] .nil,.sl 0 [] .nil,.sl 0 [] .nil,.bool false,.int .i64 0],.st [(0,27),(5,23),(6,28),(7,4),(8,3)],true⟩:=by kernel_rfl
@[simp]theorem D286:Dof Tryz.prog 286=some ⟨1,24,[.sl 0 [] .nil],.sl 0 [] .nil,.sl 319,true⟩:=by kernel_rfl
@[simp]theorem D293:Dof Tryz.prog 293=some ⟨1,2,[.int .u16 0],.int .u16 0,.int .u16,true⟩:=by kernel_rfl
@[simp]theorem D305:Dof Tryz.prog 305=some ⟨1,8,[.nilm],.nilm,.map 155 3,true⟩:=by kernel_rfl
@[simp]theorem D307:Dof Tryz.prog 307=some ⟨3,40,[.sl 0 [] .nil,.nilm,.bool false],.agg [.sl 0 [] .nil,.nilm,.bool false],.st [(0,65),(1,305),(2,4)],true⟩:=by kernel_rfl
@[simp]theorem D309:Dof Tryz.prog 309=some ⟨1,8,[.nilm],.nilm,.map 9 4,true⟩:=by kernel_rfl
@[simp]theorem D319:Dof Tryz.prog 319=some ⟨2,16,[.int .i64 0,.int .i64 0],.agg [.int .i64 0,.int .i64 0],.st [(0,3),(1,3)],true⟩:=by kernel_rfl
@[simp]theorem D336:Dof Tryz.prog 336=some ⟨24,24,[.int .u8 0,.int .u8 0,.int .u8 0,.int .u8 0,.int .u8 0,.int .u8 0,.int .u8 0,.int .u8 0,.int .u8 0,.int .u8 0,.int .u8 0,.int .u8 0,.int .u8 0,.int .u8 0,.int .u8 0,.int .u8 0,.int .u8 0,.int .u8 0,.int .u8 0,.int .u8 0,.int .u8 0,.int .u8 0,.int .u8 0,.int .u8 0],.agg [.int .u8 0,.int .u8 0,.int .u8 0,.int .u8 0,.int .u8 0,.int .u8 0,.int .u8 0,.int .u8 0,.int .u8 0,.int .u8 0,.int .u8 0,.int .u8 0,.int .u8 0,.int .u8 0,.int .u8 0,.int .u8 0,.int .u8 0,.int .u8 0,.int .u8 0,.int .u8 0,.int .u8 0,.int .u8 0,.int .u8 0,.int .u8 0],.arr 24 5,true⟩:=by kernel_rfl
abbrev Str:=List UInt8
structure Var where
 name:Str
 width:Int
 mode:Int
 value:Int
structure Weight where
 lo:Int
 hi:Int
 weight:Int
 each:Bool
structure Dist where
 var:Int
 weights:List Weight
inductive Ex where
 | mk (op n:Int) (name:Str) (args:List Ex)
structure Problem where
 vars:List Var
 hard:List Ex
 soft:List Ex
 dists:List Dist
 groups:List (List Int)
structure Signal where
 name:Str
 value:Int
def Ex.op:Ex->Int | .mk o _ _ _=>o
def Ex.n:Ex->Int | .mk _ n _ _=>n
def Ex.name:Ex->Str | .mk _ _ s _=>s
def Ex.args:Ex->List Ex | .mk _ _ _ a=>a
@[simp]theorem Ex.op_mk {o n:Int}{s:Str}{a:List Ex}:(Ex.mk o n s a).op=o:=rfl
@[simp]theorem Ex.n_mk {o n:Int}{s:Str}{a:List Ex}:(Ex.mk o n s a).n=n:=rfl
@[simp]theorem Ex.name_mk {o n:Int}{s:Str}{a:List Ex}:(Ex.mk o n s a).name=s:=rfl
@[simp]theorem Ex.args_mk {o n:Int}{s:Str}{a:List Ex}:(Ex.mk o n s a).args=a:=rfl
@[simp]def qA (v:Var):List AV:=[.str v.name,.int .i64 v.width,.int .i64 v.mode,.int .i64 v.value]
@[simp]def qC (w:Weight):List AV:=[.int .i64 w.lo,.int .i64 w.hi,.int .i64 w.weight,.bool w.each]
@[simp]def zH (d:Dist):List AV:=[.int .i64 d.var,.sl 4 (d.weights.map qC) .none]
@[simp]def qt (n:Int):List AV:=[.int .i64 n]
@[simp]def zZ (s:Str):List AV:=[.str s]
@[simp]def qY (s:Signal):List AV:=[.str s.name,.int .i64 s.value]
mutual
def qr:Ex->List AV
 | .mk o n s a=>[.int .i64 o,.int .i64 n,.str s,.sl 4 (qf3 a) .none]
def qf3:List Ex->List (List AV)
 | []=>[]
 | a::r=>qr a::qf3 r
end
@[simp]theorem qlR:∀ l,qf3 l=l.map qr
 | []=>rfl
 | a::r=>by simp[qf3,qlR r]
theorem qd (e:Ex):qr e=[.int .i64 e.op,.int .i64 e.n,.str e.name,.sl 4 (e.args.map qr) .none]:=by cases e;simp[qr]
@[simp]def zG (l:List Int):List AV:=[.sl 1 (l.map qt) .none]
@[simp]def qE (p:Problem):List AV:=[.sl 4 (p.vars.map qA) .none,.sl 4 (p.hard.map qr) .none,.sl 4 (p.soft.map qr) .none,.sl 2 (p.dists.map zH) .none,.sl 1 (p.groups.map zG) .none]
@[simp]theorem nrVar (l:List Var):zl (l.map qA)=true:=zy (fun x=>by simp) l
@[simp]theorem nrWeight (l:List Weight):zl (l.map qC)=true:=zy (fun x=>by simp) l
@[simp]theorem nrDist (l:List Dist):zl (l.map zH)=true:=zy (fun x=>by simp) l
@[simp]theorem nrInt (l:List Int):zl (l.map qt)=true:=zy (fun x=>by simp) l
@[simp]theorem nrStr (l:List Str):zl (l.map zZ)=true:=zy (fun x=>by simp) l
@[simp]theorem nrSignal (l:List Signal):zl (l.map qY)=true:=zy (fun x=>by simp) l
@[simp]theorem nrInts (l:List (List Int)):zl (l.map zG)=true:=zy (fun x=>by simp) l
mutual
theorem nrE':∀ e,qv (qr e)=true
 | .mk o n s a=>by
  have:=nrEs' a;simp[qr,this];simpa using this
theorem nrEs':∀ l,zl (qf3 l)=true
 | []=>rfl
 | a::r=>by simp only[qf3,zl,nrE' a,nrEs' r,Bool.and_self]
end
@[simp]theorem nrE (e:Ex):qv (qr e)=true:=nrE' e
@[simp]theorem nrEs (l:List Ex):zl (l.map qr)=true:=zy (fun x=>nrE x) l
theorem qe:Tryz.prog.follows .mixedOrders=true:=by kernel_rfl
abbrev Fits {α:Type}(l:List α):Prop:=l.length<9223372036854775808
def zk {α:Type}(p:α->Bool):List α->Int->Int
 | [],_=>-1
 | v::r,i=>if p v then i else zk p r (i+1)
theorem Vr {α:Type}{p:α->Bool}:∀ {l:List α} {i:Int},0<=i->(0<=zk p l i↔l.any p=true)
 | [],i,_=>by simp[zk]
 | v::r,i,h=>by
  simp only[zk,qst];split
  . rename_i hp;simp[hp,h]
  . rename_i hp;simp[hp,Vr (l:=r) (i:=i+1) (by omega)]
@[simp]theorem qiw {α:Type}(p:α->Bool)(l:List α):decide (0<=zk p l 0)=l.any p:=by
 rw[qq4,decide_eq_true_iff];exact Vr (by omega)
end Go.Proofs.YtkpkjbchlabaaaaGreatDoor
end
section
namespace Go.Proofs.YtkpkjbchlabaaaaGreatDoor
open Go Go.Abs
def qbZ:List Str:=[[99,108,97,115,115],[101,120,116,101,110,100,115],[114,97,110,100],[114,97,110,100,99],[115,116,97,116,101],[99,111,110,115,116,114,97,105,110,116],[115,111,102,116],[100,105,115,116],[105,102],[101,108,115,101],[101,97,99,104],[105,110],[115,111,108,118,101],[98,101,102,111,114,101],[105,110,115,105,100,101],[112,114,111,112,101,114,116,121],[115,101,113],[97,110,100],[111,114],[110,111,116],[115,101,116],[104,111,108,100],[112,108,97,105,110],[114,101,112,101,97,116]]
def kz (n:Int):Bool:=decide (97<=n)&&decide (n<=122)
def Jb (n:Int):Bool:=decide (48<=n)&&decide (n<=57)
def kc (n:Int):Bool:=kz n||Jb n||(decide (65<=n)&&decide (n<=90))||decide (n=95)
def Q2 (c:UInt8):Bool:=kc c.toNat
def Qc:Str->Bool
 | []=>false
 | c::r=>kz c.toNat&&(c::r).all Q2
def zQ (s:Str):Bool:=Qc s&&decide (s.length<=16)&&!qbZ.contains s
theorem qcH {s:Str}(h:zQ s=true):∀ c∈s,Q2 c=true:=by
 simp only[zQ,qqi]at h;obtain⟨⟨h,_⟩,_⟩:=h
 cases s with
 | nil=>simp
 | cons c r=>
  simp only[Qc,qqi]at h;exact fun x hx=>qqo.1 h.2 x hx
theorem wb {s:Str}(h:zQ s=true):∀ c∈s,c≠91:=by
 intro c hc e;have:=qcH h c hc;subst e
 revert this
 decide
theorem Vf {s:Str}(h:zQ s=true):s≠[]:=by
 rintro rfl;simp[zQ,Qc]at h
def zW (a:Str)(i:Nat):Str:=a++[91,UInt8.ofNat (48+i),93]
@[simp]theorem qnr {a:Str}{i:Nat}:(zW a i).length=a.length+3:=by simp[zW]
theorem Y7 {a b:Str}{i j:Nat}(hi:i<8)(hj:j<8)(h:zW a i=zW b j):a=b/\i=j:=by
 obtain⟨h1,h2⟩:=List.append_inj' h rfl;refine⟨h1,?_⟩;simp only[List.cons.injEq,true_and,and_true]at h2;have:=congrArg UInt8.toNat h2;simp only[UInt8.toNat_ofNat']at this;omega
def jh (s a:Str)(i:Nat):Prop:=i<8/\zQ a=true/\s=zW a i
theorem jh.unique {s a b:Str}{i j:Nat}(h:jh s a i)(h':jh s b j):a=b/\i=j:=Y7 h.1 h'.1 (h.2.2.symm.trans h'.2.2)
open Classical in
noncomputable def yI (s:Str):Option (Str×Nat):=if h:∃ p:Str×Nat,jh s p.1 p.2 then some h.choose else none
theorem wL {s a:Str}{i:Nat}(h:jh s a i):yI s=some (a,i):=by
 have hex:∃ p:Str×Nat,jh s p.1 p.2:=⟨(a,i),h⟩;unfold yI;rw[dif_pos hex];obtain⟨h1,h2⟩:=hex.choose_spec.unique h;rw[<- h1,<- h2]
theorem yW {s a:Str}{i:Nat}:yI s=some (a,i)↔jh s a i:=by
 constructor
 . intro h;unfold yI at h;split at h
   . rename_i hex;have:=hex.choose_spec;rw[Option.some.inj h]at this;exact this
   . cases h
 . exact wL
theorem yu {s:Str}:yI s=none↔∀ a i,¬ jh s a i:=by
 constructor
 . intro h a i hi;rw[wL hi]at h;cases h
 . intro h
   cases e:yI s with
   | none=>rfl
   | some p=>exact absurd (yW.1 (show yI s=some (p.1,p.2) from e)) (h _ _)
noncomputable def yX (s:Str):Bool:=zQ s||(yI s).isSome
def jD (s:Str):Str:=s.takeWhile (· != 91)
def J8 (s:Str):Str:=(s.dropWhile (· != 91)).tail
theorem qnu {s:Str}(h:s.contains 91=true):s=jD s++91::J8 s:=by
 unfold jD J8
 induction s with
 | nil=>simp at h
 | cons c r ih=>
  by_cases hc:c=91
  . subst hc;simp
  . have:r.contains 91=true:=by
     simp only[List.contains_cons,qsi,beq_iff_eq]at h;rcases h with h|h
     . exact absurd h.symm hc
     . exact h
    have hb:(c != 91)=true:=(by simpa using hc);rw[qtb,List.dropWhile_cons,if_pos hb,if_pos hb,qqz,<- ih this]
theorem qfU {a:Str}{t:Str}(h:∀ c∈a,c≠91):jD (a++91::t)=a:=by
 unfold jD
 induction a with
 | nil=>simp
 | cons c r ih=>
  have hb:(c != 91)=true:=by simpa using h c (by simp)
  rw[qqz,qtb,if_pos hb,ih fun x hx=>h x (by simp[hx])]
theorem qfg {a:Str}{t:Str}(h:∀ c∈a,c≠91):J8 (a++91::t)=t:=by
 unfold J8
 induction a with
 | nil=>simp
 | cons c r ih=>
  have hb:(c != 91)=true:=by simpa using h c (by simp)
  rw[qqz,List.dropWhile_cons,if_pos hb,ih fun x hx=>h x (by simp[hx])]
theorem qlS {a:Str}{i:Nat}:(zW a i).contains 91=true:=by simp[zW]
theorem jh.has {s a:Str}{i:Nat}(h:jh s a i):s.contains 91=true/\jD s=a/\J8 s=[UInt8.ofNat (48+i),93]:=by
 obtain⟨h1,h2,rfl⟩:=h;exact⟨qlS,qfU (wb h2),qfg (wb h2)⟩
theorem YD {s:Str}(h:s.contains 91=false):yI s=none:=by
 rw[yu];intro a i hi;rw[hi.has.1]at h;cases h
def qM {α:Type}(f:α->Int):List α->Int
 | []=>0
 | a::r=>if f a=0 then qM f r else f a
theorem jK {α:Type}{f:α->Int}:∀ {l m:List α},qM f (l++m)=if qM f l=0 then qM f m else qM f l
 | [],m=>by simp[qM]
 | a::r,m=>by
  simp only[qqz,qM];split
  . exact jK
  . rename_i h;simp
theorem zr {α:Type}{f:α->Int}:∀ {l:List α},qM f l=0↔∀ a∈l,f a=0
 | []=>by simp[qM]
 | a::r=>by
  simp only[qM,qqE,forall_eq_or_imp];split
  . rename_i h;simp[h,zr]
  . rename_i h;simp[h]
noncomputable def jH (v:Var):Int :=
 if yX v.name=false then 7
 else if v.width<1\/8<v.width\/v.mode<0\/2<v.mode\/v.value<0\/(2:Int) ^ v.width.toNat<=v.value\/(v.mode≠0/\v.value≠0) then 1
 else 0
def vH (l:List Var)(name:Str):Bool:=l.any fun v=>v.name==name
def vK (l:List Var)(i:Nat):Bool:=match l[i]? with
 | some v=>vH (l.take i) v.name
 | none=>false
def qns (l:List Var):Bool:=(List.range l.length).any (vK l)
open Classical in
noncomputable def Z8 (l:List Var)(name:Str):Bool:=match yI name with
 | some (a,i+1)=>!vH l (zW a i)
 | _=>false
def j6:List Var->Int
 | []=>0
 | v::r=>(if v.mode≠0 then v.width else 0)+j6 r
noncomputable def zV (l:List Var):Int :=
 if 16<l.length then 2
 else if qM jH l≠0 then qM jH l
 else if qns l=true then 8
 else if l.any (fun v=>Z8 l v.name)=true then 10
 else if 20<j6 l then 2
 else 0
mutual
theorem Ex.ind {p:Ex->Prop}(h:∀ e,(∀ a∈e.args,p a)->p e):∀ e,p e
 | .mk o n s a=>h _ (by simpa using Ex.indL h a)
theorem Ex.indL {p:Ex->Prop}(h:∀ e,(∀ a∈e.args,p a)->p e):∀ (l:List Ex),∀ a∈l,p a
 | [],_,hm=>by cases hm
 | e::r,a,hm=>by
  rcases qqE.1 hm with hm|hm
  . rw[hm];exact Ex.ind h e
  . exact Ex.indL h r a hm
end
mutual
def pre:Ex->List Ex
 | .mk o n s a=>.mk o n s a::kx a
def kx:List Ex->List Ex
 | []=>[]
 | e::r=>pre e++kx r
end
theorem jr (e:Ex):pre e=e::kx e.args:=by cases e;simp[pre]
@[simp]theorem preL_nil:kx []=[]:=by simp[kx]
@[simp]theorem yb {e:Ex}{r:List Ex}:kx (e::r)=pre e++kx r:=by simp[kx]
theorem wB:∀ {l m:List Ex},kx (l++m)=kx l++kx m
 | [],m=>by simp
 | e::r,m=>by simp[wB (l:=r),qqI]
mutual
def hgt:Ex->Nat
 | .mk _ _ _ a=>Zj a+1
def Zj:List Ex->Nat
 | []=>0
 | e::r=>max (hgt e) (Zj r)
end
theorem kD (e:Ex):hgt e=Zj e.args+1:=by cases e;simp[hgt]
@[simp]theorem qlw:Zj []=0:=by simp[Zj]
@[simp]theorem Q3 {e:Ex}{r:List Ex}:Zj (e::r)=max (hgt e) (Zj r):=by simp[Zj]
theorem qet {l:List Ex}{e:Ex}(h:e∈l):hgt e<=Zj l:=by
 induction l with
 | nil=>cases h
 | cons a r ih=>
  rcases qqE.1 h with rfl|h
  . simp;omega
  . have:=ih h;simp;omega
theorem qic {e a:Ex}(h:a∈e.args):hgt a<hgt e:=by
 have:=qet h;rw[kD e];omega
theorem QX {l:List Ex}{x:Ex}:x∈kx l↔∃ a∈l,x∈pre a:=by
 induction l with
 | nil=>simp
 | cons e r ih=>simp[ih]
def zo (op:Int):Int :=
 if op=1\/op=2\/op=24 then 0
 else if op=3\/op=4\/op=5\/op=6\/op=25 then 1
 else if op=22 then 3
 else if op=23 then -1
 else if op<1\/25<op then -1
 else 2
def qi (e:Ex):Bool :=
 if e.op=23 then decide (e.args.length % 2=1/\3<=e.args.length/\e.args.length<=33)
 else decide ((e.args.length:Int)=zo e.op)
noncomputable def qo (e:Ex):Int :=
 if e.op<1\/25<e.op then 1
 else if (e.op=1/\(e.n<0\/65535<e.n))\/(e.op≠1/\e.n≠0) then 1
 else if (¬ (e.op=2\/e.op=3\/e.op=24)/\e.name≠[])\/qi e=false then 1
 else if (e.op=2/\yX e.name=false)\/((e.op=3\/e.op=24)/\zQ e.name=false) then 7
 else 0
def Kt (e:Ex):Int:=IntKind.i64.wrap (pre e).length
noncomputable def zf (e:Ex):Int :=
 if qM qo (pre e)=0/\(24<hgt e\/400<Kt e) then 2 else qM qo (pre e)
def Kl (ops:List Int)(out:List Str)(e:Ex):List Str:=if ops.contains e.op&&!out.contains e.name then out++[e.name] else out
def zD (ops:List Int)(e:Ex):List Str:=(pre e).foldl (Kl ops) []
theorem qmu {ops:List Int}{out:List Str}{e:Ex}{s:Str}:s∈Kl ops out e↔s∈out\/(ops.contains e.op=true/\s=e.name):=by
 unfold Kl;by_cases h1:e.op∈ops
 . by_cases h2:e.name∈out
   . simp only[qtP.2 h1,qtP.2 h2,qtT,qsY,qqy,if_false,true_and];constructor
     . exact .inl
     . rintro (h|rfl)
       . exact h
       . exact h2
   . simp[h1,h2]
 . simp[h1]
theorem qbq {ops:List Int}{s:Str}:∀ {l:List Ex} {out:List Str},s∈l.foldl (Kl ops) out↔s∈out\/∃ e∈l,ops.contains e.op=true/\s=e.name
 | [],out=>by simp
 | e::r,out=>by
  rw[qqR,qbq,qmu];simp only[qqE,exists_eq_or_imp];constructor
  . rintro ((h|h)|h)
    . exact .inl h
    . exact .inr (.inl h)
    . exact .inr (.inr h)
  . rintro (h|h|h)
    . exact .inl (.inl h)
    . exact .inl (.inr h)
    . exact .inr h
theorem jJ {ops:List Int}{e:Ex}{s:Str}:s∈zD ops e↔∃ x∈pre e,ops.contains x.op=true/\s=x.name:=by
 unfold zD;rw[qbq];simp
def Jf (e:Ex):Bool:=(pre e).any fun x=>decide (x.op=3\/x.op=24)
def Qw (l:List Var)(e:Ex):Bool:=(pre e).any fun x=>decide (x.op=2)&&!vH l x.name
theorem Qa {e:Ex}:decide (0<(zD [3,24] e).length)=Jf e:=by
 rw[qq4,decide_eq_true_iff,List.length_pos_iff_exists_mem,Jf,qqF];constructor
 . rintro⟨s,hs⟩;obtain⟨x,h1,h2,_⟩:=jJ.1 hs;exact⟨x,h1,by simpa using h2⟩
 . rintro⟨x,h1,h2⟩;exact⟨x.name,jJ.2 ⟨x,h1,by simpa using h2,rfl⟩⟩
theorem vW {l:List Var}{e:Ex}:(zD [2] e).any (fun s=>!vH l s)=Qw l e:=by
 rw[qq4,Qw,qqF,qqF];constructor
 . rintro⟨s,hs,h⟩;obtain⟨x,h1,h2,rfl⟩:=jJ.1 hs;exact⟨x,h1,by simp only[qqi,decide_eq_true_eq];exact⟨by simpa using h2,h⟩⟩
 . rintro⟨x,h1,h2⟩;simp only[qqi,decide_eq_true_eq]at h2;exact⟨x.name,jJ.2 ⟨x,h1,by simpa using h2.1,rfl⟩,h2.2⟩
noncomputable def zi (l:List Var)(e:Ex):Int :=
 if zf e≠0 then zf e else if Jf e=true then 9 else if Qw l e=true then 7 else 0
def yi (l:List Var)(i:Int):Bool:=decide (0<=i)&&(l[i.toNat]?).any fun v=>v.mode != 0
def zK (w:Weight):Bool:=decide (w.lo<0)||decide (w.hi<w.lo)||decide (65535<w.hi)||decide (w.weight<0)||decide (1000<w.weight)
def jz (l:List Var)(d:List Dist)(i:Nat):Int:=match d[i]? with
 | some x=>if yi l x.var=false then 1 else if (d.take i).any (fun y=>y.var==x.var)=true then 8 else if 16<x.weights.length then 2 else if x.weights.any zK=true then 1 else 0
 | none=>0
def jZ (l:List Var)(d:List Dist):Int:=qM (jz l d) (List.range d.length)
def jL (l:List Var)(g:List (List Int)):Prop:=(∀ x∈g,x≠[])/\(∀ i∈g.flatten,yi l i=true)/\g.flatten.Nodup/\∀ i:Nat,i<l.length->yi l i=true->(i:Int)∈g.flatten
open Classical in
noncomputable def zz (l:List Var)(g:List (List Int)):Int:=if jL l g then 0 else 1
noncomputable def qj (p:Problem):Int :=
 if zV p.vars≠0 then zV p.vars
 else if qM (zi p.vars) (p.hard++p.soft)≠0 then qM (zi p.vars) (p.hard++p.soft)
 else if jZ p.vars p.dists≠0 then jZ p.vars p.dists
 else zz p.vars p.groups
def zF (l:List Var)(i:Nat):Int:=match l[i]? with
 | some v=>v.width
 | none=>0
end Go.Proofs.YtkpkjbchlabaaaaGreatDoor
end
section
namespace Go.Abs
open Go Go.RowKit
def qjv (P:Program)(rs:List ResultVar)(Q:AV->St->Prop)(env:Env)(U:St):Prop :=
 match qdR (Dof P) rs env U with
 | some l=>Q (KM l) U
 | none=>False
def qbU (P:Program)(rs:List ResultVar)(Q:AV->St->Prop):Exit->Env->St->Prop
 | .ret,env,U=>qjv P rs Q env U
 | .normal,env,U=>qjv P rs Q env U
 | _,_,_=>False
attribute [simp] qjv qbU
section
variable {P:Program}{G:Glo}{U:St}{f:FuncId}{args:List AV}{Q:AV->St->Prop}
theorem qf.vcO {fn : Func} {c : Code} (o : Opts) (hm : P.follows .mixedOrders = true) (hf : P.funcs[f]? = some fn) (hb : fn.body = some c) (hk : (jC fn.ntmps o c && decide (args.length ≤ fn.ntmps) && fn.name != "runtime.NumGoroutine") = true)
 (h:vcC P G o c (ZH args) U (qbU P fn.results.toList Q)):qf P G f args U Q:=by
 simp only[qqi,decide_eq_true_eq,bne_iff_ne,ne_eq]at hk;refine qf.of_body hf hb hk.2 hk.1.2 (AWp.mono (j8 hm c hk.1.1 h) fun e env U hq=>?_);have key:qjv P fn.results.toList Q env U->∃ l,qdR (Dof P) fn.results.toList env U=some l/\Q (KM l) U:=fun h=>by
  unfold qjv at h;split at h
  . rename_i l hl;exact⟨l,hl,h⟩
  . exact h.elim
 cases e with
 | ret=>exact⟨.inl rfl,key hq⟩
 | normal=>exact⟨.inr rfl,key hq⟩
 | _=>exact hq.elim
theorem qf.vc {fn : Func} {c : Code} (hm : P.follows .mixedOrders = true) (hf : P.funcs[f]? = some fn) (hb : fn.body = some c) (hk : (jC fn.ntmps o0 c && decide (args.length ≤ fn.ntmps) && fn.name != "runtime.NumGoroutine") = true)
 (h:vcC P G o0 c (ZH args) U (qbU P fn.results.toList Q)):qf P G f args U Q:=qf.vcO o0 hm hf hb hk h
end
end Go.Abs
namespace Go.Proofs.YtkpkjbchlabaaaaGreatDoor
open Go Go.Abs
def QM {S:Type}(stp:S->Ex->S×Bool):S->List Ex->S×Bool
 | s,[]=>(s,true)
 | s,e::r=>if (stp s e).2=true then QM stp (stp s e).1 r else ((stp s e).1,false)
theorem Yl {S:Type}{stp:S->Ex->S×Bool}:∀ {s:S} {l m:List Ex},QM stp s (l++m)=if (QM stp s l).2=true then QM stp (QM stp s l).1 m else QM stp s l
 | s,[],m=>by simp[QM]
 | s,e::r,m=>by
  simp only[qqz,QM];split
  . exact Yl
  . simp
theorem Yk {S:Type}{stp:S->Ex->S×Bool}(h:∀ s e,(stp s e).2=true):∀ (s:S) (l:List Ex),QM stp s l=(l.foldl (fun s e=>(stp s e).1) s,true)
 | s,[]=>rfl
 | s,e::r=>by simp only[QM,h,if_true,qqR];exact Yk h _ r
theorem KX {f:Ex->Int}:∀ (s:Int) (l:List Ex),(QM (fun _ e=>(f e,f e==0)) s l).1=if l=[] then s else qM f l
 | s,[]=>rfl
 | s,e::r=>by
  simp only[QM,qM,beq_iff_eq,reduceCtorEq,if_false];by_cases h:f e=0
  . rw[if_pos h,if_pos h,KX];split
    . rename_i hr;subst hr;simp[qM,h]
    . rfl
  . rw[if_neg h,if_neg h]
theorem qdq {m n:Int}:IntKind.i64.wrap (IntKind.i64.wrap m+n)=IntKind.i64.wrap (m+n):=by
 simp[IntKind.wrap,IntKind.bits,IntKind.signed];omega
theorem Wp {n:Int}:∀ (l:List Ex),l.foldl (fun s _=>IntKind.i64.wrap (s+1)) (IntKind.i64.wrap n)=IntKind.i64.wrap (n+l.length)
 | []=>by simp
 | e::r=>by
  rw[qqR,qdq,Wp r];congr 1;simp;omega
theorem kE {l:List Var}{g:List (List Int)}(h : []∈g):¬ jL l g:=fun ⟨h1,_⟩=>h1 _ h rfl
theorem Wn {l:List Var}{g:List (List Int)}{i:Int}(h:i∈g.flatten)(hr:yi l i=false):¬ jL l g:=fun ⟨_,h2,_⟩=>by
 have:=h2 i h;rw[hr]at this;cases this
theorem qfV {l:List Var}{g:List (List Int)}{i:Int}{done rest:List Int}(h:g.flatten=done++i::rest)(hi:i∈done):¬ jL l g:=fun ⟨_,_,h3,_⟩=>by
 rw[h,qq9]at h3;exact h3.2.2 i hi i (by simp) rfl
theorem qcP {l:List Var}{g:List (List Int)}{i:Nat}(hi:i<l.length)(hr:yi l i=true)(h:(i:Int)∉g.flatten):¬ jL l g:=fun ⟨_,_,_,h4⟩=>h (h4 i hi hr)
theorem Zp {l:List Var}{i:Int}(h:yi l i=true):0<=i/\i<l.length:=by
 simp only[yi,qqi,decide_eq_true_eq]at h;obtain⟨h0,h1⟩:=h;refine⟨h0,?_⟩;apply Classical.byContradiction;intro hn;rw[qqC (by omega)]at h1;simp at h1
theorem qbi {l:List Var}{g:List (List Int)}(h1:∀ x∈g,x≠[])(h2:∀ i∈g.flatten,0<=i/\i<(l.length:Int)) :
 jL l g↔∀ i:Nat,i<l.length->g.flatten.count (i:Int)=if yi l i=true then 1 else 0:=by
 constructor
 . rintro⟨_,k2,k3,k4⟩ i hi;split
   . rename_i hr;have:=List.nodup_iff_count.1 k3 (i:Int);have:=qtf.2 (k4 i hi hr);omega
   . rename_i hr;apply List.count_eq_zero.2;intro hm;exact hr (k2 _ hm)
 . intro h;have cnt:∀ i∈g.flatten,g.flatten.count i=1/\yi l i=true:=by
    intro i hi;obtain⟨a,b⟩:=h2 i hi;have hc:=h i.toNat (by omega);have e:((i.toNat:Nat):Int)=i:=(by omega);rw[e]at hc;have:=qtf.2 hi;split at hc
    . rename_i hr;exact⟨hc,hr⟩
    . omega
   refine⟨h1,fun i hi=>(cnt i hi).2,?_,?_⟩
   . rw[List.nodup_iff_count];intro i;by_cases hi:i∈g.flatten
     . rw[(cnt i hi).1];exact qqn _
     . rw[List.count_eq_zero.2 hi];omega
   . intro i hi hr;have hc:=h i hi;rw[if_pos hr]at hc;exact qtf.1 (by omega)
end Go.Proofs.YtkpkjbchlabaaaaGreatDoor
namespace Go.Proofs.YtkpkjbchlabaaaaGreatDoor
open Go Go.Abs
mutual
def yc:Ex->Int->Int
 | .mk _ _ _ a,d=>ky a d 1
def ky:List Ex->Int->Int->Int
 | [],_,n=>n
 | x::r,d,n=>if n<100/\d<30 then ky r d (IntKind.i64.wrap (n+yc x (IntKind.i64.wrap (d+1)))) else n
end
theorem qaV (e:Ex)(d:Int):yc e d=ky e.args d 1:=by cases e;simp[yc]
@[simp]theorem qfC {d n:Int}:ky [] d n=n:=by simp[ky]
@[simp]theorem YC {x:Ex}{r:List Ex}{d n:Int}:ky (x::r) d n=if n<100/\d<30 then ky r d (IntKind.i64.wrap (n+yc x (IntKind.i64.wrap (d+1)))) else n:=by simp[ky]
mutual
def z7:Ex->Nat->Bool
 | .mk o n s a,d=>if 25<d\/(d=0/\60<yc (.mk o n s a) 0) then false else Zg a (d+1)
def Zg:List Ex->Nat->Bool
 | [],_=>true
 | x::r,d=>z7 x d&&Zg r d
end
theorem Ke (e:Ex)(d:Nat):z7 e d=if 25<d\/(d=0/\60<yc e 0) then false else Zg e.args (d+1):=by cases e;simp[z7]
@[simp]theorem briefL_nil {d:Nat}:Zg [] d=true:=by simp[Zg]
@[simp]theorem qpN {x:Ex}{r:List Ex}{d:Nat}:Zg (x::r) d=(z7 x d&&Zg r d):=by simp[Zg]
theorem ZP {l:List Ex}{d:Nat}:Zg l d=l.all fun x=>z7 x d:=by
 induction l with
 | nil=>simp
 | cons x r ih=>simp[ih]
theorem qbJ:∀ (e:Ex) (d:Nat),z7 e d=true->hgt e+d<=26:=by
 refine Ex.ind fun e ih d h=>?_
 rw[Ke]at h;split at h
 . cases h
 . rename_i hd;rw[kD];have:∀ (l:List Ex),(∀ x∈l,z7 x (d+1)=true)->(∀ x∈l,x∈e.args)->Zj l+(d+1)<=26:=by
    intro l
    induction l with
    | nil=>intro _ _;simp;omega
    | cons x r ihl=>
     intro h1 h2;have a1:=ih x (h2 x (by simp)) (d+1) (h1 x (by simp));have a2:=ihl (fun y hy=>h1 y (by simp[hy])) (fun y hy=>h2 y (by simp[hy]));simp;omega
   rw[ZP,qqo]at h;have:=this e.args h (fun _ h=>h);omega
def jA (p:Problem):Bool :=
 !(decide (20<p.vars.length)||decide (20<p.hard.length)||decide (20<p.soft.length)||decide (20<p.dists.length)||decide (20<p.groups.length)) &&
 p.hard.all (z7 · 0)&&p.soft.all (z7 · 0)&&p.dists.all (fun d=>decide (d.weights.length<=20))&&p.groups.all (fun g=>decide (g.length<=20))
end Go.Proofs.YtkpkjbchlabaaaaGreatDoor
end
section
namespace Go.Proofs.YtkpkjbchlabaaaaGreatDoor
open Go Go.Abs
def GG (g:Nat):AV:=match g with
 | 0=>.rptr [.sl 1 (qbZ.map zZ) .none]
 | _=>.any
section
section
variable (G:Nat->AV)
theorem has325 (l:List Str)(s:Str)(hl:Fits l):Pure Tryz.prog G 310 [.sl 1 (l.map zZ) .none,.str s] (.bool (l.any (· == s))):=by
 refine Pure.vc qe Tryz.func310 rfl (by kernel_rfl) ?_;simp;refine qy.intro (fun n env U=>∃ i,i<=l.length/\n=l.length-i/\env 0=.sl 1 (l.map zZ) .none/\env 1=.str s/\env 5=.int .i64 i/\U=⟨[],[]⟩/\l.any (· == s)=(l.drop i).any (· == s)) l.length ⟨0,by simp⟩ ?_;rintro n env U ⟨i,hi,rfl,h0,h1,h5,rfl,hf⟩
 cases hv:l[i]? with
 | some v=>
  obtain⟨hc,hv'⟩:=qqc.1 hv;rw[zA hv]at hf;by_cases he:v=s
  . subst he;simp[h0,h1,h5,hc,hv',hf]
  . have he':(v==s)=false:=(by simpa using he);simp[h0,h1,h5,hc,hv',he];refine⟨_,by omega,i+1,by omega,rfl,wr (by omega) (by omega),?_⟩;rw[hf,qst,he',qsv]
 | none=>
  have hc:¬ i<l.length:=by simp at hv;omega
  have hd:l.drop i=[]:=by simp;omega
  have hz:∀ x∈l,¬ x=s:=by
   intro x hx e;have:l.any (· == s)=true:=qqF.2 ⟨x,hx,by simp[e]⟩;rw[hf,hd]at this;cases this
  simp[h0,h1,h5,hc];exact hz
theorem qeu (l:List Str)(s:Str)(hl:Fits l):Pure Tryz.prog G 268 [.sl 1 (l.map zZ) .none,.str s] (.bool (l.any (· == s))):=by
 refine Pure.vc qe Tryz.func268 rfl (by kernel_rfl) ?_;simp;refine qy.intro (fun n env U=>∃ i,i<=l.length/\n=l.length-i/\env 0=.sl 1 (l.map zZ) .none/\env 1=.str s/\env 5=.int .i64 i/\U=⟨[],[]⟩/\l.any (· == s)=(l.drop i).any (· == s)) l.length ⟨0,by simp⟩ ?_;rintro n env U ⟨i,hi,rfl,h0,h1,h5,rfl,hf⟩
 cases hv:l[i]? with
 | some v=>
  obtain⟨hc,hv'⟩:=qqc.1 hv;rw[zA hv]at hf;by_cases he:v=s
  . subst he;simp[h0,h1,h5,hc,hv',hf]
  . have he':(v==s)=false:=(by simpa using he);simp[h0,h1,h5,hc,hv',he];refine⟨_,by omega,i+1,by omega,rfl,wr (by omega) (by omega),?_⟩;rw[hf,qst,he',qsv]
 | none=>
  have hc:¬ i<l.length:=by simp at hv;omega
  have hd:l.drop i=[]:=by simp;omega
  have hz:∀ x∈l,¬ x=s:=by
   intro x hx e;have:l.any (· == s)=true:=qqF.2 ⟨x,hx,by simp[e]⟩;rw[hf,hd]at this;cases this
  simp[h0,h1,h5,hc];exact hz
theorem qlu (l:List Str)(s:Str)(hl:Fits l):Pure Tryz.prog G 300 [.sl 1 (l.map zZ) .none,.str s] (.int .i64 (zk (fun v=>s==v) l 0)):=by
 refine Pure.vc qe Tryz.func300 rfl (by kernel_rfl) ?_;simp;refine qy.intro (fun n env U=>∃ i,i<=l.length/\n=l.length-i/\env 0=.sl 1 (l.map zZ) .none/\env 1=.str s/\env 7=.int .i64 l.length/\env 8=.int .i64 i/\U=⟨[],[]⟩/\zk (fun v=>s==v) l 0=zk (fun v=>s==v) (l.drop i) i) l.length ⟨0,by simp⟩ ?_;rintro n env U ⟨i,hi,rfl,h0,h1,h7,h8,rfl,hf⟩
 cases hv:l[i]? with
 | some v=>
  obtain⟨hc,hv'⟩:=qqc.1 hv;rw[zA hv]at hf;by_cases he:s=v
  . subst he;simp[h0,h1,h7,h8,hc,hv',hf,zk]
  . have he':(s==v)=false:=(by simpa using he);simp[h0,h1,h7,h8,hc,hv',he];refine⟨_,by omega,i+1,by omega,rfl,wr (by omega) (by omega),?_⟩;rw[hf,zk,he'];simp
 | none=>
  have hc:¬ i<l.length:=by simp at hv;omega
  have hd:l.drop i=[]:=by simp;omega
  simp[h0,h1,h7,h8,hc,hf,hd,zk]
theorem Qz (l:List Str)(s:Str)(hl:Fits l):Pure Tryz.prog G 248 [.sl 1 (l.map zZ) .none,.str s] (.bool (l.any (fun v=>s==v))):=by
 refine Pure.vc qe Tryz.func248 rfl (by kernel_rfl) ?_;simp;refine qb.call (qlu G l s hl) (by simp) ?_;simp
theorem qls (l:List Int)(s:Int)(hl:Fits l):Pure Tryz.prog G 299 [.sl 1 (l.map qt) .none,.int .i64 s] (.int .i64 (zk (fun v=>s==v) l 0)):=by
 refine Pure.vc qe Tryz.func299 rfl (by kernel_rfl) ?_;simp;refine qy.intro (fun n env U=>∃ i,i<=l.length/\n=l.length-i/\env 0=.sl 1 (l.map qt) .none/\env 1=.int .i64 s/\env 7=.int .i64 l.length/\env 8=.int .i64 i/\U=⟨[],[]⟩/\zk (fun v=>s==v) l 0=zk (fun v=>s==v) (l.drop i) i) l.length ⟨0,by simp⟩ ?_;rintro n env U ⟨i,hi,rfl,h0,h1,h7,h8,rfl,hf⟩
 cases hv:l[i]? with
 | some v=>
  obtain⟨hc,hv'⟩:=qqc.1 hv;rw[zA hv]at hf;by_cases he:s=v
  . subst he;simp[h0,h1,h7,h8,hc,hv',hf,zk]
  . have he':(s==v)=false:=(by simpa using he);simp[h0,h1,h7,h8,hc,hv',he];refine⟨_,by omega,i+1,by omega,rfl,wr (by omega) (by omega),?_⟩;rw[hf,zk,he'];simp
 | none=>
  have hc:¬ i<l.length:=by simp at hv;omega
  have hd:l.drop i=[]:=by simp;omega
  simp[h0,h1,h7,h8,hc,hf,hd,zk]
theorem qc3 (l:List Int)(s:Int)(hl:Fits l):Pure Tryz.prog G 247 [.sl 1 (l.map qt) .none,.int .i64 s] (.bool (l.any (fun v=>s==v))):=by
 refine Pure.vc qe Tryz.func247 rfl (by kernel_rfl) ?_;simp;refine qb.call (qls G l s hl) (by simp) ?_;simp
theorem qcU (l:List Var)(s:Str)(hl:Fits l):Pure Tryz.prog G 94 [.sl 4 (l.map qA) .none,.str s] (.int .i64 (zk (fun v=>v.name==s) l 0)):=by
 refine Pure.vc qe Tryz.func94 rfl (by kernel_rfl) ?_;simp;refine qy.intro (fun n env U=>∃ i,i<=l.length/\n=l.length-i/\env 0=.sl 4 (l.map qA) .none/\env 1=.str s/\env 5=.int .i64 i/\U=⟨[],[]⟩/\zk (fun v=>v.name==s) l 0=zk (fun v=>v.name==s) (l.drop i) i) l.length ⟨0,by simp⟩ ?_;rintro n env U ⟨i,hi,rfl,h0,h1,h5,rfl,hf⟩
 cases hv:l[i]? with
 | some v=>
  obtain⟨hc,hv'⟩:=qqc.1 hv;rw[zA hv]at hf;by_cases he:v.name=s
  . subst he;simp[h0,h1,h5,hc,hv',hf,zk]
  . have he':(v.name==s)=false:=(by simpa using he);simp[h0,h1,h5,hc,hv',he];refine⟨_,by omega,i+1,by omega,rfl,wr (by omega) (by omega),?_⟩;rw[hf,zk,he'];simp
 | none=>
  have hc:¬ i<l.length:=by simp at hv;omega
  have hd:l.drop i=[]:=by simp;omega
  simp[h0,h1,h5,hc,hf,hd,zk]
end
end
theorem Z7 (G:Nat->AV)(l:List Var)(p:Var->Bool)(f:FuncId)(first cap:List AV)(hl:Fits l)(h1:qv first=true)(h2:qv cap=true)
 (hp:∀ v∈l,Pure Tryz.prog G f (first++[.agg (qA v)]++cap) (.bool (p v))):Pure Tryz.prog G 182 [.sl 4 (l.map qA) .none,.fn f first cap] (.int .i64 (zk p l 0)):=by
 refine Pure.vc qe Tryz.func182 rfl (by kernel_rfl) ?_;simp;refine qy.intro (fun n env U=>∃ i,i<=l.length/\n=l.length-i/\env 0=.sl 4 (l.map qA) .none/\env 1=.fn f first cap/\env 7=.int .i64 l.length/\env 8=.int .i64 i/\U=⟨[],[]⟩/\zk p l 0=zk p (l.drop i) i) l.length ⟨0,by simp⟩ ?_;rintro n env U ⟨i,hi,rfl,h0,h1',h7,h8,rfl,hf⟩
 cases hv:l[i]? with
 | some v=>
  obtain⟨hc,hv'⟩:=qqc.1 hv;rw[zA hv]at hf;simp[h0,h1',h7,h8,hc,hv',hf];refine qb.call (r:=.bool (p v)) (by simpa using hp v (qqd hv)) (by simp[yd,h1,h2]) ?_;simp[h0,h1',h7,h8,zk];refine⟨fun e=>by simp[e],fun e=>⟨_,by omega,i+1,by omega,rfl,wr (by omega) (by omega),by simp[hf,zk,e]⟩⟩
 | none=>
  have hc:¬ i<l.length:=by simp at hv;omega
  have hd:l.drop i=[]:=by simp;omega
  simp[h0,h1',h7,h8,hc,hf,hd,zk]
theorem vL (G:Nat->AV)(l:List Var)(p:Var->Bool)(f:FuncId)(first cap:List AV)(hl:Fits l)(h1:qv first=true)(h2:qv cap=true)
 (hp:∀ v∈l,Pure Tryz.prog G f (first++[.agg (qA v)]++cap) (.bool (p v))):Pure Tryz.prog G 127 [.sl 4 (l.map qA) .none,.fn f first cap] (.bool (l.any p)):=by
 refine Pure.vc qe Tryz.func127 rfl (by kernel_rfl) ?_;simp;refine qb.call (Z7 G l p f first cap hl h1 h2 hp) (by simp[h1,h2]) ?_;simp
theorem Vn (G:Nat->AV)(l:List Dist)(p:Dist->Bool)(f:FuncId)(first cap:List AV)(hl:Fits l)(h1:qv first=true)(h2:qv cap=true)
 (hp:∀ v∈l,Pure Tryz.prog G f (first++[.agg (zH v)]++cap) (.bool (p v))):Pure Tryz.prog G 187 [.sl 2 (l.map zH) .none,.fn f first cap] (.int .i64 (zk p l 0)):=by
 refine Pure.vc qe Tryz.func187 rfl (by kernel_rfl) ?_;simp;refine qy.intro (fun n env U=>∃ i,i<=l.length/\n=l.length-i/\env 0=.sl 2 (l.map zH) .none/\env 1=.fn f first cap/\env 7=.int .i64 l.length/\env 8=.int .i64 i/\U=⟨[],[]⟩/\zk p l 0=zk p (l.drop i) i) l.length ⟨0,by simp⟩ ?_;rintro n env U ⟨i,hi,rfl,h0,h1',h7,h8,rfl,hf⟩
 cases hv:l[i]? with
 | some v=>
  obtain⟨hc,hv'⟩:=qqc.1 hv;rw[zA hv]at hf;simp[h0,h1',h7,h8,hc,hv',hf];refine qb.call (r:=.bool (p v)) (by simpa using hp v (qqd hv)) (by simp[yd,h1,h2]) ?_;simp[h0,h1',h7,h8,zk];refine⟨fun e=>by simp[e],fun e=>⟨_,by omega,i+1,by omega,rfl,wr (by omega) (by omega),by simp[hf,zk,e]⟩⟩
 | none=>
  have hc:¬ i<l.length:=by simp at hv;omega
  have hd:l.drop i=[]:=by simp;omega
  simp[h0,h1',h7,h8,hc,hf,hd,zk]
theorem Jv (G:Nat->AV)(l:List Dist)(p:Dist->Bool)(f:FuncId)(first cap:List AV)(hl:Fits l)(h1:qv first=true)(h2:qv cap=true)
 (hp:∀ v∈l,Pure Tryz.prog G f (first++[.agg (zH v)]++cap) (.bool (p v))):Pure Tryz.prog G 135 [.sl 2 (l.map zH) .none,.fn f first cap] (.bool (l.any p)):=by
 refine Pure.vc qe Tryz.func135 rfl (by kernel_rfl) ?_;simp;refine qb.call (Vn G l p f first cap hl h1 h2 hp) (by simp[h1,h2]) ?_;simp
theorem qbf (G:Nat->AV)(l:List Str)(p:Str->Bool)(f:FuncId)(first cap:List AV)(hl:Fits l)(h1:qv first=true)(h2:qv cap=true)
 (hp:∀ v∈l,Pure Tryz.prog G f (first++[.str v]++cap) (.bool (p v))):Pure Tryz.prog G 186 [.sl 1 (l.map zZ) .none,.fn f first cap] (.int .i64 (zk p l 0)):=by
 refine Pure.vc qe Tryz.func186 rfl (by kernel_rfl) ?_;simp;refine qy.intro (fun n env U=>∃ i,i<=l.length/\n=l.length-i/\env 0=.sl 1 (l.map zZ) .none/\env 1=.fn f first cap/\env 7=.int .i64 l.length/\env 8=.int .i64 i/\U=⟨[],[]⟩/\zk p l 0=zk p (l.drop i) i) l.length ⟨0,by simp⟩ ?_;rintro n env U ⟨i,hi,rfl,h0,h1',h7,h8,rfl,hf⟩
 cases hv:l[i]? with
 | some v=>
  obtain⟨hc,hv'⟩:=qqc.1 hv;rw[zA hv]at hf;simp[h0,h1',h7,h8,hc,hv',hf];refine qb.call (r:=.bool (p v)) (by simpa using hp v (qqd hv)) (by simp[yd,h1,h2]) ?_;simp[h0,h1',h7,h8,zk];refine⟨fun e=>by simp[e],fun e=>⟨_,by omega,i+1,by omega,rfl,wr (by omega) (by omega),by simp[hf,zk,e]⟩⟩
 | none=>
  have hc:¬ i<l.length:=by simp at hv;omega
  have hd:l.drop i=[]:=by simp;omega
  simp[h0,h1',h7,h8,hc,hf,hd,zk]
theorem Y9 (G:Nat->AV)(l:List Str)(p:Str->Bool)(f:FuncId)(first cap:List AV)(hl:Fits l)(h1:qv first=true)(h2:qv cap=true)
 (hp:∀ v∈l,Pure Tryz.prog G f (first++[.str v]++cap) (.bool (p v))):Pure Tryz.prog G 132 [.sl 1 (l.map zZ) .none,.fn f first cap] (.bool (l.any p)):=by
 refine Pure.vc qe Tryz.func132 rfl (by kernel_rfl) ?_;simp;refine qb.call (qbf G l p f first cap hl h1 h2 hp) (by simp[h1,h2]) ?_;simp
theorem vG (G:Nat->AV)(l:List Weight)(p:Weight->Bool)(f:FuncId)(first cap:List AV)(hl:Fits l)(h1:qv first=true)(h2:qv cap=true)
 (hp:∀ v∈l,Pure Tryz.prog G f (first++[.agg (qC v)]++cap) (.bool (p v))):Pure Tryz.prog G 237 [.sl 4 (l.map qC) .none,.fn f first cap] (.int .i64 (zk p l 0)):=by
 refine Pure.vc qe Tryz.func237 rfl (by kernel_rfl) ?_;simp;refine qy.intro (fun n env U=>∃ i,i<=l.length/\n=l.length-i/\env 0=.sl 4 (l.map qC) .none/\env 1=.fn f first cap/\env 7=.int .i64 l.length/\env 8=.int .i64 i/\U=⟨[],[]⟩/\zk p l 0=zk p (l.drop i) i) l.length ⟨0,by simp⟩ ?_;rintro n env U ⟨i,hi,rfl,h0,h1',h7,h8,rfl,hf⟩
 cases hv:l[i]? with
 | some v=>
  obtain⟨hc,hv'⟩:=qqc.1 hv;rw[zA hv]at hf;simp[h0,h1',h7,h8,hc,hv',hf];refine qb.call (r:=.bool (p v)) (by simpa using hp v (qqd hv)) (by simp[yd,h1,h2]) ?_;simp[h0,h1',h7,h8,zk];refine⟨fun e=>by simp[e],fun e=>⟨_,by omega,i+1,by omega,rfl,wr (by omega) (by omega),by simp[hf,zk,e]⟩⟩
 | none=>
  have hc:¬ i<l.length:=by simp at hv;omega
  have hd:l.drop i=[]:=by simp;omega
  simp[h0,h1',h7,h8,hc,hf,hd,zk]
theorem Zd (G:Nat->AV)(l:List Weight)(p:Weight->Bool)(f:FuncId)(first cap:List AV)(hl:Fits l)(h1:qv first=true)(h2:qv cap=true)
 (hp:∀ v∈l,Pure Tryz.prog G f (first++[.agg (qC v)]++cap) (.bool (p v))):Pure Tryz.prog G 188 [.sl 4 (l.map qC) .none,.fn f first cap] (.bool (l.any p)):=by
 refine Pure.vc qe Tryz.func188 rfl (by kernel_rfl) ?_;simp;refine qb.call (vG G l p f first cap hl h1 h2 hp) (by simp[h1,h2]) ?_;simp
section
section
variable (G:Nat->AV)
theorem Vh (n:Int):Pure Tryz.prog G 295 [.int .i32 n] (.bool (kz n)):=by
 refine Pure.vc qe Tryz.func295 rfl (by kernel_rfl) ?_;by_cases h1:97<=n<;>by_cases h2:n<=122<;>simp[kz,h1,h2]
theorem qlW (n:Int):Pure Tryz.prog G 324 [.int .i32 n] (.bool (Jb n)):=by
 refine Pure.vc qe Tryz.func324 rfl (by kernel_rfl) ?_;by_cases h1:48<=n<;>by_cases h2:n<=57<;>simp[Jb,h1,h2]
theorem qdM (n:Int):Pure Tryz.prog G 263 [.int .u8 n] (.bool (kz n)):=by
 refine Pure.vc qe Tryz.func263 rfl (by kernel_rfl) ?_;by_cases h1:97<=n<;>by_cases h2:n<=122<;>simp[kz,h1,h2]
theorem qlX (n:Int):Pure Tryz.prog G 312 [.int .u8 n] (.bool (Jb n)):=by
 refine Pure.vc qe Tryz.func312 rfl (by kernel_rfl) ?_;by_cases h1:48<=n<;>by_cases h2:n<=57<;>simp[Jb,h1,h2]
theorem ZB (n:Int):Pure Tryz.prog G 296 [.int .i32 n] (.bool (kc n)):=by
 refine Pure.vc qe Tryz.func296 rfl (by kernel_rfl) ?_;simp;refine qb.call (Vh G n) rfl ?_;cases hl:kz n
 . simp;refine qb.call (qlW G n) rfl ?_;cases hd:Jb n
   . by_cases h1:65<=n<;>by_cases h2:n<=90<;>by_cases h3:n=95<;>simp[kc,hl,hd,h1,h2,h3]
   . simp[kc,hl,hd]
 . simp[kc,hl]
theorem qlr (n:Int):Pure Tryz.prog G 265 [.int .u8 n] (.bool (kc n)):=by
 refine Pure.vc qe Tryz.func265 rfl (by kernel_rfl) ?_;simp;refine qb.call (qdM G n) rfl ?_;cases hl:kz n
 . simp;refine qb.call (qlX G n) rfl ?_;cases hd:Jb n
   . by_cases h1:65<=n<;>by_cases h2:n<=90<;>by_cases h3:n=95<;>simp[kc,hl,hd,h1,h2,h3]
   . simp[kc,hl,hd]
 . simp[kc,hl]
end
end
section
section
variable (G:Nat->AV)
theorem dec_lo {s:Str}{pos:Nat}(h:pos<s.length)(hl:(s[pos]).toNat<128):Utf8.decode ⟨s.toArray⟩ pos=((s[pos]).toNat,1):=by
 have:=Go.decode_ascii ⟨s.toArray⟩ pos (by simpa[ByteArray.size] using h) hl;exact this
theorem dec_hi {s:Str}{pos:Nat}(h:pos<s.length)(hl:128<=(s[pos]).toNat):128<=(Utf8.decode ⟨s.toArray⟩ pos).1:=by
 have:=Go.decode_high ⟨s.toArray⟩ pos (by simpa[ByteArray.size] using h) hl;exact this.1
theorem qbe {n:Int}(h:128<=n):kc n=false:=by
 simp[kc,kz,Jb];omega
theorem QG {s:Str}{c:UInt8}(h:c∈s)(hc:Q2 c=false):Qc s=false:=by
 cases s with
 | nil=>cases h
 | cons a r=>
  have:(a::r).all Q2=false:=by
   rw[qrq];intro e;rw[qqo.1 e c h]at hc;cases hc
  simp only[Qc,this,qsY]
theorem qeY {c:UInt8}{r:Str}(h:kz c.toNat=false):Qc (c::r)=false:=by simp[Qc,h]
theorem qnN (s:Str):Pure Tryz.prog G 242 [.str s] (.bool (Qc s)):=by
 refine Pure.vc qe Tryz.func242 rfl (by kernel_rfl) ?_;simp;refine qy.intro (fun n env U=>∃ pos,pos<=s.length/\n=s.length-pos/\env 0=.str s/\env 6=.iter 0/\U=⟨[.siter s pos],[]⟩/\(∀ c∈s.take pos,Q2 c=true)/\(0<pos->∀ c r,s=c::r->kz c.toNat=true)) s.length ⟨0,by simp⟩ ?_;rintro n env U ⟨pos,hp,rfl,h0,h6,rfl,hall,hlow⟩;by_cases hlt:pos<s.length
 . have hmem:s[pos]∈s:=qrQ hlt;by_cases hc:(s[pos]).toNat<128
   . have hd:=dec_lo hlt hc;have htake:s.take (pos+1)=s.take pos++[s[pos]]:=(by rw[qqH,qqe hlt];rfl);have more:Q2 s[pos]=true->∀ c∈s.take (pos+1),Q2 c=true:=by
      intro hi c hcm;rw[htake,qqA]at hcm;rcases hcm with hcm|hcm
      . exact hall c hcm
      . rw[qqQ.1 hcm];exact hi
     rcases qrm pos with rfl|hpos
     . simp[h0,h6,Vc,hlt,hd];refine qb.call (Vh G _) rfl ?_;cases hl:kz (s[0].toNat:Int)
       . cases s with
         | nil=>simp at hlt
         | cons c r=>simpa using qeY hl
       . simp;refine qb.call (ZB G _) rfl ?_;cases hi:kc (s[0].toNat:Int)
         . simpa using QG hmem hi
         . simp[h0,h6];refine⟨_,by omega,1,by omega,rfl,rfl,more hi,fun _ c r e=>by subst e;exact hl⟩
     . have hne:¬ pos=0:=(by omega);simp[h0,h6,Vc,hlt,hd,hne];refine qb.call (ZB G _) rfl ?_;cases hi:kc (s[pos].toNat:Int)
       . simpa using QG hmem hi
       . simp[h0,h6];refine⟨_,by omega,pos+1,by omega,rfl,rfl,more hi,fun _=>hlow hpos⟩
   . have hd:=dec_hi hlt (by omega);have hi:=qbe (n:=((Utf8.decode ⟨s.toArray⟩ pos).1:Int)) (by omega);have hl:kz ((Utf8.decode ⟨s.toArray⟩ pos).1:Int)=false:=by
      simp only[kc,qs9]at hi;exact hi.1.1.1
     have hb:=QG hmem (qbe (n:=(s[pos].toNat:Int)) (by omega));rcases qrm pos with rfl|hpos
     . simp[h0,h6,Vc,hlt];refine qb.call (Vh G _) rfl ?_;simpa[hl] using hb
     . have hne:¬ pos=0:=(by omega);simp[h0,h6,Vc,hlt,hne];refine qb.call (ZB G _) rfl ?_;simpa[hi] using hb
 . have he:pos=s.length:=(by omega);subst he
   cases s with
   | nil=>simp[h0,h6,Vc,Qc]
   | cons c r=>
    have h1:Qc (c::r)=true:=by
     simp only[Qc,qqi];exact⟨hlow (by simp) c r rfl,qqo.2 fun x hx=>hall x (by simpa using hx)⟩
    simp[h0,h6,Vc,h1]
end
end
end Go.Proofs.YtkpkjbchlabaaaaGreatDoor
end
section
namespace Go.Proofs.YtkpkjbchlabaaaaGreatDoor
open Go Go.Abs Go.RowKit
theorem qmd (s:ByteArray)(c:Int)(w:World) :
 Calls Tryz.prog 325 #[.string s,.int .u8 c] w fun e w'=>e=.returned (.int .i64 (Lib.indexByte s.data.toList c.toNat.toUInt8))/\w'=w:=by
 have t3:=Tryz.underlying3;have t5:=Tryz.underlying5;have t9:=Tryz.underlying9;have a3:∀ w,(isAgg 3).run Tryz.prog w=.ok false w:=run_isAgg_plain t3 rfl;have a5:∀ w,(isAgg 5).run Tryz.prog w=.ok false w:=run_isAgg_plain t5 rfl;have a9:∀ w,(isAgg 9).run Tryz.prog w=.ok false w:=run_isAgg_plain t9 rfl
 go_enter Tryz.func325,Tryz.ntmps325
 go_wp2
 rw[run_callFunc_extern Tryz.func333 (by kernel_rfl) (by kernel_rfl) (by kernel_rfl) (e:=Extern.BytealgIndexByte.indexByte) (by kernel_rfl),Lib.run_indexByteString];simp only[Result.andThen];rw[Oper.upon_value]
 go_wp2
 go_ret
 exact⟨rfl,rfl⟩
theorem qbg (G:Nat->AV)(s:Str)(c:Int):Pure Tryz.prog G 325 [.str s,.int .u8 c] (.int .i64 (Lib.indexByte s c.toNat.toUInt8)):=by
 refine⟨by kernel_rfl,fun w0 ro vs hg hro hvs=>?_⟩;simp only[qh,qg]at hvs;obtain⟨v,vr,e1,rfl,v2,vr2,rfl,rfl,rfl⟩:=hvs;have:vs = #[.string ⟨s.toArray⟩,.int .u8 c]:=by rw[<- qr8 (xs:=vs),e1]
 subst this;refine (qmd _ _ _).mono ?_;rintro e w' ⟨rfl,rfl⟩;exact⟨_,ro,rfl,.refl _ _,fun _ _ _ h=>h,hro,fun _ _ _ h _=>h,by simp[qg]⟩
end Go.Proofs.YtkpkjbchlabaaaaGreatDoor
end
section
namespace Go.Proofs.YtkpkjbchlabaaaaGreatDoor
open Go Go.Abs
theorem qle (s:Str):qbZ.any (fun v=>s==v)=qbZ.contains s:=by
 rw[List.any_beq]
theorem qh0 (s:Str):qbZ.any (fun v=>v==s)=qbZ.contains s:=by
 rw[List.any_beq']
theorem qo9 (s:Str):Pure Tryz.prog GG 243 [.str s] (.bool (qbZ.contains s)):=by
 refine Pure.vc qe Tryz.func243 rfl (by kernel_rfl) ?_;simp[GG];refine qb.call (Qz GG qbZ s (by decide)) (by simp) ?_;rw[qle];simp
theorem vF (s:Str):Pure Tryz.prog GG 179 [.str s] (.bool (zQ s)):=by
 refine Pure.vc qe Tryz.func179 rfl (by kernel_rfl) ?_;simp;refine qb.call (qnN GG s) rfl ?_;cases h1:Qc s
 . simp[zQ,h1]
 . by_cases h2:s.length<=16
   . have h2':(s.length:Int)<=16:=(by omega);simp[h2'];refine qb.call (qo9 s) rfl ?_;simp[zQ,h1,h2]
   . have h2':¬ (s.length:Int)<=16:=(by omega);simp[zQ,h1,h2,h2']
theorem qcK:Pure Tryz.prog GG 311 [] (.sl 1 (qbZ.map zZ) .none):=by
 refine Pure.vc qe Tryz.func311 rfl (by kernel_rfl) ?_;simp[qk,qu,qbZ]
theorem qo8 (s:Str):Pure Tryz.prog GG 264 [.str s] (.bool (qbZ.contains s)):=by
 refine Pure.vc qe Tryz.func264 rfl (by kernel_rfl) ?_;simp;refine qb.call qcK rfl ?_;refine qb.call (has325 GG qbZ s (by decide)) (by simp) ?_;rw[qh0];simp
theorem vE (s:Str)(hs:Fits s):Pure Tryz.prog GG 199 [.str s] (.bool (zQ s)):=by
 refine Pure.vc qe Tryz.func199 rfl (by kernel_rfl) ?_
 cases s with
 | nil=>simp[zQ,Qc]
 | cons c r=>
  by_cases h16:(c::r).length<=16
  . have h16':¬ (16:Int)<(r.length:Int)+1:=(by simp at h16;omega);simp[h16'];refine qb.call (qdM GG c.toNat) rfl ?_;cases hl:kz (c.toNat:Int)
    . simp[zQ,Qc,hl]
    . simp;refine qb.call (qo8 (c::r)) rfl ?_;cases hk:qbZ.contains (c::r)
      . simp;refine qy.intro (fun n env U=>∃ i,i<=(c::r).length/\n=(c::r).length-i/\env 0=.str (c::r)/\env 3=.int .i64 i/\U=⟨[],[]⟩/\∀ x∈(c::r).take i,Q2 x=true) (c::r).length ⟨0,by simp⟩ ?_;rintro n env U ⟨i,hi,rfl,h0,h3,rfl,hall⟩
        cases hv:(c::r)[i]? with
        | some v=>
         obtain⟨hc,hv'⟩:=qqc.1 hv;have htake:(c::r).take (i+1)=(c::r).take i++[v]:=(by rw[qqH,hv];rfl);have hc1:(i:Int)<r.length+1:=(by simp at hc;omega);simp[h0,h3,hc1,hv,hv'];refine qb.call (qlr GG v.toNat) rfl ?_;cases hin:kc (v.toNat:Int)
         . have:=QG (qqd hv) (show Q2 v=false from hin);simp[zQ,this]
         . simp[h0,h3];refine⟨_,by simp at hc;omega,i+1,by simp at hc;omega,rfl,wr (by omega) (by simp at hc hs;omega),?_⟩;intro x hx;rw[htake,qqA]at hx;rcases hx with hx|hx
           . exact hall x hx
           . rw[qqQ.1 hx];exact hin
        | none=>
         have he:i=(c::r).length:=(by simp at hv hi;simp;omega);subst he;have h1:Qc (c::r)=true:=by
          simp only[Qc,qqi];exact⟨hl,qqo.2 fun x hx=>hall x (by simpa using hx)⟩
         have hn:zQ (c::r)=true:=(by simp only[zQ,h1,hk,decide_eq_true h16];rfl);simp[h0,h3,hn]
      . have hn:zQ (c::r)=false:=(by simp only[zQ,hk,qtT,qsY]);simp[hn]
  . have h16':(16:Int)<(r.length:Int)+1:=(by simp at h16;omega);have:zQ (c::r)=false:=by
     have:decide ((c::r).length<=16)=false:=by simpa using h16
     simp only[zQ,this,qsY,qrV]
    simp[h16',this]
theorem Qk {s:Str}:Lib.indexByte s 91=if s.contains 91=true then ((jD s).length:Int) else -1:=by
 unfold jD
 induction s with
 | nil=>simp[Lib.indexByte]
 | cons c r ih=>
  by_cases hc:c=91
  . subst hc;simp[Lib.indexByte]
  . have h1:(c==91)=false:=(by simpa using hc);have h2:¬ (91:UInt8)=c:=fun e=>hc e.symm
    simp only[Lib.indexByte,h1,qqy,if_false,ih,List.contains_cons];have h3:((91:UInt8)==c)=false:=(by simpa using h2);have h4:(c != 91)=true:=(by simpa using hc);rw[h3,qsv,qtb,if_pos h4];by_cases h5:r.contains 91=true
    . rw[if_pos h5,if_pos h5];have:¬ (((r.takeWhile (· != 91)).length:Int) == -1)=true:=by simp
      rw[if_neg this];simp
    . rw[if_neg h5,if_neg h5];simp
theorem qeq (G:Nat->AV)(s:Str):Pure Tryz.prog G 297 [.str s,.str [91]] (.int .i64 (Lib.indexByte s 91)):=by
 refine Pure.vc qe Tryz.func297 rfl (by kernel_rfl) ?_;by_cases h : [91]=s
 . subst h;simp[Lib.indexByte]
 . simp[h];refine qb.call (qbg G s 91) rfl ?_;simp
theorem cut262 (G:Nat->AV)(s:Str)(hs:Fits s)(h:s.contains 91=true):Pure Tryz.prog G 244 [.str s,.str [91]] (.tup [.str (jD s),.str (J8 s),.bool true]):=by
 refine Pure.vc qe Tryz.func244 rfl (by kernel_rfl) ?_;simp;refine qb.call (qeq G s) rfl ?_;have e:=qnu h;have hl:s.length=(jD s).length+1+(J8 s).length:=by
  have:=congrArg List.length e;rw[qqg,qqs]at this;omega
 have hlt:(jD s).length<s.length:=by omega
 have t1:s.take (jD s).length=jD s:=by
  conv=>lhs;arg 2;rw[e]
  simp
 have t2:s.drop ((jD s).length+1)=J8 s:=by
  conv=>lhs;arg 2;rw[e]
  simp
 rw[Qk,if_pos h];have hw:IntKind.i64.wrap (((jD s).length:Int)+1)=(jD s).length+1:=wr (by omega) (by omega);have h1:((jD s).length:Int)<=s.length:=by omega
 have h2:((jD s).length:Int)+1<=s.length:=by omega
 have h3:(0:Int)<=(jD s).length+1:=by omega
 have h4:(((jD s).length:Int)+1).toNat=(jD s).length+1:=by omega
 have h5:(jD s).length<=s.length:=by omega
 simp[zq,zU,hw,h1,h2,h3,h4,h5,t1,t2]
theorem qpH (G:Nat->AV)(s:Str)(hs:Fits s)(h:s.contains 91=false):Pure Tryz.prog G 244 [.str s,.str [91]] (.tup [.str s,.str [],.bool false]):=by
 refine Pure.vc qe Tryz.func244 rfl (by kernel_rfl) ?_;simp;refine qb.call (qeq G s) rfl ?_;rw[Qk,if_neg (by rw[h];decide)];simp
theorem qiP (G:Nat->AV)(s:Str)(hs:Fits s)(h:s.contains 91=true):Pure Tryz.prog G 180 [.str s,.str [91]] (.tup [.str (jD s),.str (J8 s),.bool true]):=by
 refine Pure.vc qe Tryz.func180 rfl (by kernel_rfl) ?_;simp;refine qb.call (cut262 G s hs h) rfl ?_;simp
theorem qc2 (G:Nat->AV)(s:Str)(hs:Fits s)(h:s.contains 91=false):Pure Tryz.prog G 180 [.str s,.str [91]] (.tup [.str s,.str [],.bool false]):=by
 refine Pure.vc qe Tryz.func180 rfl (by kernel_rfl) ?_;simp;refine qb.call (qpH G s hs h) rfl ?_;simp
theorem qke (i:Nat)(h:i<9):Pure Tryz.prog GG 335 [.int .i64 i] (.str [UInt8.ofNat (48+i)]):=by
 refine Pure.vc qe Tryz.func335 rfl (by kernel_rfl) ?_;have hw:IntKind.i64.wrap ((i:Int)+1)=(i:Int)+1:=wr (by omega) (by omega);have h10:(i:Int)<10:=by omega
 have h11:i<10:=by omega
 have h36:(i:Int)+1<=36:=by omega
 have h37:(0:Int)<=(i:Int)+1:=by omega
 have h38:(i:Int)<=(i:Int)+1:=by omega
 simp[h10,h11,hw,zq,zU,h36,h37,h38];have:i=0\/i=1\/i=2\/i=3\/i=4\/i=5\/i=6\/i=7\/i=8:=by omega
 rcases this with rfl|rfl|rfl|rfl|rfl|rfl|rfl|rfl|rfl<;>rfl
theorem itoa9 (i:Nat)(h:i<9):Pure Tryz.prog GG 245 [.int .i64 i] (.str [UInt8.ofNat (48+i)]):=by
 refine Pure.vc qe Tryz.func245 rfl (by kernel_rfl) ?_;simp;refine qb.call (r:=.str [UInt8.ofNat (48+i)]) ?_ rfl ?_
 . refine Pure.vc qe Tryz.func298 rfl (by kernel_rfl) ?_;simp;refine qb.call (r:=.str [UInt8.ofNat (48+i)]) ?_ rfl ?_
   . refine Pure.vc qe Tryz.func329 rfl (by kernel_rfl) ?_;have h1:(0:Int)<=i:=(by omega);have h2:(i:Int)<100:=(by omega);have h3:i<100:=(by omega);simp[h1,h2,h3];exact qb.call (qke i h) rfl (by simp)
   . simp
 . simp
theorem qo7 (i:Nat)(h:i<8):Pure Tryz.prog GG 245 [.int .i64 i] (.str [UInt8.ofNat (48+i)]):=itoa9 i (by omega)
theorem ZJ (a:Str)(i:Nat)(hi:i<8)(ha:a.length<=1000):Pure Tryz.prog GG 181 [.str a,.int .i64 i] (.str (zW a i)):=by
 refine Pure.vc qe Tryz.func181 rfl (by kernel_rfl) ?_;have h1:a.length+1<=4611686018427387904:=by omega
 have h2:a.length+(1+1)<=4611686018427387904:=by omega
 have h3:a.length+(1+(1+1))<=4611686018427387904:=by omega
 have h4:a.length+1+1<=4611686018427387904:=by omega
 have h5:a.length+1+1+1<=4611686018427387904:=by omega
 simp[h1];refine qb.call (qo7 i hi) rfl ?_;simp[h2,h3,h4,h5,zW]
theorem wF {s:Str}(h:zQ s=true):s.length<=16:=by
 simp only[zQ,qqi,decide_eq_true_eq]at h;exact h.1.2
theorem qlT {s:Str}{i:Nat}(hi:i<8)(hn:zQ (jD s)=true)(h:s=zW (jD s) i):(yI s).isSome=true:=by
 rw[wL (a:=jD s) (i:=i) ⟨hi,hn,h⟩];rfl
theorem qlU {s:Str}(h:∀ i,i<8->s≠zW (jD s) i):yI s=none:=by
 rw[yu];rintro a i hi;have:=hi.has.2.1;exact h i hi.1 (by rw[this];exact hi.2.2)
theorem qbA {s:Str}(h:zQ (jD s)=false):yI s=none:=by
 rw[yu];rintro a i hi;have:=hi.has.2.1;rw[this,hi.2.1]at h;cases h
theorem qk4 (s:Str)(hs:Fits s):Pure Tryz.prog GG 125 [.str s] (.bool (yX s)):=by
 refine Pure.vc qe Tryz.func125 rfl (by kernel_rfl) ?_;simp;refine qb.call (vF s) rfl ?_;cases hn:zQ s
 . simp;by_cases hc:s.contains 91=true
   . refine qb.call (qiP GG s hs hc) rfl ?_;simp;refine qb.call (vF (jD s)) rfl ?_;cases hh:zQ (jD s)
     . simp[yX,hn,qbA hh]
     . simp;refine qy.intro (fun n env U=>∃ i:Nat,i<=8/\n=8-i/\env 0=.str s/\env 3=.str (jD s)/\env 22=.int .i64 i/\U=⟨[],[]⟩/\∀ j,j<i->s≠zW (jD s) j) 8 ⟨0,by simp⟩ ?_;rintro n env U ⟨i,hi,rfl,h0,h3,h22,rfl,hall⟩;by_cases h8:i<8
       . have h8':(i:Int)<8:=(by omega);simp[h0,h3,h22,h8'];refine qb.call (ZJ (jD s) i h8 (by have:=wF hh;omega)) rfl ?_;by_cases he:s=zW (jD s) i
         . have hv:yX s=true:=(by simp[yX,qlT h8 hh he]);rw[<- he];simp[h0,hv]
         . simp[h0,h3,h22,he];refine⟨_,by omega,i+1,by omega,rfl,wr (by omega) (by omega),?_⟩;intro j hj e;rcases qrd.1 hj with hj|rfl
           . exact hall j hj e
           . exact he e
       . have h8':¬ (i:Int)<8:=(by omega);have hv:yX s=false:=by
          have:yI s=none:=qlU fun j hj=>hall j (by omega)
          simp[yX,hn,this]
         simp[h0,h3,h22,h8',hv]
   . have hc':s.contains 91=false:=(by simpa using hc);refine qb.call (qc2 GG s hs hc') rfl ?_;simp[yX,hn,YD hc']
 . simp[yX,hn]
theorem qin:∀ (i:Nat),i<8->Pure Tryz.prog GG 200 [.int .i64 i] (.str [UInt8.ofNat (48+i)]):=by
 have key:∀ (i:Nat),i<8->IntKind.i64.wrap (-(i:Int)) = -i/\(-(i:Int)).tmod 10 = -i/\IntKind.i64.wrap (48+(i:Int))=48+i/\IntKind.u8.wrap (48+(i:Int))=48+i/\IntKind.i64.wrap (-((i:Int) / 10))=0/\(48+(i:Int)).toNat=48+i:=by decide
 intro i hi;obtain⟨k1,k2,k3,k4,k5,k6⟩:=key i hi;refine Pure.vc qe Tryz.func200 rfl (by kernel_rfl) ?_;simp;have below:Pure Tryz.prog GG 266 [.int .i64 i] (.int .i64 (-i)):=by
  refine Pure.vc qe Tryz.func266 rfl (by kernel_rfl) ?_;by_cases h0:i=0
  . subst h0;simp
  . have:0<i:=by omega
    simp[this,k1]
 refine qb.call below rfl ?_;refine qy.intro (fun n env U=>n=1/\env 0=.int .i64 i/\env 3=.str []/\env 4=.int .i64 (-i)/\U=⟨[],[]⟩) 1 ⟨rfl,by simp⟩ ?_;rintro n env U ⟨rfl,h0,h3,h4,rfl⟩;simp[h0,h3,h4,k2,k3,k4,k5,k6,qk,qu,yK,bytesOf]
theorem ZI (a:Str)(i:Nat)(hi:i<8)(ha:a.length<=1000):Pure Tryz.prog GG 153 [.str a,.int .i64 i] (.str (zW a i)):=by
 refine Pure.vc qe Tryz.func153 rfl (by kernel_rfl) ?_;have h1:a.length+1<=4611686018427387904:=by omega
 have h2:a.length+(1+1)<=4611686018427387904:=by omega
 have h3:a.length+(1+(1+1))<=4611686018427387904:=by omega
 have h4:a.length+1+1<=4611686018427387904:=by omega
 have h5:a.length+1+1+1<=4611686018427387904:=by omega
 simp[h1];refine qb.call (qin i hi) rfl ?_;simp[h2,h3,h4,h5,zW]
noncomputable def Vz (s:Str):AV:=match yI s with
 | some (a,i)=>.tup [.str a,.int .i64 i,.bool true]
 | none=>.tup [.str [],.int .i64 0,.bool false]
theorem Za {s a:Str}{i:Nat}(h:jh s a i):Vz s=.tup [.str a,.int .i64 i,.bool true]:=by simp[Vz,wL h]
theorem wK {s:Str}(h:yI s=none):Vz s=.tup [.str [],.int .i64 0,.bool false]:=by simp[Vz,h]
theorem u8_of {c:UInt8}(h1:48<=c.toNat)(h2:c.toNat<56):UInt8.ofNat (48+(c.toNat-48))=c:=by
 have:48+(c.toNat-48)=c.toNat:=by omega
 rw[this];simp
theorem qba {s t:Str}{c:UInt8}(hn:zQ t=true)(h1:48<=c.toNat)(h2:c.toNat<56)(h:s=t++[91,c,93]):jh s t (c.toNat-48) :=
 ⟨by omega,hn,by rw[h,zW,u8_of h1 h2]⟩
theorem qbz {s a:Str}{i:Nat}(h:jh s a i):s=a++[91,UInt8.ofNat (48+i),93]/\(UInt8.ofNat (48+i)).toNat=48+i/\i<8:=by
 refine⟨h.2.2,?_,h.1⟩;have:=h.1;simp;omega
theorem Wv (s:Str)(hs:Fits s):Pure Tryz.prog GG 250 [.str s] (Vz s):=by
 refine Pure.vc qe Tryz.func250 rfl (by kernel_rfl) ?_;simp;cases hc:s.contains 91
 . refine qb.call (qc2 GG s hs hc) rfl ?_;rw[wK (YD hc)];simp
 . refine qb.call (qiP GG s hs hc) rfl ?_;simp;refine qb.call (vF (jD s)) rfl ?_;cases hn:zQ (jD s)
   . rw[wK (qbA hn)];simp
   . have no:(∀ c,J8 s=[c,93]->¬ (48<=c.toNat/\c.toNat<56))->Vz s=.tup [.str [],.int .i64 0,.bool false]:=by
      intro h;refine wK (yu.2 fun a i hi=>?_);obtain⟨e1,e2,e3⟩:=qbz hi;exact h _ hi.has.2.2 ⟨by omega,by omega⟩
     cases ht:J8 s with
     | nil=>rw[no (by simp[ht])];simp
     | cons c r1=>
      cases r1 with
      | nil=>rw[no (by simp[ht])];simp
      | cons d r2=>
       cases r2 with
       | cons e r3=>
        have hl:¬ ((r3.length:Int)+1+1+1=2):=(by omega);rw[no (by simp[ht])];simp[hl]
       | nil=>
        by_cases hd:d=93
        . subst hd;by_cases h1:48<=c.toNat
          . have h1':¬ (c.toNat:Int)<48:=(by omega);by_cases h2:c.toNat<56
            . have h2':¬ (56:Int)<=c.toNat:=(by omega);have e:jh s (jD s) (c.toNat-48):=qba hn h1 h2 (by have:=qnu hc;rw[ht]at this;exact this);rw[Za e];have w1:IntKind.u8.wrap ((c.toNat:Int)-48)=c.toNat-48:=(by simp[IntKind.wrap,IntKind.bits,IntKind.signed];omega);have w2:IntKind.i64.wrap ((c.toNat:Int)-48)=c.toNat-48:=wr (by omega) (by omega);have w3:((c.toNat:Int)-48)=((c.toNat-48:Nat):Int):=(by omega);simp[h1',h2',yK,w1,w2];omega
            . have h2':(56:Int)<=c.toNat:=(by omega);rw[no (fun c' e=>by rw[ht]at e;cases e;omega)];simp[h1',h2']
          . have h1':(c.toNat:Int)<48:=(by omega);rw[no (fun c' e=>by rw[ht]at e;cases e;omega)];simp[h1']
        . have hd':¬ (d.toNat:Int)=93:=by
           intro e;exact hd (UInt8.toNat_inj.1 (by simp;omega))
          rw[no (fun c' e=>by rw[ht]at e;cases e;exact absurd rfl hd)];simp[hd']
theorem qlm (s:Str)(hs:Fits s):Pure Tryz.prog GG 192 [.str s] (.bool (yX s)):=by
 refine Pure.vc qe Tryz.func192 rfl (by kernel_rfl) ?_;simp
 cases he:yI s with
 | some p=>
  obtain⟨a,i⟩:=p;refine qb.call (by have:=Wv s hs;rw[Za (yW.1 he)]at this;exact this) rfl ?_;simp[yX,he]
 | none=>
  refine qb.call (by have:=Wv s hs;rw[wK he]at this;exact this) rfl ?_;simp;refine qb.call (vF s) rfl ?_;simp[yX,he]
theorem last3 {s:Str}(h:3<=s.length):∃ t x y z,s=t++[x,y,z]:=by
 refine⟨s.take (s.length-3),s[s.length-3]'(by omega),s[s.length-2]'(by omega),s[s.length-1]'(by omega),?_⟩;have e:s.drop (s.length-3)=[s[s.length-3]'(by omega),s[s.length-2]'(by omega),s[s.length-1]'(by omega)]:=by
  rw[qqu (by omega),qqu (by omega),qqu (by omega),List.drop_eq_nil_of_le (by omega)];simp only[List.cons.injEq,and_true,true_and];exact⟨by congr 1;omega,by congr 1;omega⟩
 rw[<- e,qq8]
theorem qf4 {s:Str}(h:s.length<4):yI s=none:=by
 rw[yu];intro a i hi;have:=Vf hi.2.1;have:=qqt.2 this;rw[hi.2.2]at h;simp at h;omega
theorem qdI (s:Str)(hs:Fits s):Pure Tryz.prog GG 330 [.str s] (Vz s):=by
 refine Pure.vc qe Tryz.func330 rfl (by kernel_rfl) ?_;by_cases h4:s.length<4
 . have h4':(s.length:Int)<4:=(by omega);rw[wK (qf4 h4)];simp[h4']
 . obtain⟨t,x,y,z,rfl⟩:=last3 (s:=s) (by omega);have hl:(t++[x,y,z]).length=t.length+3:=(by simp);rw[Fits,hl]at hs;rw[hl]at h4;have no:¬ (x=91/\z=93/\48<=y.toNat/\y.toNat<56/\zQ t=true)->Vz (t++[x,y,z])=.tup [.str [],.int .i64 0,.bool false]:=by
    intro h;refine wK (yu.2 fun a i hi=>h ?_);obtain⟨e1,e2,e3⟩:=qbz hi;obtain⟨e4,e5⟩:=List.append_inj' e1 rfl;cases e5;subst e4;exact⟨rfl,rfl,by omega,by omega,hi.2.1⟩
   have h4':¬ (t.length:Int)+3<4:=(by omega);have w1:IntKind.i64.wrap ((t.length:Int)+3-1)=((t.length+2:Nat):Int):=(by rw[wr (by omega) (by omega)];omega);have w2:IntKind.i64.wrap ((t.length:Int)+3-2)=((t.length+1:Nat):Int):=(by rw[wr (by omega) (by omega)];omega);have w3:IntKind.i64.wrap (t.length:Int)=t.length:=wr (by omega) (by omega);have w4:IntKind.i64.wrap ((t.length:Int)+3-3)=t.length:=(by rw[wr (by omega) (by omega)];omega);have g1:(t++[x,y,z])[t.length+2]?=some z:=(by simp);have g2:(t++[x,y,z])[t.length+1]?=some y:=(by simp);have g3:(t++[x,y,z])[t.length]?=some x:=(by simp);have g4:(t++[x,y,z]).take t.length=t:=(by simp);have n1:((t.length:Int)+2).toNat=t.length+2:=(by omega);have n2:((t.length:Int)+1).toNat=t.length+1:=(by omega);have p1:(0:Int)<=(t.length:Int)+2:=(by omega);have p2:(0:Int)<=(t.length:Int)+1:=(by omega);have hle:t.length<=t.length+3:=(by omega);have hn210:=vE t (show t.length<_ by omega);have yes:x=91->z=93->48<=y.toNat->y.toNat<56->zQ t=true->Vz (t++[x,y,z])=.tup [.str t,.int .i64 ((y.toNat:Int)-48),.bool true]:=by
    rintro rfl rfl h1 h2 h3;rw[Za (qba h3 h1 h2 rfl)];congr 4;omega
   generalize hS:t++[x,y,z]=S at *;generalize t.length=T at *;have q1:S[T+2]'(by omega)=z:=(qqc.1 g1).2;have q2:S[T+1]'(by omega)=y:=(qqc.1 g2).2;have q3:S[T]'(by omega)=x:=(qqc.1 g3).2;have le3:(T:Int)<=(T:Int)+3:=(by omega);by_cases hz:z=93
   . by_cases hx:x=91
     . subst hx hz;have wy1:IntKind.i64.wrap (y.toNat:Int)=y.toNat:=(by have:=y.toNat_lt;exact wr (by omega) (by omega));have wy2:IntKind.i64.wrap ((y.toNat:Int)-48)=y.toNat-48:=(by have:=y.toNat_lt;exact wr (by omega) (by omega));by_cases h1:48<=y.toNat
       . by_cases h2:y.toNat<56
         . have h1':¬ (y.toNat:Int)-48<0:=(by omega);have h2':¬ (8:Int)<=(y.toNat:Int)-48:=(by omega);simp[hl,h4',w1,w2,w3,w4,q1,q2,q3,le3,g4,n1,n2,p1,p2,hle,yK,wy1,wy2,h1',h2',zq,zU];refine qb.call hn210 rfl ?_;cases hnt:zQ t
           . rw[no (fun h=>by rw[hnt]at h;cases h.2.2.2.2)];simp
           . rw[yes rfl rfl h1 h2 hnt];simp
         . rw[no (fun h=>h2 h.2.2.2.1)];have h1':¬ (y.toNat:Int)-48<0:=(by omega);have h2':(8:Int)<=(y.toNat:Int)-48:=(by omega);simp[hl,h4',w1,w2,w3,w4,q1,q2,q3,le3,g4,n1,n2,p1,p2,hle,yK,wy1,wy2,h1',h2',zq,zU]
       . rw[no (fun h=>h1 h.2.2.1)];have h1':(y.toNat:Int)-48<0:=(by omega);simp[hl,h4',w1,w2,w3,w4,q1,q2,q3,le3,g4,n1,n2,p1,p2,hle,yK,wy1,wy2,h1',zq,zU]
     . have hx':¬ (x.toNat:Int)=91:=by
        intro e;exact hx (UInt8.toNat_inj.1 (by simp;omega))
       rw[no (fun h=>hx h.1)];subst hz;simp[hl,h4',w1,w2,w3,w4,q1,q2,q3,le3,g4,n1,n2,p1,p2,hx']
   . have hz':¬ (z.toNat:Int)=93:=by
      intro e;exact hz (UInt8.toNat_inj.1 (by simp;omega))
     rw[no (fun h=>hz h.2.1)];simp[hl,h4',w1,w2,w3,w4,q1,q2,q3,le3,g4,n1,n2,p1,p2,hz']
theorem qll (s:Str)(hs:Fits s):Pure Tryz.prog GG 315 [.str s] (.bool (yX s)):=by
 refine Pure.vc qe Tryz.func315 rfl (by kernel_rfl) ?_;simp
 cases he:yI s with
 | some p=>
  obtain⟨a,i⟩:=p;refine qb.call (by have:=qdI s hs;rw[Za (yW.1 he)]at this;exact this) rfl ?_;simp[yX,he]
 | none=>
  refine qb.call (by have:=qdI s hs;rw[wK he]at this;exact this) rfl ?_;simp;refine qb.call (vE s hs) rfl ?_;simp[yX,he]
theorem qk3 (s:Str)(hs:Fits s):Pure Tryz.prog GG 152 [.str s] (.bool (yX s)):=by
 refine Pure.vc qe Tryz.func152 rfl (by kernel_rfl) ?_;simp;refine qb.call (vE s hs) rfl ?_;cases hn:zQ s
 . simp;refine qy.intro (fun n env U=>∃ k:Nat,1<=k/\k<=s.length+1/\n=s.length+1-k/\env 0=.str s/\env 3=.int .i64 k/\U=⟨[],[]⟩/\∀ a i,jh s a i->¬ a.length<k) s.length ⟨1,by simp,by simp,by simp,by simp,by simp,rfl,fun a i hi=>by have:=qqt.2 (Vf hi.2.1);omega⟩ ?_;rintro n env U ⟨k,hk1,hk,rfl,h0,h3,rfl,hall⟩;by_cases hlt:k<s.length
   . have hlt':(k:Int)<s.length:=(by omega);have hle':(k:Int)<=s.length:=(by omega);have hle:k<=s.length:=(by omega);have step:(∀ a i,jh s a i->a.length≠k)->∀ a i,jh s a i->¬ a.length<k+1:=fun h a i hi hl=>by
      rcases qrd.1 hl with h1|h1
      . exact hall a i hi h1
      . exact h a i hi h1
     have at91:∀ a i,jh s a i->a.length=k->s[k]=91/\s.take k=a:=fun a i hi hl=>by
      obtain⟨_,_,rfl⟩:=hi;subst hl;simp[zW]
     have hw:IntKind.i64.wrap ((k:Int)+1)=((k+1:Nat):Int):=(by rw[wr (by omega) (by omega)];omega);by_cases hc:s[k]=91
     . simp[h0,h3,hlt,hc,zq,zU,hle,hle'];refine qb.call (vE (s.take k) (by simp;omega)) rfl ?_;cases ht:zQ (s.take k)
       . simp[h0,h3,hw];refine⟨_,by omega,k+1,by omega,by omega,rfl,rfl,fun a i hi=>Nat.not_lt.1 (step (fun a i hi hl=>?_) a i hi)⟩;have:=(at91 a i hi hl).2;rw[this,hi.2.1]at ht;cases ht
       . simp[h0,h3];refine qy.intro (fun n env U=>∃ i:Nat,i<=8/\n=8-i/\env 0=.str s/\env 3=.int .i64 k/\env 4=.int .i64 i/\U=⟨[],[]⟩/\∀ j,j<i->s≠zW (s.take k) j) 8 ⟨0,by simp[h0,h3]⟩ ?_;rintro n env U ⟨i,hi,rfl,h0,h3,h4,rfl,hin⟩;by_cases h8:i<8
         . have h8':(i:Int)<8:=(by omega);simp[h0,h3,h4,h8',zq,zU,hle,hle'];refine qb.call (ZI (s.take k) i h8 (by have:=wF ht;omega)) rfl ?_;by_cases he:s=zW (s.take k) i
           . have hv:yX s=true:=(by simp[yX,wL (show jh s (s.take k) i from ⟨h8,ht,he⟩)]);rw[<- he];simp[h0,hv]
           . simp[h0,h3,h4,he];refine⟨_,by omega,i+1,by omega,rfl,wr (by omega) (by omega),?_⟩;intro j hj e;rcases qrd.1 hj with hj|rfl
             . exact hin j hj e
             . exact he e
         . have h8':¬ (i:Int)<8:=(by omega);simp[h0,h3,h4,h8',hw];refine⟨_,by omega,k+1,by omega,by omega,rfl,rfl,fun a i hi=>Nat.not_lt.1 (step (fun a i' hi' hl=>?_) a i hi)⟩;have:=(at91 a i' hi' hl).2;exact hin i' (by have:=hi'.1;omega) (by rw[this];exact hi'.2.2)
     . have hc':¬ (s[k].toNat:Int)=91:=by
        intro e;exact hc (UInt8.toNat_inj.1 (by simp;omega))
       simp[h0,h3,hlt,hc',hw];refine⟨_,by omega,k+1,by omega,by omega,rfl,rfl,fun a i hi=>Nat.not_lt.1 (step (fun a i hi hl=>?_) a i hi)⟩;exact hc (at91 a i hi hl).1
   . have hlt':¬ (k:Int)<s.length:=(by omega);have hv:yX s=false:=by
      have:yI s=none:=yu.2 fun a i hi=>hall a i hi (by rw[hi.2.2]at hlt;simp at hlt;omega)
      simp[yX,hn,this]
     simp[h0,h3,hlt,hv]
 . simp[yX,hn]
section
theorem qdP {S:Type}{stp:S->Ex->S×Bool}{s:S}{e:Ex}:QM stp s (pre e)=if (stp s e).2=true then QM stp (stp s e).1 (kx e.args) else ((stp s e).1,false):=by
 rw[jr,QM]
theorem look {hd:List Blk}{c:Nat}(hc:hd.length=c){t:List Blk}{k:Nat}:(hd++t)[c+k]?=t[k]? := by
 subst hc;rw[qql (by omega)];simp
theorem qk7 {tail t:List Blk}{k:Nat}{b:Blk}(h:tail[k]?=some b):(tail++t)[k]?=some b:=by
 rw[qqq (qqc.1 h).1,h]
def Wen (e:Ex):Prop:=∀ x∈pre e,Fits x.args/\Fits x.name
theorem Wen.fits {e:Ex}(h:Wen e):Fits e.args:=(h e (by rw[jr];simp)).1
theorem Wen.nm {e:Ex}(h:Wen e):Fits e.name:=(h e (by rw[jr];simp)).2
theorem Wen.arg {e a:Ex}(h:Wen e)(ha:a∈e.args):Wen a:=fun x hx=>h x (by rw[jr];exact qrJ _ (QX.2 ⟨a,ha,hx⟩))
section
variable {S:Type}{stp:S->Ex->S×Bool}{hd:S->List Blk}{T:S->List (Option Nat)}{c:Nat}{vf:FuncId}{cap:List AV}{m:S->Nat}
def qbV (stp:S->Ex->S×Bool)(hd:S->List Blk)(T:S->List (Option Nat))(vf:FuncId)(cap:List AV)(m:S->Nat):Prop :=
 ∀ s tail e,Wen e->0<m s->qf Tryz.prog GG vf (.agg (qr e)::cap) ⟨hd s++tail,T s⟩ (fun r U'=>r=.bool (stp s e).2/\∃ t,U'=⟨hd (stp s e).1++(tail++t),T (stp s e).1⟩)
theorem qmN (hm:∀ s e,m s<=m (stp s e).1+1):∀ (s:S) (l:List Ex),m s<=m (QM stp s l).1+l.length
 | s,[]=>by simp[QM]
 | s,e::r=>by
  simp only[QM];split
  . have:=hm s e;have:=qmN hm (stp s e).1 r;simp;omega
  . have:=hm s e;simp;omega
theorem qpB (hc:∀ s,(hd s).length=c)(hm:∀ s e,m s<=m (stp s e).1+1)(hv:qbV stp hd T vf cap m):∀ e,Wen e->∀ s tail kb kd,(pre e).length<=m s->tail[kb]?=some (.cells [.fn vf [] cap])->tail[kd]?=some (.cells [.fn 190 [] [.ptr (c+kb) 0,.ptr (c+kd) 0]]) ->
 qf Tryz.prog GG 190 [.agg (qr e),.ptr (c+kb) 0,.ptr (c+kd) 0] ⟨hd s++tail,T s⟩ (fun r U'=>r=.bool (QM stp s (pre e)).2/\∃ t,U'=⟨hd (QM stp s (pre e)).1++(tail++t),T (QM stp s (pre e)).1⟩):=by
 refine Ex.ind fun e ih hwe s tail kb kd hsz hb hd'=>?_
 rw[jr,qqs]at hsz;refine qf.vc qe Tryz.func190 rfl (by kernel_rfl) ?_;have lb:∀ s t,(hd s++(tail++t))[c+kb]?=some (.cells [.fn vf [] cap]):=fun s t=>by rw[look (hc s),qk7 hb]
 have ld:∀ s t,(hd s++(tail++t))[c+kd]?=some (.cells [.fn 190 [] [.ptr (c+kb) 0,.ptr (c+kd) 0]]):=fun s t=>by rw[look (hc s),qk7 hd']
 have lx:∀ s (t:List Blk) (x:Blk) (u:List Blk),(hd s++(tail++(t++x::u)))[c+(tail.length+t.length)]?=some x:=fun s t x u=>by
  rw[look (hc s),qql (by omega),qql (by omega)];simp
 have lx0:∀ s (x:Blk) (u:List Blk),(hd s++(tail++(x::u)))[c+tail.length]?=some x:=fun s x u=>by
  have:=lx s [] x u;simpa using this
 simp[qd,hc,lb,ld,lx0];rw[<- qd e];refine qf.imp (hv s (tail++[.cells (qr e)]) e hwe (by omega)) ?_;rintro r U' ⟨rfl,t,rfl⟩;have e0:hd (stp s e).1++(tail++[Blk.cells (qr e)]++t)=hd (stp s e).1++(tail++(Blk.cells (qr e)::t)):=by simp
 rw[e0];cases hst:(stp s e).2
 . simp[qdP,hst]
 . have hl:=hwe.fits;simp only[qd e];simp[hc,lx0];refine qy.intro (fun n env U=>∃ i s' tl,i<=e.args.length/\n=e.args.length-i/\env 1=.ptr (c+kb) 0/\env 2=.ptr (c+kd) 0/\env 12=.sl 4 (e.args.map qr) .none/\env 13=.int .i64 e.args.length/\env 14=.int .i64 i/\U=⟨hd s'++(tail++tl),T s'⟩/\(kx (e.args.drop i)).length<=m s'/\QM stp s (pre e)=QM stp s' (kx (e.args.drop i))) e.args.length ⟨0,(stp s e).1,_,by simp,by simp,by simp,by simp,by simp,by simp,by simp,rfl,by have:=hm s e;simp;omega,by rw[qdP,hst];simp⟩ ?_;rintro n env U ⟨i,s',tl,hi,rfl,h1,h2,h12,h13,h14,rfl,hsz',hrun⟩
   cases hv':e.args[i]? with
   | none=>
    have hcn:¬ i<e.args.length:=(by simp at hv';omega);have hd0:e.args.drop i=[]:=(by simp;omega);rw[hd0]at hrun;simp[h1,h2,h12,h13,h14,hcn,hrun,QM]
   | some a=>
    obtain⟨hcn,hve⟩:=qqc.1 hv';have hma:=qqd hv';rw[zA hv',yb,Yl]at hrun;rw[zA hv',yb,qqg]at hsz';have hmr:=qmN hm s' (pre a);have set1:∀ (z x:Blk),(hd s'++(tail++(tl++[z]))).set (c+(tail.length+tl.length)) x=hd s'++(tail++(tl++[x])):=fun z x=>by
     rw[qqx,if_neg (by rw[hc];omega),hc,qqx,if_neg (by omega),qqx,if_neg (by omega)];have:c+(tail.length+tl.length)-c-tail.length-tl.length=0:=by omega
     rw[this];rfl
    simp[h1,h2,h12,h13,h14,hcn,hve,qd a,hc,lx,set1,lb,ld];rw[<- qd a];refine qf.imp (ih a hma (hwe.arg hma) s' (tail++(tl++[.cells (qr a)])) kb kd (by omega) (qk7 hb) (qk7 hd')) ?_;rintro r U' ⟨rfl,t',rfl⟩;cases hr:(QM stp s' (pre a)).2
    . rw[hr]at hrun;simp only[qqy,if_false]at hrun;simp[hrun,hr]
    . rw[hr]at hrun;simp only[if_true]at hrun;simp[h1,h2,h12,h13,h14];exact⟨_,by omega,i+1,by omega,rfl,wr (by omega) (by omega),_,⟨⟨_,rfl⟩,rfl⟩,by omega,hrun⟩
theorem qb3 (hc:∀ s,(hd s).length=c)(hm:∀ s e,m s<=m (stp s e).1+1)(hv:qbV stp hd T vf cap m)(e:Ex)(hwe:Wen e)(s:S)(hsz:(pre e).length<=m s)(tail:List Blk) :
 qf Tryz.prog GG 138 [.agg (qr e),.fn vf [] cap] ⟨hd s++tail,T s⟩ (fun r U'=>∃ t,U'=⟨hd (QM stp s (pre e)).1++(tail++t),T (QM stp s (pre e)).1⟩):=by
 refine qf.vc qe Tryz.func138 rfl (by kernel_rfl) ?_;have set2:∀ (x y z w:Blk),(hd s++(tail++[x,y,z])).set (c+(tail.length+(1+1))) w=hd s++(tail++[x,y,w]):=fun x y z w=>by
  rw[qqx,if_neg (by rw[hc];omega),hc,qqx,if_neg (by omega)];have:c+(tail.length+(1+1))-c-tail.length=2:=by omega
  rw[this];rfl
 have l0:∀ (x:Blk) (u:List Blk),(hd s++(tail++(x::u)))[c+tail.length]?=some x:=fun x u=>by
  rw[look (hc s),qql (by omega)];simp
 have l2:∀ (x y z:Blk) (u:List Blk),(hd s++(tail++(x::y::z::u)))[c+(tail.length+(1+1))]?=some z:=fun x y z u=>by
  rw[look (hc s),qql (by omega)];have:tail.length+(1+1)-tail.length=2:=by omega
  rw[this];rfl
 simp[qd e,hc,set2,l0,l2];rw[<- qd e];have k:=qpB hc hm hv e hwe s (tail++[.cells (qr e),.cells [.fn vf [] cap],.cells [.fn 190 [] [.ptr (c+(tail.length+1)) 0,.ptr (c+(tail.length+1)+1) 0]]]) (tail.length+1) (tail.length+1+1) hsz
  (by
    rw[qql (by omega)];have:tail.length+1-tail.length=1:=by omega
    rw[this];rfl)
  (by
    rw[qql (by omega)];have:tail.length+1+1-tail.length=2:=by omega
    rw[this];rfl)
 refine qf.imp k ?_;rintro r U' ⟨_,t,rfl⟩;exact⟨_,by rw[qqI]⟩
end
end
section
theorem YG {α:Type}{R:Nat->α->Prop}:∀ (n:Nat),(∀ i,i<n->∃ y,R i y)->∃ l:List α,l.length=n/\∀ i y,l[i]?=some y->R i y
 | 0,_=>⟨[],rfl,by simp⟩
 | n+1,h=>by
  obtain⟨l,h1,h2⟩:=YG n fun i hi=>h i (by omega)
  obtain⟨y,hy⟩:=h n (by omega);refine⟨l++[y],by simp[h1],fun i z hz=>?_⟩;rw[qqZ]at hz;split at hz
  . exact h2 i z hz
  . rename_i hi;have:i-l.length=0:=by
     rcases qrm (i-l.length) with h0|h0
     . exact h0
     . rw[qqC (by simp;omega)]at hz;cases hz
    rw[this]at hz;cases hz;have:i=n:=by omega
    subst this;exact hy
section
variable {H:Type}{enc:TypeId×Value->H}{w:World}{base:Nat}{held:Bool}
abbrev KMw (w:World):Kn:=Go.Abs.K0 (qcs w)
theorem qh.get {K:Kn}:∀ {l:List AV} {vs:List Value},qh K l vs->vs.length=l.length/\∀ (j:Nat) (a:AV),l[j]?=some a->∃ v,vs[j]?=some v/\qg K a v
 | [],_,h=>by simp only[qh]at h;subst h;simp
 | a::r,_,h=>by
  simp only[qh]at h;obtain⟨v,vr,rfl,h1,h2⟩:=h;obtain⟨k1,k2⟩:=qh.get h2;refine⟨by simp[k1],fun j b hj=>?_⟩
  cases j with
  | zero=>simp at hj;subst hj;exact⟨v,rfl,h1⟩
  | succ j=>simp at hj;exact k2 j b hj
theorem Yq {α:Type}{t e sz:Nat}{en:α->List AV}{good:α->Prop}{X:DataW H->Prop}{n:Nat}(ht:Tryz.prog.underlying t=some (.slice e))(hsz:Tryz.prog.cellsOf e=sz)(hpos:0<sz)
 (hat:∀ y,(en y).all AV.atom=true/\(en y).length=sz)
 (hel:∀ cs x,DataW.trod enc Tryz.prog w base (fun _=>true) held n e cs=some x->X x.1->∃ y,qh (KMw w) (en y) cs/\good y)
 {cs:List Value} {x:DataW H×List MemPlace} (h:DataW.trod enc Tryz.prog w base (fun _=>true) held (n+1) t cs=some x) (hX:∀ E S,x.1=.slice E S->∀ d∈E,X d) :
 ∃ (l:List α) (v:Value),cs=[v]/\qg (KMw w) (.sl sz (l.map en) .none) v/\Fits l/\(∀ y∈l,good y)/\∀ N,(∀ E S,x.1=.slice E S->E.length<=N)->l.length<=N:=by
 rcases DataW.trod_slice ht h with ⟨rfl,rfl⟩|⟨a,len,cap,elems,rest,m,hm,rfl,rfl,hb,hl,hc,hlen,hel',hsp,_⟩
 . exact⟨[],_,rfl,by simp only[qg];exact .inl ⟨⟨none,rfl,.inl rfl⟩,rfl,trivial⟩,by simp,by simp,by simp⟩
 . have hnm:n=m:=(by omega);subst hnm;rw[hsz]at hel' hsp;have one:∀ i,i<len->∃ y,∃ cs',w.cells? base (a.add (i*sz)) sz=some cs'/\qh (KMw w) (en y) cs'/\good y:=by
    intro i hi;have:=hel' i hi;rw[qqe (by omega)]at this;obtain⟨cs',h1,h2⟩:=qrw.1 this;obtain⟨y,h3,h4⟩:=hel cs' _ h2 (hX _ _ rfl _ (List.mem_map_of_mem (qrQ _)));exact⟨y,cs',h1,h3,h4⟩
   by_cases h0:cap=0
   . have hl0:len=0:=(by omega);subst h0 hl0;exact⟨[],_,rfl,by simp only[qg];exact .inl ⟨⟨some a,rfl,.inr trivial⟩,rfl,trivial⟩,by simp,by simp,by simp⟩
   . have spot:a.spot=none:=by
      have rd:∃ cs',w.cells? base (a.add 0) sz=some cs':=by
       by_cases hl0:0<len
       . obtain⟨_,cs',h1,_⟩:=one 0 hl0;rw[qrK]at h1;exact⟨cs',h1⟩
       . obtain⟨hr1,hr2⟩:=hsp rfl;have:=hr2 0 (by omega);rw[qqe (by omega),show len+0=0 by omega,qrK]at this;obtain⟨cs',h1,_⟩:=qrw.1 this;exact⟨cs',h1⟩
      obtain⟨cs',h1⟩:=rd;obtain⟨_,hlen',hc'⟩:=World.cells?_some h1;have:=hc' 0 hpos;rw[qqe (by omega)]at this
      cases hs:a.spot with
      | none=>rfl
      | some s=>
       simp only[Addr.add,if_true]at this;unfold World.cell? at this;rw[hs]at this;split at this<;>simp at this
     obtain⟨b,o,s⟩:=a;simp only at spot;subst spot;obtain⟨l,hl1,hl2⟩:=YG len one;refine⟨l,_,rfl,?_,by rw[Fits,hl1];simp only[maxLen]at hc;omega,fun y hy=>?_,fun N hN=>?_⟩
     . simp only[qg];refine .inr ⟨b,o,cap,by simp[hl1],by simpa[hl1] using hl,qJ.intro b sz _ o fun i r e=>?_,trivial⟩;rw[qqB,qqj]at e;obtain⟨y,hy,rfl⟩:=e;obtain⟨cs',h1,h2,_⟩:=hl2 i y hy;obtain⟨h3,h4⟩:=hat y;obtain⟨_,hlen',hc'⟩:=World.cells?_some h1;obtain⟨g1,g2⟩:=qh.get h2;refine⟨h4,h3,ql.intro b _ _ fun j z hz=>?_⟩;obtain⟨v,hv1,hv2⟩:=g2 j z hz;have hjl:j<sz:=(by rw[<- hlen'];exact (qqc.1 hv1).1);refine⟨v,?_,hv2⟩;have:=hc' j hjl;rw[hv1]at this;show w.cell? ⟨b,o+i*sz+j,none⟩=some v;rw[<- this];congr 1;simp only[Addr.add];by_cases hi0:i*sz=0
       . rw[if_pos hi0];by_cases hj0:j=0
         . rw[if_pos hj0,hi0,hj0];simp
         . rw[if_neg hj0,hi0];simp
       . rw[if_neg hi0];by_cases hj0:j=0
         . rw[if_pos hj0,hj0];simp
         . rw[if_neg hj0]
     . obtain⟨i,hi⟩:=qqN hy;obtain⟨_,_,_,hg⟩:=hl2 i y hi;exact hg
     . have:=hN _ _ rfl;simp only[qqS]at this;omega
theorem wz {α:Type}{t e sz:Nat}{en:α->List AV}{good:α->Prop}{n:Nat}(ht:Tryz.prog.underlying t=some (.slice e))(hsz:Tryz.prog.cellsOf e=sz)(hpos:0<sz)
 (hat:∀ y,(en y).all AV.atom=true/\(en y).length=sz)
 (hel:∀ cs x,DataW.trod enc Tryz.prog w base (fun _=>true) held n e cs=some x->∃ y,qh (KMw w) (en y) cs/\good y)
 {cs:List Value} {x:DataW H×List MemPlace} (h:DataW.trod enc Tryz.prog w base (fun _=>true) held (n+1) t cs=some x) :
 ∃ (l:List α) (v:Value),cs=[v]/\qg (KMw w) (.sl sz (l.map en) .none) v/\Fits l/\∀ y∈l,good y:=by
 obtain⟨l,v,h1,h2,h3,h4,_⟩:=Yq (X:=fun _=>True) ht hsz hpos hat (fun cs x h _=>hel cs x h) h (fun _ _ _ _ _=>trivial);exact⟨l,v,h1,h2,h3,h4⟩
end
end
end Go.Proofs.YtkpkjbchlabaaaaGreatDoor
end
