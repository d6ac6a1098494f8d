/- A part of the proof. -/
import Derived.Test.YtkpkjbchlabaaaaGreatDoorProg
import Derived.KernelRfl
import Derived.Test.YtkpkjbchlabaaaaGreatDoorUa06
import Derived.Laws.RangeAny
import Derived.Shelf.Lay
import Derived.Shelf.Strings.Search1
import Derived.WalkKit
import Derived.ChangeArms
import Derived.DataReads
set_option linter.unusedVariables false
set_option linter.unusedSimpArgs false
set_option maxRecDepth 100000
set_option maxHeartbeats 16000000
set_option linter.defProp false
section
namespace Go.Proofs.YtkpkjbchlabaaaaGreatDoor
open Go Go.Abs
@[simp]theorem D1:Dof Tryz.prog 1=some ⟨1,8,[.nilf],.nilf,.fn,true⟩:=by kernel_rfl
@[simp]theorem D2:Dof Tryz.prog 2=some ⟨1,8,[.int .i64 0],.int .i64 0,.int .i64,true⟩:=by kernel_rfl
@[simp]theorem D3:Dof Tryz.prog 3=some ⟨1,8,[.int .i64 0],.int .i64 0,.int .i64,true⟩:=by kernel_rfl
@[simp]theorem D4:Dof Tryz.prog 4=some ⟨1,1,[.bool false],.bool false,.bool,true⟩:=by kernel_rfl
@[simp]theorem D5:Dof Tryz.prog 5=some ⟨1,1,[.int .u8 0],.int .u8 0,.int .u8,true⟩:=by kernel_rfl
@[simp]theorem D9:Dof Tryz.prog 9=some ⟨1,16,[.str []],.str [],.str,true⟩:=by kernel_rfl
@[simp]theorem D22:Dof Tryz.prog 22=some ⟨1,24,[.sl 0 [] .nil],.sl 0 [] .nil,.sl 61,true⟩:=by kernel_rfl
@[simp]theorem D23:Dof Tryz.prog 23=some ⟨1,24,[.sl 0 [] .nil],.sl 0 [] .nil,.sl 52,true⟩:=by kernel_rfl
@[simp]theorem D24:Dof Tryz.prog 24=some ⟨1,24,[.sl 0 [] .nil],.sl 0 [] .nil,.sl 56,true⟩:=by kernel_rfl
@[simp]theorem D25:Dof Tryz.prog 25=some ⟨1,24,[.sl 0 [] .nil],.sl 0 [] .nil,.sl 28,true⟩:=by kernel_rfl
@[simp]theorem D27:Dof Tryz.prog 27=some ⟨5,120,[.sl 0 [] .nil,.sl 0 [] .nil,.sl 0 [] .nil,.sl 0 [] .nil,.sl 0 [] .nil],.agg [.sl 0 [] .nil,.sl 0 [] .nil,.sl 0 [] .nil,.sl 0 [] .nil,.sl 0 [] .nil],.st [(0,22),(1,23),(2,23),(3,24),(4,25)],true⟩:=by kernel_rfl
@[simp]theorem D28:Dof Tryz.prog 28=some ⟨1,24,[.sl 0 [] .nil],.sl 0 [] .nil,.sl 3,true⟩:=by kernel_rfl
@[simp]theorem D32:Dof Tryz.prog 32=some ⟨1,8,[.int .i64 0],.int .i64 0,.int .i64,true⟩:=by kernel_rfl
@[simp]theorem D41:Dof Tryz.prog 41=some ⟨2,16,[.int .i64 0,.int .i64 0],.agg [.int .i64 0,.int .i64 0],.st [(0,3),(1,3)],true⟩:=by kernel_rfl
@[simp]theorem D45:Dof Tryz.prog 45=some ⟨1,8,[.int .u64 0],.int .u64 0,.int .u64,true⟩:=by kernel_rfl
@[simp]theorem D52:Dof Tryz.prog 52=some ⟨4,56,[.int .i64 0,.int .i64 0,.str [],.sl 0 [] .nil],.agg [.int .i64 0,.int .i64 0,.str [],.sl 0 [] .nil],.st [(0,3),(1,3),(2,9),(3,23)],true⟩:=by kernel_rfl
@[simp]theorem D54:Dof Tryz.prog 54=some ⟨1,24,[.sl 0 [] .nil],.sl 0 [] .nil,.sl 136,true⟩:=by kernel_rfl
@[simp]theorem D56:Dof Tryz.prog 56=some ⟨2,32,[.int .i64 0,.sl 0 [] .nil],.agg [.int .i64 0,.sl 0 [] .nil],.st [(0,3),(1,54)],true⟩:=by kernel_rfl
@[simp]theorem D61:Dof Tryz.prog 61=some ⟨4,40,[.str [],.int .i64 0,.int .i64 0,.int .i64 0],.agg [.str [],.int .i64 0,.int .i64 0,.int .i64 0],.st [(0,9),(1,3),(2,3),(3,3)],true⟩:=by kernel_rfl
@[simp]theorem D62:Dof Tryz.prog 62=some ⟨1,8,[.nilp],.nilp,.ptr 70,true⟩:=by kernel_rfl
@[simp]theorem D65:Dof Tryz.prog 65=some ⟨1,24,[.sl 0 [] .nil],.sl 0 [] .nil,.sl 155,true⟩:=by kernel_rfl
@[simp]theorem D67:Dof Tryz.prog 67=some ⟨1,24,[.sl 0 [] .nil],.agg [.sl 0 [] .nil],.st [(0,65)],true⟩:=by kernel_rfl
@[simp]theorem D68:Dof Tryz.prog 68=some ⟨1,8,[.nilf],.nilf,.fn,true⟩:=by kernel_rfl
@[simp]theorem D70:Dof Tryz.prog 70=some ⟨11,216,[.sl 0 [] .nil,.sl 0 [] .nil,.sl 0 [] .nil,.sl 0 [] .nil,.sl 0 [] .nil,.sl 0 [] .nil,.sl 0 [] .nil,.sl 0 [] .nil,.int .i64 0,.bool false,.nilf],.agg [.sl 0 [] .nil,.sl 0 [] .nil,.sl 0 [] .nil,.sl 0 [] .nil,.sl 0 [] .nil,.sl 0 [] .nil,.sl 0 [] .nil,.sl 0 [] .nil,.int .i64 0,.bool false,.nilf],.st [(0,27),(5,23),(6,28),(7,67),(8,3),(9,4),(10,68)],true⟩:=by kernel_rfl
@[simp]theorem D88:Dof Tryz.prog 88=some ⟨1,24,[.sl 0 [] .nil],.sl 0 [] .nil,.sl 133,true⟩:=by kernel_rfl
@[simp]theorem D102:Dof Tryz.prog 102=some ⟨2,32,[.sl 0 [] .nil,.int .i64 0],.agg [.sl 0 [] .nil,.int .i64 0],.st [(0,67),(1,3)],true⟩:=by kernel_rfl
@[simp]theorem D103:Dof Tryz.prog 103=some ⟨1,8,[.nilf],.nilf,.fn,true⟩:=by kernel_rfl
@[simp]theorem D106:Dof Tryz.prog 106=some ⟨1,8,[.nilm],.nilm,.map 3 3,true⟩:=by kernel_rfl
@[simp]theorem D115:Dof Tryz.prog 115=some ⟨1,8,[.nilf],.nilf,.fn,true⟩:=by kernel_rfl
@[simp]theorem D117:Dof Tryz.prog 117=some ⟨3,24,[.bool false,.int .u64 0,.int .u64 0],.agg [.bool false,.int .u64 0,.int .u64 0],.st [(0,4),(1,45),(2,45)],true⟩:=by kernel_rfl
@[simp]theorem D123:Dof Tryz.prog 123=some ⟨1,8,[.nilf],.nilf,.fn,true⟩:=by kernel_rfl
@[simp]theorem D127:Dof Tryz.prog 127=some ⟨1,8,[.nilf],.nilf,.fn,true⟩:=by kernel_rfl
@[simp]theorem D129:Dof Tryz.prog 129=some ⟨1,24,[.sl 0 [] .nil],.agg [.sl 0 [] .nil],.st [(0,88)],true⟩:=by kernel_rfl
@[simp]theorem D133:Dof Tryz.prog 133=some ⟨2,24,[.str [],.int .i64 0],.agg [.str [],.int .i64 0],.st [(0,9),(1,3)],true⟩:=by kernel_rfl
@[simp]theorem D136:Dof Tryz.prog 136=some ⟨4,32,[.int .i64 0,.int .i64 0,.int .i64 0,.bool false],.agg [.int .i64 0,.int .i64 0,.int .i64 0,.bool false],.st [(0,3),(1,3),(2,3),(3,4)],true⟩:=by kernel_rfl
@[simp]theorem D147:Dof Tryz.prog 147=some ⟨1,24,[.sl 0 [] .nil],.sl 0 [] .nil,.sl 54,true⟩:=by kernel_rfl
@[simp]theorem D153:Dof Tryz.prog 153=some ⟨2,16,[.int .i64 0,.int .i64 0],.agg [.int .i64 0,.int .i64 0],.arr 2 3,true⟩:=by kernel_rfl
@[simp]theorem D155:Dof Tryz.prog 155=some ⟨3,24,[.int .i64 0,.int .i64 0,.int .i64 0],.agg [.int .i64 0,.int .i64 0,.int .i64 0],.st [(0,3),(1,3),(2,3)],true⟩:=by kernel_rfl
@[simp]theorem D156:Dof Tryz.prog 156=some ⟨1,8,[.nilf],.nilf,.fn,true⟩:=by kernel_rfl
@[simp]theorem D159:Dof Tryz.prog 159=some ⟨1,8,[.nilm],.nilm,.map 161 3,true⟩:=by kernel_rfl
@[simp]theorem D161:Dof Tryz.prog 161=some ⟨2,16,[.int .i64 0,.int .i64 0],.agg [.int .i64 0,.int .i64 0],.st [(0,3),(1,3)],true⟩:=by kernel_rfl
@[simp]theorem D176:Dof Tryz.prog 176=some ⟨1,24,[.sl 0 [] .nil],.sl 0 [] .nil,.sl 127,true⟩:=by kernel_rfl
@[simp]theorem D182:Dof Tryz.prog 182=some ⟨1,24,[.sl 0 [] .nil],.sl 0 [] .nil,.sl 9,true⟩:=by kernel_rfl
@[simp]theorem D188:Dof Tryz.prog 188=some ⟨1,24,[.sl 0 [] .nil],.sl 0 [] .nil,.sl 4,true⟩:=by kernel_rfl
@[simp]theorem D200:Dof Tryz.prog 200=some ⟨5,72,[.int .i64 0,.int .i64 0,.int .i64 0,.sl 0 [] .nil,.sl 0 [] .nil],.agg [.int .i64 0,.int .i64 0,.int .i64 0,.sl 0 [] .nil,.sl 0 [] .nil],.st [(0,3),(1,3),(2,32),(3,182),(4,182)],true⟩:=by kernel_rfl
@[simp]theorem D202:Dof Tryz.prog 202=some ⟨1,8,[.nilp],.nilp,.ptr 212,true⟩:=by kernel_rfl
@[simp]theorem D208:Dof Tryz.prog 208=some ⟨16,128,[.int .i64 0,.int .i64 0,.int .i64 0,.int .i64 0,.int .i64 0,.int .i64 0,.int .i64 0,.int .i64 0,.int .i64 0,.int .i64 0,.int .i64 0,.int .i64 0,.int .i64 0,.int .i64 0,.int .i64 0,.int .i64 0],.agg [.int .i64 0,.int .i64 0,.int .i64 0,.int .i64 0,.int .i64 0,.int .i64 0,.int .i64 0,.int .i64 0,.int .i64 0,.int .i64 0,.int .i64 0,.int .i64 0,.int .i64 0,.int .i64 0,.int .i64 0,.int .i64 0],.arr 16 3,true⟩:=by kernel_rfl
@[simp]theorem D210:Dof Tryz.prog 210=some ⟨1,8,[.nilm],.nilm,.map 9 3,true⟩:=by kernel_rfl
@[simp]theorem D212:Dof Tryz.prog 212=some ⟨8,176,[.sl 0 [] .nil,.sl 0 [] .nil,.sl 0 [] .nil,.sl 0 [] .nil,.sl 0 [] .nil,.sl 0 [] .nil,.sl 0 [] .nil,.nilm],.agg [.sl 0 [] .nil,.sl 0 [] .nil,.sl 0 [] .nil,.sl 0 [] .nil,.sl 0 [] .nil,.sl 0 [] .nil,.sl 0 [] .nil,.nilm],.st [(0,67),(1,27),(6,28),(7,210)],true⟩:=by kernel_rfl
@[simp]theorem D215:Dof Tryz.prog 215=some ⟨3,24,[.int .i64 0,.int .i64 0,.int .i64 0],.agg [.int .i64 0,.int .i64 0,.int .i64 0],.st [(0,3),(1,3),(2,3)],true⟩:=by kernel_rfl
@[simp]theorem D216:Dof Tryz.prog 216=some ⟨1,8,[.nilf],.nilf,.fn,true⟩:=by kernel_rfl
@[simp]theorem D218:Dof Tryz.prog 218=some ⟨1,8,[.nilm],.nilm,.map 155 4,true⟩:=by kernel_rfl
@[simp]theorem D226:Dof Tryz.prog 226=some ⟨1,8,[.int .u64 0],.int .u64 0,.int .u64,true⟩:=by kernel_rfl
@[simp]theorem D232:Dof Tryz.prog 232=some ⟨1,24,[.sl 0 [] .nil],.sl 0 [] .nil,.sl 23,true⟩:=by kernel_rfl
@[simp]theorem D239:Dof Tryz.prog 239=some ⟨1,24,[.sl 0 [] .nil],.sl 0 [] .nil,.sl 5,true⟩:=by kernel_rfl
@[simp]theorem D246:Dof Tryz.prog 246=some ⟨1,24,[.sl 0 [] .nil],.sl 0 [] .nil,.sl 208,true⟩:=by kernel_rfl
@[simp]theorem D256:Dof Tryz.prog 256=some ⟨1,8,[.nilp],.nilp,.ptr 307,true⟩:=by kernel_rfl
@[simp]theorem D258:Dof Tryz.prog 258=some ⟨1,8,[.nilm],.nilm,.map 215 3,true⟩:=by kernel_rfl
@[simp]theorem D260:Dof Tryz.prog 260=some ⟨3,24,[.nilp,.nilf,.nilm],.agg [.nilp,.nilf,.nilm],.st [(0,256),(1,216),(2,258)],true⟩:=by kernel_rfl
@[simp]theorem D282:Dof Tryz.prog 282=some ⟨9,184,[.sl 0 [] .nil,.sl 0 [] .nil,.sl 0 [] .nil,.sl 0 [] .nil,.sl 0 [] .nil,.sl 0 [] .nil,.sl 0 [] .nil,.bool false,.int .i64 0],.agg [.sl 0 [] .nil,.sl 0 [] .nil,.sl 0 [] .nil,.sl 0 [] .nil,.sl 0 [] .nil,.sl 0 [] .nil,.sl 0 [] .nil,.bool false,.int .i64 0],.st [(0,27),(5,23),(6,28),(7,4),(8,3)],true⟩:=by kernel_rfl
@[simp]theorem D286:Dof Tryz.prog 286=some ⟨1,24,[.sl 0 [] .nil],.sl 0 [] .nil,.sl 319,true⟩:=by kernel_rfl
@[simp]theorem D293:Dof Tryz.prog 293=some ⟨1,2,[.int .u16 0],.int .u16 0,.int .u16,true⟩:=by kernel_rfl
@[simp]theorem D305:Dof Tryz.prog 305=some ⟨1,8,[.nilm],.nilm,.map 155 3,true⟩:=by kernel_rfl
@[simp]theorem D307:Dof Tryz.prog 307=some ⟨3,40,[.sl 0 [] .nil,.nilm,.bool false],.agg [.sl 0 [] .nil,.nilm,.bool false],.st [(0,65),(1,305),(2,4)],true⟩:=by kernel_rfl
@[simp]theorem D309:Dof Tryz.prog 309=some ⟨1,8,[.nilm],.nilm,.map 9 4,true⟩:=by kernel_rfl
@[simp]theorem D319:Dof Tryz.prog 319=some ⟨2,16,[.int .i64 0,.int .i64 0],.agg [.int .i64 0,.int .i64 0],.st [(0,3),(1,3)],true⟩:=by kernel_rfl
@[simp]theorem D336:Dof Tryz.prog 336=some ⟨24,24,[.int .u8 0,.int .u8 0,.int .u8 0,.int .u8 0,.int .u8 0,.int .u8 0,.int .u8 0,.int .u8 0,.int .u8 0,.int .u8 0,.int .u8 0,.int .u8 0,.int .u8 0,.int .u8 0,.int .u8 0,.int .u8 0,.int .u8 0,.int .u8 0,.int .u8 0,.int .u8 0,.int .u8 0,.int .u8 0,.int .u8 0,.int .u8 0],.agg [.int .u8 0,.int .u8 0,.int .u8 0,.int .u8 0,.int .u8 0,.int .u8 0,.int .u8 0,.int .u8 0,.int .u8 0,.int .u8 0,.int .u8 0,.int .u8 0,.int .u8 0,.int .u8 0,.int .u8 0,.int .u8 0,.int .u8 0,.int .u8 0,.int .u8 0,.int .u8 0,.int .u8 0,.int .u8 0,.int .u8 0,.int .u8 0],.arr 24 5,true⟩:=by kernel_rfl
abbrev Str:=List UInt8
structure Var where
 name:Str
 width:Int
 mode:Int
 value:Int
structure Weight where
 lo:Int
 hi:Int
 weight:Int
 each:Bool
structure Dist where
 var:Int
 weights:List Weight
inductive Ex where
 | mk (op n:Int) (name:Str) (args:List Ex)
structure Problem where
 vars:List Var
 hard:List Ex
 soft:List Ex
 dists:List Dist
 groups:List (List Int)
structure Signal where
 name:Str
 value:Int
def Ex.op:Ex->Int | .mk o _ _ _=>o
def Ex.n:Ex->Int | .mk _ n _ _=>n
def Ex.name:Ex->Str | .mk _ _ s _=>s
def Ex.args:Ex->List Ex | .mk _ _ _ a=>a
@[simp]theorem Ex.op_mk {o n:Int}{s:Str}{a:List Ex}:(Ex.mk o n s a).op=o:=rfl
@[simp]theorem Ex.n_mk {o n:Int}{s:Str}{a:List Ex}:(Ex.mk o n s a).n=n:=rfl
@[simp]theorem Ex.name_mk {o n:Int}{s:Str}{a:List Ex}:(Ex.mk o n s a).name=s:=rfl
@[simp]theorem Ex.args_mk {o n:Int}{s:Str}{a:List Ex}:(Ex.mk o n s a).args=a:=rfl
@[simp]def qE (v:Var):List AV:=[.str v.name,.int .i64 v.width,.int .i64 v.mode,.int .i64 v.value]
@[simp]def qB (w:Weight):List AV:=[.int .i64 w.lo,.int .i64 w.hi,.int .i64 w.weight,.bool w.each]
@[simp]def zG (d:Dist):List AV:=[.int .i64 d.var,.sl 4 (d.weights.map qB) .none]
@[simp]def qr (n:Int):List AV:=[.int .i64 n]
@[simp]def z0 (s:Str):List AV:=[.str s]
@[simp]def qU (s:Signal):List AV:=[.str s.name,.int .i64 s.value]
mutual
def qq:Ex->List AV
 | .mk o n s a=>[.int .i64 o,.int .i64 n,.str s,.sl 4 (qfs a) .none]
def qfs:List Ex->List (List AV)
 | []=>[]
 | a::r=>qq a::qfs r
end
@[simp]theorem qlk:∀ l,qfs l=l.map qq
 | []=>rfl
 | a::r=>by simp[qfs,qlk r]
theorem qd (e:Ex):qq e=[.int .i64 e.op,.int .i64 e.n,.str e.name,.sl 4 (e.args.map qq) .none]:=by cases e;simp[qq]
@[simp]def zz (l:List Int):List AV:=[.sl 1 (l.map qr) .none]
@[simp]def qG (p:Problem):List AV:=[.sl 4 (p.vars.map qE) .none,.sl 4 (p.hard.map qq) .none,.sl 4 (p.soft.map qq) .none,.sl 2 (p.dists.map zG) .none,.sl 1 (p.groups.map zz) .none]
@[simp]theorem nrVar (l:List Var):zl (l.map qE)=true:=zw (fun x=>by simp) l
@[simp]theorem nrWeight (l:List Weight):zl (l.map qB)=true:=zw (fun x=>by simp) l
@[simp]theorem nrDist (l:List Dist):zl (l.map zG)=true:=zw (fun x=>by simp) l
@[simp]theorem nrInt (l:List Int):zl (l.map qr)=true:=zw (fun x=>by simp) l
@[simp]theorem nrStr (l:List Str):zl (l.map z0)=true:=zw (fun x=>by simp) l
@[simp]theorem nrSignal (l:List Signal):zl (l.map qU)=true:=zw (fun x=>by simp) l
@[simp]theorem nrInts (l:List (List Int)):zl (l.map zz)=true:=zw (fun x=>by simp) l
mutual
theorem nrE':∀ e,qw (qq e)=true
 | .mk o n s a=>by
  have:=nrEs' a;simp[qq,this];simpa using this
theorem nrEs':∀ l,zl (qfs l)=true
 | []=>rfl
 | a::r=>by simp only[qfs,zl,nrE' a,nrEs' r,Bool.and_self]
end
@[simp]theorem nrE (e:Ex):qw (qq e)=true:=nrE' e
@[simp]theorem nrEs (l:List Ex):zl (l.map qq)=true:=zw (fun x=>nrE x) l
theorem qe:Tryz.prog.follows .mixedOrders=true:=by kernel_rfl
abbrev Fits {α:Type}(l:List α):Prop:=l.length<9223372036854775808
def zk {α:Type}(p:α->Bool):List α->Int->Int
 | [],_=>-1
 | v::r,i=>if p v then i else zk p r (i+1)
theorem W7 {α:Type}{p:α->Bool}:∀ {l:List α} {i:Int},0<=i->(0<=zk p l i↔l.any p=true)
 | [],i,_=>by simp[zk]
 | v::r,i,h=>by
  simp only[zk,qrC];split
  . rename_i hp;simp[hp,h]
  . rename_i hp;simp[hp,W7 (l:=r) (i:=i+1) (by omega)]
@[simp]theorem qhX {α:Type}(p:α->Bool)(l:List α):decide (0<=zk p l 0)=l.any p:=by
 rw[qqo,decide_eq_true_iff];exact W7 (by omega)
end Go.Proofs.YtkpkjbchlabaaaaGreatDoor
end
section
namespace Go.Proofs.YtkpkjbchlabaaaaGreatDoor
open Go Go.Abs
def qby:List Str:=[[99,108,97,115,115],[101,120,116,101,110,100,115],[114,97,110,100],[114,97,110,100,99],[115,116,97,116,101],[99,111,110,115,116,114,97,105,110,116],[115,111,102,116],[100,105,115,116],[105,102],[101,108,115,101],[101,97,99,104],[105,110],[115,111,108,118,101],[98,101,102,111,114,101],[105,110,115,105,100,101],[112,114,111,112,101,114,116,121],[115,101,113],[97,110,100],[111,114],[110,111,116],[115,101,116],[104,111,108,100],[112,108,97,105,110],[114,101,112,101,97,116]]
def kj (n:Int):Bool:=decide (97<=n)&&decide (n<=122)
def ZY (n:Int):Bool:=decide (48<=n)&&decide (n<=57)
def yT (n:Int):Bool:=kj n||ZY n||(decide (65<=n)&&decide (n<=90))||decide (n=95)
def QN (c:UInt8):Bool:=yT c.toNat
def vO:Str->Bool
 | []=>false
 | c::r=>kj c.toNat&&(c::r).all QN
def zQ (s:Str):Bool:=vO s&&decide (s.length<=16)&&!qby.contains s
theorem qcc {s:Str}(h:zQ s=true):∀ c∈s,QN c=true:=by
 simp only[zQ,qpC]at h;obtain⟨⟨h,_⟩,_⟩:=h
 cases s with
 | nil=>simp
 | cons c r=>
  simp only[vO,qpC]at h;exact fun x hx=>qpJ.1 h.2 x hx
theorem kH {s:Str}(h:zQ s=true):∀ c∈s,c≠91:=by
 intro c hc e;have:=qcc h c hc;subst e
 revert this
 decide
theorem WT {s:Str}(h:zQ s=true):s≠[]:=by
 rintro rfl;simp[zQ,vO]at h
def zW (a:Str)(i:Nat):Str:=a++[91,UInt8.ofNat (48+i),93]
@[simp]theorem qmT {a:Str}{i:Nat}:(zW a i).length=a.length+3:=by simp[zW]
theorem YQ {a b:Str}{i j:Nat}(hi:i<8)(hj:j<8)(h:zW a i=zW b j):a=b/\i=j:=by
 obtain⟨h1,h2⟩:=List.append_inj' h rfl;refine⟨h1,?_⟩;simp only[List.cons.injEq,true_and,and_true]at h2;have:=congrArg UInt8.toNat h2;simp only[UInt8.toNat_ofNat']at this;omega
def jf (s a:Str)(i:Nat):Prop:=i<8/\zQ a=true/\s=zW a i
theorem jf.unique {s a b:Str}{i j:Nat}(h:jf s a i)(h':jf s b j):a=b/\i=j:=YQ h.1 h'.1 (h.2.2.symm.trans h'.2.2)
open Classical in
noncomputable def yu (s:Str):Option (Str×Nat):=if h:∃ p:Str×Nat,jf s p.1 p.2 then some h.choose else none
theorem wz {s a:Str}{i:Nat}(h:jf s a i):yu s=some (a,i):=by
 have hex:∃ p:Str×Nat,jf s p.1 p.2:=⟨(a,i),h⟩;unfold yu;rw[dif_pos hex];obtain⟨h1,h2⟩:=hex.choose_spec.unique h;rw[<- h1,<- h2]
theorem yK {s a:Str}{i:Nat}:yu s=some (a,i)↔jf s a i:=by
 constructor
 . intro h;unfold yu at h;split at h
   . rename_i hex;have:=hex.choose_spec;rw[Option.some.inj h]at this;exact this
   . cases h
 . exact wz
theorem yf {s:Str}:yu s=none↔∀ a i,¬ jf s a i:=by
 constructor
 . intro h a i hi;rw[wz hi]at h;cases h
 . intro h
   cases e:yu s with
   | none=>rfl
   | some p=>exact absurd (yK.1 (show yu s=some (p.1,p.2) from e)) (h _ _)
noncomputable def yM (s:Str):Bool:=zQ s||(yu s).isSome
def jC (s:Str):Str:=s.takeWhile (· != 91)
def JU (s:Str):Str:=(s.dropWhile (· != 91)).tail
theorem qmW {s:Str}(h:s.contains 91=true):s=jC s++91::JU s:=by
 unfold jC JU
 induction s with
 | nil=>simp at h
 | cons c r ih=>
  by_cases hc:c=91
  . subst hc;simp
  . have:r.contains 91=true:=by
     simp only[List.contains_cons,qrq,beq_iff_eq]at h;rcases h with h|h
     . exact absurd h.symm hc
     . exact h
    have hb:(c != 91)=true:=(by simpa using hc);rw[qsu,List.dropWhile_cons,if_pos hb,if_pos hb,qpU,<- ih this]
theorem qfj {a:Str}{t:Str}(h:∀ c∈a,c≠91):jC (a++91::t)=a:=by
 unfold jC
 induction a with
 | nil=>simp
 | cons c r ih=>
  have hb:(c != 91)=true:=by simpa using h c (by simp)
  rw[qpU,qsu,if_pos hb,ih fun x hx=>h x (by simp[hx])]
theorem qeG {a:Str}{t:Str}(h:∀ c∈a,c≠91):JU (a++91::t)=t:=by
 unfold JU
 induction a with
 | nil=>simp
 | cons c r ih=>
  have hb:(c != 91)=true:=by simpa using h c (by simp)
  rw[qpU,List.dropWhile_cons,if_pos hb,ih fun x hx=>h x (by simp[hx])]
theorem qll {a:Str}{i:Nat}:(zW a i).contains 91=true:=by simp[zW]
theorem jf.has {s a:Str}{i:Nat}(h:jf s a i):s.contains 91=true/\jC s=a/\JU s=[UInt8.ofNat (48+i),93]:=by
 obtain⟨h1,h2,rfl⟩:=h;exact⟨qll,qfj (kH h2),qeG (kH h2)⟩
theorem Yn {s:Str}(h:s.contains 91=false):yu s=none:=by
 rw[yf];intro a i hi;rw[hi.has.1]at h;cases h
def qM {α:Type}(f:α->Int):List α->Int
 | []=>0
 | a::r=>if f a=0 then qM f r else f a
theorem jK {α:Type}{f:α->Int}:∀ {l m:List α},qM f (l++m)=if qM f l=0 then qM f m else qM f l
 | [],m=>by simp[qM]
 | a::r,m=>by
  simp only[qpU,qM];split
  . exact jK
  . rename_i h;simp
theorem zy {α:Type}{f:α->Int}:∀ {l:List α},qM f l=0↔∀ a∈l,f a=0
 | []=>by simp[qM]
 | a::r=>by
  simp only[qM,qp5,forall_eq_or_imp];split
  . rename_i h;simp[h,zy]
  . rename_i h;simp[h]
noncomputable def jt (v:Var):Int :=
 if yM v.name=false then 7
 else if v.width<1\/8<v.width\/v.mode<0\/2<v.mode\/v.value<0\/(2:Int) ^ v.width.toNat<=v.value\/(v.mode≠0/\v.value≠0) then 1
 else 0
def vm (l:List Var)(name:Str):Bool:=l.any fun v=>v.name==name
def vt (l:List Var)(i:Nat):Bool:=match l[i]? with
 | some v=>vm (l.take i) v.name
 | none=>false
def qmU (l:List Var):Bool:=(List.range l.length).any (vt l)
open Classical in
noncomputable def ZV (l:List Var)(name:Str):Bool:=match yu name with
 | some (a,i+1)=>!vm l (zW a i)
 | _=>false
def jV:List Var->Int
 | []=>0
 | v::r=>(if v.mode≠0 then v.width else 0)+jV r
noncomputable def zV (l:List Var):Int :=
 if 16<l.length then 2
 else if qM jt l≠0 then qM jt l
 else if qmU l=true then 8
 else if l.any (fun v=>ZV l v.name)=true then 10
 else if 20<jV l then 2
 else 0
mutual
theorem Ex.ind {p:Ex->Prop}(h:∀ e,(∀ a∈e.args,p a)->p e):∀ e,p e
 | .mk o n s a=>h _ (by simpa using Ex.indL h a)
theorem Ex.indL {p:Ex->Prop}(h:∀ e,(∀ a∈e.args,p a)->p e):∀ (l:List Ex),∀ a∈l,p a
 | [],_,hm=>by cases hm
 | e::r,a,hm=>by
  rcases qp5.1 hm with hm|hm
  . rw[hm];exact Ex.ind h e
  . exact Ex.indL h r a hm
end
mutual
def pre:Ex->List Ex
 | .mk o n s a=>.mk o n s a::kg a
def kg:List Ex->List Ex
 | []=>[]
 | e::r=>pre e++kg r
end
theorem jo (e:Ex):pre e=e::kg e.args:=by cases e;simp[pre]
@[simp]theorem preL_nil:kg []=[]:=by simp[kg]
@[simp]theorem jZ {e:Ex}{r:List Ex}:kg (e::r)=pre e++kg r:=by simp[kg]
theorem wk:∀ {l m:List Ex},kg (l++m)=kg l++kg m
 | [],m=>by simp
 | e::r,m=>by simp[wk (l:=r),qp6]
mutual
def hgt:Ex->Nat
 | .mk _ _ _ a=>Q7 a+1
def Q7:List Ex->Nat
 | []=>0
 | e::r=>max (hgt e) (Q7 r)
end
theorem kl (e:Ex):hgt e=Q7 e.args+1:=by cases e;simp[hgt]
@[simp]theorem qk0:Q7 []=0:=by simp[Q7]
@[simp]theorem QO {e:Ex}{r:List Ex}:Q7 (e::r)=max (hgt e) (Q7 r):=by simp[Q7]
theorem qdV {l:List Ex}{e:Ex}(h:e∈l):hgt e<=Q7 l:=by
 induction l with
 | nil=>cases h
 | cons a r ih=>
  rcases qp5.1 h with rfl|h
  . simp;omega
  . have:=ih h;simp;omega
theorem qhC {e a:Ex}(h:a∈e.args):hgt a<hgt e:=by
 have:=qdV h;rw[kl e];omega
theorem QJ {l:List Ex}{x:Ex}:x∈kg l↔∃ a∈l,x∈pre a:=by
 induction l with
 | nil=>simp
 | cons e r ih=>simp[ih]
def zo (op:Int):Int :=
 if op=1\/op=2\/op=24 then 0
 else if op=3\/op=4\/op=5\/op=6\/op=25 then 1
 else if op=22 then 3
 else if op=23 then -1
 else if op<1\/25<op then -1
 else 2
def qi (e:Ex):Bool :=
 if e.op=23 then decide (e.args.length % 2=1/\3<=e.args.length/\e.args.length<=33)
 else decide ((e.args.length:Int)=zo e.op)
noncomputable def qo (e:Ex):Int :=
 if e.op<1\/25<e.op then 1
 else if (e.op=1/\(e.n<0\/65535<e.n))\/(e.op≠1/\e.n≠0) then 1
 else if (¬ (e.op=2\/e.op=3\/e.op=24)/\e.name≠[])\/qi e=false then 1
 else if (e.op=2/\yM e.name=false)\/((e.op=3\/e.op=24)/\zQ e.name=false) then 7
 else 0
def Ke (e:Ex):Int:=IntKind.i64.wrap (pre e).length
noncomputable def ze (e:Ex):Int :=
 if qM qo (pre e)=0/\(24<hgt e\/400<Ke e) then 2 else qM qo (pre e)
def Y4 (ops:List Int)(out:List Str)(e:Ex):List Str:=if ops.contains e.op&&!out.contains e.name then out++[e.name] else out
def zD (ops:List Int)(e:Ex):List Str:=(pre e).foldl (Y4 ops) []
theorem qlZ {ops:List Int}{out:List Str}{e:Ex}{s:Str}:s∈Y4 ops out e↔s∈out\/(ops.contains e.op=true/\s=e.name):=by
 unfold Y4;by_cases h1:e.op∈ops
 . by_cases h2:e.name∈out
   . simp only[qs4.2 h1,qs4.2 h2,qs9,qsi,qpV,if_false,true_and];constructor
     . exact .inl
     . rintro (h|rfl)
       . exact h
       . exact h2
   . simp[h1,h2]
 . simp[h1]
theorem qaX {ops:List Int}{s:Str}:∀ {l:List Ex} {out:List Str},s∈l.foldl (Y4 ops) out↔s∈out\/∃ e∈l,ops.contains e.op=true/\s=e.name
 | [],out=>by simp
 | e::r,out=>by
  rw[qqe,qaX,qlZ];simp only[qp5,exists_eq_or_imp];constructor
  . rintro ((h|h)|h)
    . exact .inl h
    . exact .inr (.inl h)
    . exact .inr (.inr h)
  . rintro (h|h|h)
    . exact .inl (.inl h)
    . exact .inl (.inr h)
    . exact .inr h
theorem jJ {ops:List Int}{e:Ex}{s:Str}:s∈zD ops e↔∃ x∈pre e,ops.contains x.op=true/\s=x.name:=by
 unfold zD;rw[qaX];simp
def Z4 (e:Ex):Bool:=(pre e).any fun x=>decide (x.op=3\/x.op=24)
def Qh (l:List Var)(e:Ex):Bool:=(pre e).any fun x=>decide (x.op=2)&&!vm l x.name
theorem vM {e:Ex}:decide (0<(zD [3,24] e).length)=Z4 e:=by
 rw[qqo,decide_eq_true_iff,List.length_pos_iff_exists_mem,Z4,qp0];constructor
 . rintro⟨s,hs⟩;obtain⟨x,h1,h2,_⟩:=jJ.1 hs;exact⟨x,h1,by simpa using h2⟩
 . rintro⟨x,h1,h2⟩;exact⟨x.name,jJ.2 ⟨x,h1,by simpa using h2,rfl⟩⟩
theorem vF {l:List Var}{e:Ex}:(zD [2] e).any (fun s=>!vm l s)=Qh l e:=by
 rw[qqo,Qh,qp0,qp0];constructor
 . rintro⟨s,hs,h⟩;obtain⟨x,h1,h2,rfl⟩:=jJ.1 hs;exact⟨x,h1,by simp only[qpC,decide_eq_true_eq];exact⟨by simpa using h2,h⟩⟩
 . rintro⟨x,h1,h2⟩;simp only[qpC,decide_eq_true_eq]at h2;exact⟨x.name,jJ.2 ⟨x,h1,by simpa using h2.1,rfl⟩,h2.2⟩
noncomputable def zh (l:List Var)(e:Ex):Int :=
 if ze e≠0 then ze e else if Z4 e=true then 9 else if Qh l e=true then 7 else 0
def yc (l:List Var)(i:Int):Bool:=decide (0<=i)&&(l[i.toNat]?).any fun v=>v.mode != 0
def zJ (w:Weight):Bool:=decide (w.lo<0)||decide (w.hi<w.lo)||decide (65535<w.hi)||decide (w.weight<0)||decide (1000<w.weight)
def jD (l:List Var)(d:List Dist)(i:Nat):Int:=match d[i]? with
 | some x=>if yc l x.var=false then 1 else if (d.take i).any (fun y=>y.var==x.var)=true then 8 else if 16<x.weights.length then 2 else if x.weights.any zJ=true then 1 else 0
 | none=>0
def j9 (l:List Var)(d:List Dist):Int:=qM (jD l d) (List.range d.length)
def jL (l:List Var)(g:List (List Int)):Prop:=(∀ x∈g,x≠[])/\(∀ i∈g.flatten,yc l i=true)/\g.flatten.Nodup/\∀ i:Nat,i<l.length->yc l i=true->(i:Int)∈g.flatten
open Classical in
noncomputable def zx (l:List Var)(g:List (List Int)):Int:=if jL l g then 0 else 1
noncomputable def qk (p:Problem):Int :=
 if zV p.vars≠0 then zV p.vars
 else if qM (zh p.vars) (p.hard++p.soft)≠0 then qM (zh p.vars) (p.hard++p.soft)
 else if j9 p.vars p.dists≠0 then j9 p.vars p.dists
 else zx p.vars p.groups
def zF (l:List Var)(i:Nat):Int:=match l[i]? with
 | some v=>v.width
 | none=>0
end Go.Proofs.YtkpkjbchlabaaaaGreatDoor
end
section
namespace Go.Abs
open Go Go.RowKit
def qiZ (P:Program)(rs:List ResultVar)(Q:AV->St->Prop)(env:Env)(U:St):Prop :=
 match qdi (Dof P) rs env U with
 | some l=>Q (Ku l) U
 | none=>False
def qbt (P:Program)(rs:List ResultVar)(Q:AV->St->Prop):Exit->Env->St->Prop
 | .ret,env,U=>qiZ P rs Q env U
 | .normal,env,U=>qiZ P rs Q env U
 | _,_,_=>False
attribute [simp] qiZ qbt
section
variable {P:Program}{G:Glo}{U:St}{f:FuncId}{args:List AV}{Q:AV->St->Prop}
theorem qf.vcO {fn : Func} {c : Code} (o : Opts) (hm : P.follows .mixedOrders = true) (hf : P.funcs[f]? = some fn) (hb : fn.body = some c) (hk : (jB fn.ntmps o c && decide (args.length ≤ fn.ntmps) && fn.name != "runtime.NumGoroutine") = true)
 (h:vcC P G o c (Zw args) U (qbt P fn.results.toList Q)):qf P G f args U Q:=by
 simp only[qpC,decide_eq_true_eq,bne_iff_ne,ne_eq]at hk;refine qf.of_body hf hb hk.2 hk.1.2 (AWp.mono (jX hm c hk.1.1 h) fun e env U hq=>?_);have key:qiZ P fn.results.toList Q env U->∃ l,qdi (Dof P) fn.results.toList env U=some l/\Q (Ku l) U:=fun h=>by
  unfold qiZ at h;split at h
  . rename_i l hl;exact⟨l,hl,h⟩
  . exact h.elim
 cases e with
 | ret=>exact⟨.inl rfl,key hq⟩
 | normal=>exact⟨.inr rfl,key hq⟩
 | _=>exact hq.elim
theorem qf.vc {fn : Func} {c : Code} (hm : P.follows .mixedOrders = true) (hf : P.funcs[f]? = some fn) (hb : fn.body = some c) (hk : (jB fn.ntmps o0 c && decide (args.length ≤ fn.ntmps) && fn.name != "runtime.NumGoroutine") = true)
 (h:vcC P G o0 c (Zw args) U (qbt P fn.results.toList Q)):qf P G f args U Q:=qf.vcO o0 hm hf hb hk h
end
end Go.Abs
namespace Go.Proofs.YtkpkjbchlabaaaaGreatDoor
open Go Go.Abs
def Qy {S:Type}(stp:S->Ex->S×Bool):S->List Ex->S×Bool
 | s,[]=>(s,true)
 | s,e::r=>if (stp s e).2=true then Qy stp (stp s e).1 r else ((stp s e).1,false)
theorem J2 {S:Type}{stp:S->Ex->S×Bool}:∀ {s:S} {l m:List Ex},Qy stp s (l++m)=if (Qy stp s l).2=true then Qy stp (Qy stp s l).1 m else Qy stp s l
 | s,[],m=>by simp[Qy]
 | s,e::r,m=>by
  simp only[qpU,Qy];split
  . exact J2
  . simp
theorem J1 {S:Type}{stp:S->Ex->S×Bool}(h:∀ s e,(stp s e).2=true):∀ (s:S) (l:List Ex),Qy stp s l=(l.foldl (fun s e=>(stp s e).1) s,true)
 | s,[]=>rfl
 | s,e::r=>by simp only[Qy,h,if_true,qqe];exact J1 h _ r
theorem KH {f:Ex->Int}:∀ (s:Int) (l:List Ex),(Qy (fun _ e=>(f e,f e==0)) s l).1=if l=[] then s else qM f l
 | s,[]=>rfl
 | s,e::r=>by
  simp only[Qy,qM,beq_iff_eq,reduceCtorEq,if_false];by_cases h:f e=0
  . rw[if_pos h,if_pos h,KH];split
    . rename_i hr;subst hr;simp[qM,h]
    . rfl
  . rw[if_neg h,if_neg h]
theorem qcU {m n:Int}:IntKind.i64.wrap (IntKind.i64.wrap m+n)=IntKind.i64.wrap (m+n):=by
 simp[IntKind.wrap,IntKind.bits,IntKind.signed];omega
theorem Wa {n:Int}:∀ (l:List Ex),l.foldl (fun s _=>IntKind.i64.wrap (s+1)) (IntKind.i64.wrap n)=IntKind.i64.wrap (n+l.length)
 | []=>by simp
 | e::r=>by
  rw[qqe,qcU,Wa r];congr 1;simp;omega
theorem km {l:List Var}{g:List (List Int)}(h : []∈g):¬ jL l g:=fun ⟨h1,_⟩=>h1 _ h rfl
theorem K9 {l:List Var}{g:List (List Int)}{i:Int}(h:i∈g.flatten)(hr:yc l i=false):¬ jL l g:=fun ⟨_,h2,_⟩=>by
 have:=h2 i h;rw[hr]at this;cases this
theorem qfk {l:List Var}{g:List (List Int)}{i:Int}{done rest:List Int}(h:g.flatten=done++i::rest)(hi:i∈done):¬ jL l g:=fun ⟨_,_,h3,_⟩=>by
 rw[h,qq6]at h3;exact h3.2.2 i hi i (by simp) rfl
theorem qck {l:List Var}{g:List (List Int)}{i:Nat}(hi:i<l.length)(hr:yc l i=true)(h:(i:Int)∉g.flatten):¬ jL l g:=fun ⟨_,_,_,h4⟩=>h (h4 i hi hr)
theorem Ze {l:List Var}{i:Int}(h:yc l i=true):0<=i/\i<l.length:=by
 simp only[yc,qpC,decide_eq_true_eq]at h;obtain⟨h0,h1⟩:=h;refine⟨h0,?_⟩;apply Classical.byContradiction;intro hn;rw[qpW (by omega)]at h1;simp at h1
theorem qaP {l:List Var}{g:List (List Int)}(h1:∀ x∈g,x≠[])(h2:∀ i∈g.flatten,0<=i/\i<(l.length:Int)) :
 jL l g↔∀ i:Nat,i<l.length->g.flatten.count (i:Int)=if yc l i=true then 1 else 0:=by
 constructor
 . rintro⟨_,k2,k3,k4⟩ i hi;split
   . rename_i hr;have:=List.nodup_iff_count.1 k3 (i:Int);have:=qsy.2 (k4 i hi hr);omega
   . rename_i hr;apply List.count_eq_zero.2;intro hm;exact hr (k2 _ hm)
 . intro h;have cnt:∀ i∈g.flatten,g.flatten.count i=1/\yc l i=true:=by
    intro i hi;obtain⟨a,b⟩:=h2 i hi;have hc:=h i.toNat (by omega);have e:((i.toNat:Nat):Int)=i:=(by omega);rw[e]at hc;have:=qsy.2 hi;split at hc
    . rename_i hr;exact⟨hc,hr⟩
    . omega
   refine⟨h1,fun i hi=>(cnt i hi).2,?_,?_⟩
   . rw[List.nodup_iff_count];intro i;by_cases hi:i∈g.flatten
     . rw[(cnt i hi).1];exact qpI _
     . rw[List.count_eq_zero.2 hi];omega
   . intro i hi hr;have hc:=h i hi;rw[if_pos hr]at hc;exact qsy.1 (by omega)
end Go.Proofs.YtkpkjbchlabaaaaGreatDoor
namespace Go.Proofs.YtkpkjbchlabaaaaGreatDoor
open Go Go.Abs
mutual
def j4:Ex->Int->Int
 | .mk _ _ _ a,d=>ki a d 1
def ki:List Ex->Int->Int->Int
 | [],_,n=>n
 | x::r,d,n=>if n<100/\d<30 then ki r d (IntKind.i64.wrap (n+j4 x (IntKind.i64.wrap (d+1)))) else n
end
theorem qas (e:Ex)(d:Int):j4 e d=ki e.args d 1:=by cases e;simp[j4]
@[simp]theorem qe1 {d n:Int}:ki [] d n=n:=by simp[ki]
@[simp]theorem Ym {x:Ex}{r:List Ex}{d n:Int}:ki (x::r) d n=if n<100/\d<30 then ki r d (IntKind.i64.wrap (n+j4 x (IntKind.i64.wrap (d+1)))) else n:=by simp[ki]
mutual
def z6:Ex->Nat->Bool
 | .mk o n s a,d=>if 25<d\/(d=0/\60<j4 (.mk o n s a) 0) then false else Q4 a (d+1)
def Q4:List Ex->Nat->Bool
 | [],_=>true
 | x::r,d=>z6 x d&&Q4 r d
end
theorem YW (e:Ex)(d:Nat):z6 e d=if 25<d\/(d=0/\60<j4 e 0) then false else Q4 e.args (d+1):=by cases e;simp[z6]
@[simp]theorem briefL_nil {d:Nat}:Q4 [] d=true:=by simp[Q4]
@[simp]theorem qpb {x:Ex}{r:List Ex}{d:Nat}:Q4 (x::r) d=(z6 x d&&Q4 r d):=by simp[Q4]
theorem ZE {l:List Ex}{d:Nat}:Q4 l d=l.all fun x=>z6 x d:=by
 induction l with
 | nil=>simp
 | cons x r ih=>simp[ih]
theorem qbh:∀ (e:Ex) (d:Nat),z6 e d=true->hgt e+d<=26:=by
 refine Ex.ind fun e ih d h=>?_
 rw[YW]at h;split at h
 . cases h
 . rename_i hd;rw[kl];have:∀ (l:List Ex),(∀ x∈l,z6 x (d+1)=true)->(∀ x∈l,x∈e.args)->Q7 l+(d+1)<=26:=by
    intro l
    induction l with
    | nil=>intro _ _;simp;omega
    | cons x r ihl=>
     intro h1 h2;have a1:=ih x (h2 x (by simp)) (d+1) (h1 x (by simp));have a2:=ihl (fun y hy=>h1 y (by simp[hy])) (fun y hy=>h2 y (by simp[hy]));simp;omega
   rw[ZE,qpJ]at h;have:=this e.args h (fun _ h=>h);omega
def jy (p:Problem):Bool :=
 !(decide (20<p.vars.length)||decide (20<p.hard.length)||decide (20<p.soft.length)||decide (20<p.dists.length)||decide (20<p.groups.length)) &&
 p.hard.all (z6 · 0)&&p.soft.all (z6 · 0)&&p.dists.all (fun d=>decide (d.weights.length<=20))&&p.groups.all (fun g=>decide (g.length<=20))
end Go.Proofs.YtkpkjbchlabaaaaGreatDoor
end
section
namespace Go.Proofs.YtkpkjbchlabaaaaGreatDoor
open Go Go.Abs
def GG (g:Nat):AV:=match g with
 | 0=>.rptr [.sl 1 (qby.map z0) .none]
 | _=>.any
section
section
variable (G:Nat->AV)
theorem has325 (l:List Str)(s:Str)(hl:Fits l):Pure Tryz.prog G 310 [.sl 1 (l.map z0) .none,.str s] (.bool (l.any (· == s))):=by
 refine Pure.vc qe Tryz.func310 rfl (by kernel_rfl) ?_;simp;refine qv.intro (fun n env U=>∃ i,i<=l.length/\n=l.length-i/\env 0=.sl 1 (l.map z0) .none/\env 1=.str s/\env 5=.int .i64 i/\U=⟨[],[]⟩/\l.any (· == s)=(l.drop i).any (· == s)) l.length ⟨0,by simp⟩ ?_;rintro n env U ⟨i,hi,rfl,h0,h1,h5,rfl,hf⟩
 cases hv:l[i]? with
 | some v=>
  obtain⟨hc,hv'⟩:=qpy.1 hv;rw[zA hv]at hf;by_cases he:v=s
  . subst he;simp[h0,h1,h5,hc,hv',hf]
  . have he':(v==s)=false:=(by simpa using he);simp[h0,h1,h5,hc,hv',he];refine⟨_,by omega,i+1,by omega,rfl,wr (by omega) (by omega),?_⟩;rw[hf,qrC,he',qrO]
 | none=>
  have hc:¬ i<l.length:=by simp at hv;omega
  have hd:l.drop i=[]:=by simp;omega
  have hz:∀ x∈l,¬ x=s:=by
   intro x hx e;have:l.any (· == s)=true:=qp0.2 ⟨x,hx,by simp[e]⟩;rw[hf,hd]at this;cases this
  simp[h0,h1,h5,hc];exact hz
theorem qdW (l:List Str)(s:Str)(hl:Fits l):Pure Tryz.prog G 268 [.sl 1 (l.map z0) .none,.str s] (.bool (l.any (· == s))):=by
 refine Pure.vc qe Tryz.func268 rfl (by kernel_rfl) ?_;simp;refine qv.intro (fun n env U=>∃ i,i<=l.length/\n=l.length-i/\env 0=.sl 1 (l.map z0) .none/\env 1=.str s/\env 5=.int .i64 i/\U=⟨[],[]⟩/\l.any (· == s)=(l.drop i).any (· == s)) l.length ⟨0,by simp⟩ ?_;rintro n env U ⟨i,hi,rfl,h0,h1,h5,rfl,hf⟩
 cases hv:l[i]? with
 | some v=>
  obtain⟨hc,hv'⟩:=qpy.1 hv;rw[zA hv]at hf;by_cases he:v=s
  . subst he;simp[h0,h1,h5,hc,hv',hf]
  . have he':(v==s)=false:=(by simpa using he);simp[h0,h1,h5,hc,hv',he];refine⟨_,by omega,i+1,by omega,rfl,wr (by omega) (by omega),?_⟩;rw[hf,qrC,he',qrO]
 | none=>
  have hc:¬ i<l.length:=by simp at hv;omega
  have hd:l.drop i=[]:=by simp;omega
  have hz:∀ x∈l,¬ x=s:=by
   intro x hx e;have:l.any (· == s)=true:=qp0.2 ⟨x,hx,by simp[e]⟩;rw[hf,hd]at this;cases this
  simp[h0,h1,h5,hc];exact hz
theorem qkY (l:List Str)(s:Str)(hl:Fits l):Pure Tryz.prog G 300 [.sl 1 (l.map z0) .none,.str s] (.int .i64 (zk (fun v=>s==v) l 0)):=by
 refine Pure.vc qe Tryz.func300 rfl (by kernel_rfl) ?_;simp;refine qv.intro (fun n env U=>∃ i,i<=l.length/\n=l.length-i/\env 0=.sl 1 (l.map z0) .none/\env 1=.str s/\env 7=.int .i64 l.length/\env 8=.int .i64 i/\U=⟨[],[]⟩/\zk (fun v=>s==v) l 0=zk (fun v=>s==v) (l.drop i) i) l.length ⟨0,by simp⟩ ?_;rintro n env U ⟨i,hi,rfl,h0,h1,h7,h8,rfl,hf⟩
 cases hv:l[i]? with
 | some v=>
  obtain⟨hc,hv'⟩:=qpy.1 hv;rw[zA hv]at hf;by_cases he:s=v
  . subst he;simp[h0,h1,h7,h8,hc,hv',hf,zk]
  . have he':(s==v)=false:=(by simpa using he);simp[h0,h1,h7,h8,hc,hv',he];refine⟨_,by omega,i+1,by omega,rfl,wr (by omega) (by omega),?_⟩;rw[hf,zk,he'];simp
 | none=>
  have hc:¬ i<l.length:=by simp at hv;omega
  have hd:l.drop i=[]:=by simp;omega
  simp[h0,h1,h7,h8,hc,hf,hd,zk]
theorem Ql (l:List Str)(s:Str)(hl:Fits l):Pure Tryz.prog G 248 [.sl 1 (l.map z0) .none,.str s] (.bool (l.any (fun v=>s==v))):=by
 refine Pure.vc qe Tryz.func248 rfl (by kernel_rfl) ?_;simp;refine qb.call (qkY G l s hl) (by simp) ?_;simp
theorem qkW (l:List Int)(s:Int)(hl:Fits l):Pure Tryz.prog G 299 [.sl 1 (l.map qr) .none,.int .i64 s] (.int .i64 (zk (fun v=>s==v) l 0)):=by
 refine Pure.vc qe Tryz.func299 rfl (by kernel_rfl) ?_;simp;refine qv.intro (fun n env U=>∃ i,i<=l.length/\n=l.length-i/\env 0=.sl 1 (l.map qr) .none/\env 1=.int .i64 s/\env 7=.int .i64 l.length/\env 8=.int .i64 i/\U=⟨[],[]⟩/\zk (fun v=>s==v) l 0=zk (fun v=>s==v) (l.drop i) i) l.length ⟨0,by simp⟩ ?_;rintro n env U ⟨i,hi,rfl,h0,h1,h7,h8,rfl,hf⟩
 cases hv:l[i]? with
 | some v=>
  obtain⟨hc,hv'⟩:=qpy.1 hv;rw[zA hv]at hf;by_cases he:s=v
  . subst he;simp[h0,h1,h7,h8,hc,hv',hf,zk]
  . have he':(s==v)=false:=(by simpa using he);simp[h0,h1,h7,h8,hc,hv',he];refine⟨_,by omega,i+1,by omega,rfl,wr (by omega) (by omega),?_⟩;rw[hf,zk,he'];simp
 | none=>
  have hc:¬ i<l.length:=by simp at hv;omega
  have hd:l.drop i=[]:=by simp;omega
  simp[h0,h1,h7,h8,hc,hf,hd,zk]
theorem qcy (l:List Int)(s:Int)(hl:Fits l):Pure Tryz.prog G 247 [.sl 1 (l.map qr) .none,.int .i64 s] (.bool (l.any (fun v=>s==v))):=by
 refine Pure.vc qe Tryz.func247 rfl (by kernel_rfl) ?_;simp;refine qb.call (qkW G l s hl) (by simp) ?_;simp
theorem qcp (l:List Var)(s:Str)(hl:Fits l):Pure Tryz.prog G 94 [.sl 4 (l.map qE) .none,.str s] (.int .i64 (zk (fun v=>v.name==s) l 0)):=by
 refine Pure.vc qe Tryz.func94 rfl (by kernel_rfl) ?_;simp;refine qv.intro (fun n env U=>∃ i,i<=l.length/\n=l.length-i/\env 0=.sl 4 (l.map qE) .none/\env 1=.str s/\env 5=.int .i64 i/\U=⟨[],[]⟩/\zk (fun v=>v.name==s) l 0=zk (fun v=>v.name==s) (l.drop i) i) l.length ⟨0,by simp⟩ ?_;rintro n env U ⟨i,hi,rfl,h0,h1,h5,rfl,hf⟩
 cases hv:l[i]? with
 | some v=>
  obtain⟨hc,hv'⟩:=qpy.1 hv;rw[zA hv]at hf;by_cases he:v.name=s
  . subst he;simp[h0,h1,h5,hc,hv',hf,zk]
  . have he':(v.name==s)=false:=(by simpa using he);simp[h0,h1,h5,hc,hv',he];refine⟨_,by omega,i+1,by omega,rfl,wr (by omega) (by omega),?_⟩;rw[hf,zk,he'];simp
 | none=>
  have hc:¬ i<l.length:=by simp at hv;omega
  have hd:l.drop i=[]:=by simp;omega
  simp[h0,h1,h5,hc,hf,hd,zk]
end
end
theorem ZU (G:Nat->AV)(l:List Var)(p:Var->Bool)(f:FuncId)(first cap:List AV)(hl:Fits l)(h1:qw first=true)(h2:qw cap=true)
 (hp:∀ v∈l,Pure Tryz.prog G f (first++[.agg (qE v)]++cap) (.bool (p v))):Pure Tryz.prog G 182 [.sl 4 (l.map qE) .none,.fn f first cap] (.int .i64 (zk p l 0)):=by
 refine Pure.vc qe Tryz.func182 rfl (by kernel_rfl) ?_;simp;refine qv.intro (fun n env U=>∃ i,i<=l.length/\n=l.length-i/\env 0=.sl 4 (l.map qE) .none/\env 1=.fn f first cap/\env 7=.int .i64 l.length/\env 8=.int .i64 i/\U=⟨[],[]⟩/\zk p l 0=zk p (l.drop i) i) l.length ⟨0,by simp⟩ ?_;rintro n env U ⟨i,hi,rfl,h0,h1',h7,h8,rfl,hf⟩
 cases hv:l[i]? with
 | some v=>
  obtain⟨hc,hv'⟩:=qpy.1 hv;rw[zA hv]at hf;simp[h0,h1',h7,h8,hc,hv',hf];refine qb.call (r:=.bool (p v)) (by simpa using hp v (qpz hv)) (by simp[j5,h1,h2]) ?_;simp[h0,h1',h7,h8,zk];refine⟨fun e=>by simp[e],fun e=>⟨_,by omega,i+1,by omega,rfl,wr (by omega) (by omega),by simp[hf,zk,e]⟩⟩
 | none=>
  have hc:¬ i<l.length:=by simp at hv;omega
  have hd:l.drop i=[]:=by simp;omega
  simp[h0,h1',h7,h8,hc,hf,hd,zk]
theorem vu (G:Nat->AV)(l:List Var)(p:Var->Bool)(f:FuncId)(first cap:List AV)(hl:Fits l)(h1:qw first=true)(h2:qw cap=true)
 (hp:∀ v∈l,Pure Tryz.prog G f (first++[.agg (qE v)]++cap) (.bool (p v))):Pure Tryz.prog G 127 [.sl 4 (l.map qE) .none,.fn f first cap] (.bool (l.any p)):=by
 refine Pure.vc qe Tryz.func127 rfl (by kernel_rfl) ?_;simp;refine qb.call (ZU G l p f first cap hl h1 h2 hp) (by simp[h1,h2]) ?_;simp
theorem W2 (G:Nat->AV)(l:List Dist)(p:Dist->Bool)(f:FuncId)(first cap:List AV)(hl:Fits l)(h1:qw first=true)(h2:qw cap=true)
 (hp:∀ v∈l,Pure Tryz.prog G f (first++[.agg (zG v)]++cap) (.bool (p v))):Pure Tryz.prog G 187 [.sl 2 (l.map zG) .none,.fn f first cap] (.int .i64 (zk p l 0)):=by
 refine Pure.vc qe Tryz.func187 rfl (by kernel_rfl) ?_;simp;refine qv.intro (fun n env U=>∃ i,i<=l.length/\n=l.length-i/\env 0=.sl 2 (l.map zG) .none/\env 1=.fn f first cap/\env 7=.int .i64 l.length/\env 8=.int .i64 i/\U=⟨[],[]⟩/\zk p l 0=zk p (l.drop i) i) l.length ⟨0,by simp⟩ ?_;rintro n env U ⟨i,hi,rfl,h0,h1',h7,h8,rfl,hf⟩
 cases hv:l[i]? with
 | some v=>
  obtain⟨hc,hv'⟩:=qpy.1 hv;rw[zA hv]at hf;simp[h0,h1',h7,h8,hc,hv',hf];refine qb.call (r:=.bool (p v)) (by simpa using hp v (qpz hv)) (by simp[j5,h1,h2]) ?_;simp[h0,h1',h7,h8,zk];refine⟨fun e=>by simp[e],fun e=>⟨_,by omega,i+1,by omega,rfl,wr (by omega) (by omega),by simp[hf,zk,e]⟩⟩
 | none=>
  have hc:¬ i<l.length:=by simp at hv;omega
  have hd:l.drop i=[]:=by simp;omega
  simp[h0,h1',h7,h8,hc,hf,hd,zk]
theorem Jm (G:Nat->AV)(l:List Dist)(p:Dist->Bool)(f:FuncId)(first cap:List AV)(hl:Fits l)(h1:qw first=true)(h2:qw cap=true)
 (hp:∀ v∈l,Pure Tryz.prog G f (first++[.agg (zG v)]++cap) (.bool (p v))):Pure Tryz.prog G 135 [.sl 2 (l.map zG) .none,.fn f first cap] (.bool (l.any p)):=by
 refine Pure.vc qe Tryz.func135 rfl (by kernel_rfl) ?_;simp;refine qb.call (W2 G l p f first cap hl h1 h2 hp) (by simp[h1,h2]) ?_;simp
theorem qaM (G:Nat->AV)(l:List Str)(p:Str->Bool)(f:FuncId)(first cap:List AV)(hl:Fits l)(h1:qw first=true)(h2:qw cap=true)
 (hp:∀ v∈l,Pure Tryz.prog G f (first++[.str v]++cap) (.bool (p v))):Pure Tryz.prog G 186 [.sl 1 (l.map z0) .none,.fn f first cap] (.int .i64 (zk p l 0)):=by
 refine Pure.vc qe Tryz.func186 rfl (by kernel_rfl) ?_;simp;refine qv.intro (fun n env U=>∃ i,i<=l.length/\n=l.length-i/\env 0=.sl 1 (l.map z0) .none/\env 1=.fn f first cap/\env 7=.int .i64 l.length/\env 8=.int .i64 i/\U=⟨[],[]⟩/\zk p l 0=zk p (l.drop i) i) l.length ⟨0,by simp⟩ ?_;rintro n env U ⟨i,hi,rfl,h0,h1',h7,h8,rfl,hf⟩
 cases hv:l[i]? with
 | some v=>
  obtain⟨hc,hv'⟩:=qpy.1 hv;rw[zA hv]at hf;simp[h0,h1',h7,h8,hc,hv',hf];refine qb.call (r:=.bool (p v)) (by simpa using hp v (qpz hv)) (by simp[j5,h1,h2]) ?_;simp[h0,h1',h7,h8,zk];refine⟨fun e=>by simp[e],fun e=>⟨_,by omega,i+1,by omega,rfl,wr (by omega) (by omega),by simp[hf,zk,e]⟩⟩
 | none=>
  have hc:¬ i<l.length:=by simp at hv;omega
  have hd:l.drop i=[]:=by simp;omega
  simp[h0,h1',h7,h8,hc,hf,hd,zk]
theorem YS (G:Nat->AV)(l:List Str)(p:Str->Bool)(f:FuncId)(first cap:List AV)(hl:Fits l)(h1:qw first=true)(h2:qw cap=true)
 (hp:∀ v∈l,Pure Tryz.prog G f (first++[.str v]++cap) (.bool (p v))):Pure Tryz.prog G 132 [.sl 1 (l.map z0) .none,.fn f first cap] (.bool (l.any p)):=by
 refine Pure.vc qe Tryz.func132 rfl (by kernel_rfl) ?_;simp;refine qb.call (qaM G l p f first cap hl h1 h2 hp) (by simp[h1,h2]) ?_;simp
theorem vl (G:Nat->AV)(l:List Weight)(p:Weight->Bool)(f:FuncId)(first cap:List AV)(hl:Fits l)(h1:qw first=true)(h2:qw cap=true)
 (hp:∀ v∈l,Pure Tryz.prog G f (first++[.agg (qB v)]++cap) (.bool (p v))):Pure Tryz.prog G 237 [.sl 4 (l.map qB) .none,.fn f first cap] (.int .i64 (zk p l 0)):=by
 refine Pure.vc qe Tryz.func237 rfl (by kernel_rfl) ?_;simp;refine qv.intro (fun n env U=>∃ i,i<=l.length/\n=l.length-i/\env 0=.sl 4 (l.map qB) .none/\env 1=.fn f first cap/\env 7=.int .i64 l.length/\env 8=.int .i64 i/\U=⟨[],[]⟩/\zk p l 0=zk p (l.drop i) i) l.length ⟨0,by simp⟩ ?_;rintro n env U ⟨i,hi,rfl,h0,h1',h7,h8,rfl,hf⟩
 cases hv:l[i]? with
 | some v=>
  obtain⟨hc,hv'⟩:=qpy.1 hv;rw[zA hv]at hf;simp[h0,h1',h7,h8,hc,hv',hf];refine qb.call (r:=.bool (p v)) (by simpa using hp v (qpz hv)) (by simp[j5,h1,h2]) ?_;simp[h0,h1',h7,h8,zk];refine⟨fun e=>by simp[e],fun e=>⟨_,by omega,i+1,by omega,rfl,wr (by omega) (by omega),by simp[hf,zk,e]⟩⟩
 | none=>
  have hc:¬ i<l.length:=by simp at hv;omega
  have hd:l.drop i=[]:=by simp;omega
  simp[h0,h1',h7,h8,hc,hf,hd,zk]
theorem Q1 (G:Nat->AV)(l:List Weight)(p:Weight->Bool)(f:FuncId)(first cap:List AV)(hl:Fits l)(h1:qw first=true)(h2:qw cap=true)
 (hp:∀ v∈l,Pure Tryz.prog G f (first++[.agg (qB v)]++cap) (.bool (p v))):Pure Tryz.prog G 188 [.sl 4 (l.map qB) .none,.fn f first cap] (.bool (l.any p)):=by
 refine Pure.vc qe Tryz.func188 rfl (by kernel_rfl) ?_;simp;refine qb.call (vl G l p f first cap hl h1 h2 hp) (by simp[h1,h2]) ?_;simp
section
section
variable (G:Nat->AV)
theorem WV (n:Int):Pure Tryz.prog G 295 [.int .i32 n] (.bool (kj n)):=by
 refine Pure.vc qe Tryz.func295 rfl (by kernel_rfl) ?_;by_cases h1:97<=n<;>by_cases h2:n<=122<;>simp[kj,h1,h2]
theorem qlp (n:Int):Pure Tryz.prog G 324 [.int .i32 n] (.bool (ZY n)):=by
 refine Pure.vc qe Tryz.func324 rfl (by kernel_rfl) ?_;by_cases h1:48<=n<;>by_cases h2:n<=57<;>simp[ZY,h1,h2]
theorem qdd (n:Int):Pure Tryz.prog G 263 [.int .u8 n] (.bool (kj n)):=by
 refine Pure.vc qe Tryz.func263 rfl (by kernel_rfl) ?_;by_cases h1:97<=n<;>by_cases h2:n<=122<;>simp[kj,h1,h2]
theorem qlq (n:Int):Pure Tryz.prog G 312 [.int .u8 n] (.bool (ZY n)):=by
 refine Pure.vc qe Tryz.func312 rfl (by kernel_rfl) ?_;by_cases h1:48<=n<;>by_cases h2:n<=57<;>simp[ZY,h1,h2]
theorem Zr (n:Int):Pure Tryz.prog G 296 [.int .i32 n] (.bool (yT n)):=by
 refine Pure.vc qe Tryz.func296 rfl (by kernel_rfl) ?_;simp;refine qb.call (WV G n) rfl ?_;cases hl:kj n
 . simp;refine qb.call (qlp G n) rfl ?_;cases hd:ZY n
   . by_cases h1:65<=n<;>by_cases h2:n<=90<;>by_cases h3:n=95<;>simp[yT,hl,hd,h1,h2,h3]
   . simp[yT,hl,hd]
 . simp[yT,hl]
theorem qkV (n:Int):Pure Tryz.prog G 265 [.int .u8 n] (.bool (yT n)):=by
 refine Pure.vc qe Tryz.func265 rfl (by kernel_rfl) ?_;simp;refine qb.call (qdd G n) rfl ?_;cases hl:kj n
 . simp;refine qb.call (qlq G n) rfl ?_;cases hd:ZY n
   . by_cases h1:65<=n<;>by_cases h2:n<=90<;>by_cases h3:n=95<;>simp[yT,hl,hd,h1,h2,h3]
   . simp[yT,hl,hd]
 . simp[yT,hl]
end
end
section
section
variable (G:Nat->AV)
theorem dec_lo {s:Str}{pos:Nat}(h:pos<s.length)(hl:(s[pos]).toNat<128):Utf8.decode ⟨s.toArray⟩ pos=((s[pos]).toNat,1):=by
 have:=Go.decode_ascii ⟨s.toArray⟩ pos (by simpa[ByteArray.size] using h) hl;exact this
theorem dec_hi {s:Str}{pos:Nat}(h:pos<s.length)(hl:128<=(s[pos]).toNat):128<=(Utf8.decode ⟨s.toArray⟩ pos).1:=by
 have:=Go.decode_high ⟨s.toArray⟩ pos (by simpa[ByteArray.size] using h) hl;exact this.1
theorem qaL {n:Int}(h:128<=n):yT n=false:=by
 simp[yT,kj,ZY];omega
theorem Qs {s:Str}{c:UInt8}(h:c∈s)(hc:QN c=false):vO s=false:=by
 cases s with
 | nil=>cases h
 | cons a r=>
  have:(a::r).all QN=false:=by
   rw[qqD];intro e;rw[qpJ.1 e c h]at hc;cases hc
  simp only[vO,this,qsi]
theorem qeo {c:UInt8}{r:Str}(h:kj c.toNat=false):vO (c::r)=false:=by simp[vO,h]
theorem qnf (s:Str):Pure Tryz.prog G 242 [.str s] (.bool (vO s)):=by
 refine Pure.vc qe Tryz.func242 rfl (by kernel_rfl) ?_;simp;refine qv.intro (fun n env U=>∃ pos,pos<=s.length/\n=s.length-pos/\env 0=.str s/\env 6=.iter 0/\U=⟨[.siter s pos],[]⟩/\(∀ c∈s.take pos,QN c=true)/\(0<pos->∀ c r,s=c::r->kj c.toNat=true)) s.length ⟨0,by simp⟩ ?_;rintro n env U ⟨pos,hp,rfl,h0,h6,rfl,hall,hlow⟩;by_cases hlt:pos<s.length
 . have hmem:s[pos]∈s:=qrI hlt;by_cases hc:(s[pos]).toNat<128
   . have hd:=dec_lo hlt hc;have htake:s.take (pos+1)=s.take pos++[s[pos]]:=(by rw[qp4,qpA hlt];rfl);have more:QN s[pos]=true->∀ c∈s.take (pos+1),QN c=true:=by
      intro hi c hcm;rw[htake,qpZ]at hcm;rcases hcm with hcm|hcm
      . exact hall c hcm
      . rw[qp8.1 hcm];exact hi
     rcases qqE pos with rfl|hpos
     . simp[h0,h6,WP,hlt,hd];refine qb.call (WV G _) rfl ?_;cases hl:kj (s[0].toNat:Int)
       . cases s with
         | nil=>simp at hlt
         | cons c r=>simpa using qeo hl
       . simp;refine qb.call (Zr G _) rfl ?_;cases hi:yT (s[0].toNat:Int)
         . simpa using Qs hmem hi
         . simp[h0,h6];refine⟨_,by omega,1,by omega,rfl,rfl,more hi,fun _ c r e=>by subst e;exact hl⟩
     . have hne:¬ pos=0:=(by omega);simp[h0,h6,WP,hlt,hd,hne];refine qb.call (Zr G _) rfl ?_;cases hi:yT (s[pos].toNat:Int)
       . simpa using Qs hmem hi
       . simp[h0,h6];refine⟨_,by omega,pos+1,by omega,rfl,rfl,more hi,fun _=>hlow hpos⟩
   . have hd:=dec_hi hlt (by omega);have hi:=qaL (n:=((Utf8.decode ⟨s.toArray⟩ pos).1:Int)) (by omega);have hl:kj ((Utf8.decode ⟨s.toArray⟩ pos).1:Int)=false:=by
      simp only[yT,qss]at hi;exact hi.1.1.1
     have hb:=Qs hmem (qaL (n:=(s[pos].toNat:Int)) (by omega));rcases qqE pos with rfl|hpos
     . simp[h0,h6,WP,hlt];refine qb.call (WV G _) rfl ?_;simpa[hl] using hb
     . have hne:¬ pos=0:=(by omega);simp[h0,h6,WP,hlt,hne];refine qb.call (Zr G _) rfl ?_;simpa[hi] using hb
 . have he:pos=s.length:=(by omega);subst he
   cases s with
   | nil=>simp[h0,h6,WP,vO]
   | cons c r=>
    have h1:vO (c::r)=true:=by
     simp only[vO,qpC];exact⟨hlow (by simp) c r rfl,qpJ.2 fun x hx=>hall x (by simpa using hx)⟩
    simp[h0,h6,WP,h1]
end
end
end Go.Proofs.YtkpkjbchlabaaaaGreatDoor
end
section
namespace Go.Proofs.YtkpkjbchlabaaaaGreatDoor
open Go Go.Abs Go.RowKit
theorem qlH (s:ByteArray)(c:Int)(w:World) :
 Calls Tryz.prog 325 #[.string s,.int .u8 c] w fun e w'=>e=.returned (.int .i64 (Lib.indexByte s.data.toList c.toNat.toUInt8))/\w'=w:=by
 have t3:=Tryz.underlying3;have t5:=Tryz.underlying5;have t9:=Tryz.underlying9;have a3:∀ w,(isAgg 3).run Tryz.prog w=.ok false w:=run_isAgg_plain t3 rfl;have a5:∀ w,(isAgg 5).run Tryz.prog w=.ok false w:=run_isAgg_plain t5 rfl;have a9:∀ w,(isAgg 9).run Tryz.prog w=.ok false w:=run_isAgg_plain t9 rfl
 go_enter Tryz.func325,Tryz.ntmps325
 go_wp2
 rw[run_callFunc_extern Tryz.func333 (by kernel_rfl) (by kernel_rfl) (by kernel_rfl) (e:=Extern.BytealgIndexByte.indexByte) (by kernel_rfl),Lib.run_indexByteString];simp only[Result.andThen];rw[Oper.upon_value]
 go_wp2
 go_ret
 exact⟨rfl,rfl⟩
theorem qaN (G:Nat->AV)(s:Str)(c:Int):Pure Tryz.prog G 325 [.str s,.int .u8 c] (.int .i64 (Lib.indexByte s c.toNat.toUInt8)):=by
 refine⟨by kernel_rfl,fun w0 ro vs hg hro hvs=>?_⟩;simp only[qh,qg]at hvs;obtain⟨v,vr,e1,rfl,v2,vr2,rfl,rfl,rfl⟩:=hvs;have:vs = #[.string ⟨s.toArray⟩,.int .u8 c]:=by rw[<- qrs (xs:=vs),e1]
 subst this;refine (qlH _ _ _).mono ?_;rintro e w' ⟨rfl,rfl⟩;exact⟨_,ro,rfl,.refl _ _,fun _ _ _ h=>h,hro,fun _ _ _ h _=>h,by simp[qg]⟩
end Go.Proofs.YtkpkjbchlabaaaaGreatDoor
end
section
namespace Go.Proofs.YtkpkjbchlabaaaaGreatDoor
open Go Go.Abs
theorem qkI (s:Str):qby.any (fun v=>s==v)=qby.contains s:=by
 rw[List.any_beq]
theorem qhr (s:Str):qby.any (fun v=>v==s)=qby.contains s:=by
 rw[List.any_beq']
theorem qoz (s:Str):Pure Tryz.prog GG 243 [.str s] (.bool (qby.contains s)):=by
 refine Pure.vc qe Tryz.func243 rfl (by kernel_rfl) ?_;simp[GG];refine qb.call (Ql GG qby s (by decide)) (by simp) ?_;rw[qkI];simp
theorem vk (s:Str):Pure Tryz.prog GG 179 [.str s] (.bool (zQ s)):=by
 refine Pure.vc qe Tryz.func179 rfl (by kernel_rfl) ?_;simp;refine qb.call (qnf GG s) rfl ?_;cases h1:vO s
 . simp[zQ,h1]
 . by_cases h2:s.length<=16
   . have h2':(s.length:Int)<=16:=(by omega);simp[h2'];refine qb.call (qoz s) rfl ?_;simp[zQ,h1,h2]
   . have h2':¬ (s.length:Int)<=16:=(by omega);simp[zQ,h1,h2,h2']
theorem qcf:Pure Tryz.prog GG 311 [] (.sl 1 (qby.map z0) .none):=by
 refine Pure.vc qe Tryz.func311 rfl (by kernel_rfl) ?_;simp[qj,qs,qby]
theorem qoy (s:Str):Pure Tryz.prog GG 264 [.str s] (.bool (qby.contains s)):=by
 refine Pure.vc qe Tryz.func264 rfl (by kernel_rfl) ?_;simp;refine qb.call qcf rfl ?_;refine qb.call (has325 GG qby s (by decide)) (by simp) ?_;rw[qhr];simp
theorem vg (s:Str)(hs:Fits s):Pure Tryz.prog GG 199 [.str s] (.bool (zQ s)):=by
 refine Pure.vc qe Tryz.func199 rfl (by kernel_rfl) ?_
 cases s with
 | nil=>simp[zQ,vO]
 | cons c r=>
  by_cases h16:(c::r).length<=16
  . have h16':¬ (16:Int)<(r.length:Int)+1:=(by simp at h16;omega);simp[h16'];refine qb.call (qdd GG c.toNat) rfl ?_;cases hl:kj (c.toNat:Int)
    . simp[zQ,vO,hl]
    . simp;refine qb.call (qoy (c::r)) rfl ?_;cases hk:qby.contains (c::r)
      . simp;refine qv.intro (fun n env U=>∃ i,i<=(c::r).length/\n=(c::r).length-i/\env 0=.str (c::r)/\env 3=.int .i64 i/\U=⟨[],[]⟩/\∀ x∈(c::r).take i,QN x=true) (c::r).length ⟨0,by simp⟩ ?_;rintro n env U ⟨i,hi,rfl,h0,h3,rfl,hall⟩
        cases hv:(c::r)[i]? with
        | some v=>
         obtain⟨hc,hv'⟩:=qpy.1 hv;have htake:(c::r).take (i+1)=(c::r).take i++[v]:=(by rw[qp4,hv];rfl);have hc1:(i:Int)<r.length+1:=(by simp at hc;omega);simp[h0,h3,hc1,hv,hv'];refine qb.call (qkV GG v.toNat) rfl ?_;cases hin:yT (v.toNat:Int)
         . have:=Qs (qpz hv) (show QN v=false from hin);simp[zQ,this]
         . simp[h0,h3];refine⟨_,by simp at hc;omega,i+1,by simp at hc;omega,rfl,wr (by omega) (by simp at hc hs;omega),?_⟩;intro x hx;rw[htake,qpZ]at hx;rcases hx with hx|hx
           . exact hall x hx
           . rw[qp8.1 hx];exact hin
        | none=>
         have he:i=(c::r).length:=(by simp at hv hi;simp;omega);subst he;have h1:vO (c::r)=true:=by
          simp only[vO,qpC];exact⟨hl,qpJ.2 fun x hx=>hall x (by simpa using hx)⟩
         have hn:zQ (c::r)=true:=(by simp only[zQ,h1,hk,decide_eq_true h16];rfl);simp[h0,h3,hn]
      . have hn:zQ (c::r)=false:=(by simp only[zQ,hk,qs9,qsi]);simp[hn]
  . have h16':(16:Int)<(r.length:Int)+1:=(by simp at h16;omega);have:zQ (c::r)=false:=by
     have:decide ((c::r).length<=16)=false:=by simpa using h16
     simp only[zQ,this,qsi,qq5]
    simp[h16',this]
theorem vZ {s:Str}:Lib.indexByte s 91=if s.contains 91=true then ((jC s).length:Int) else -1:=by
 unfold jC
 induction s with
 | nil=>simp[Lib.indexByte]
 | cons c r ih=>
  by_cases hc:c=91
  . subst hc;simp[Lib.indexByte]
  . have h1:(c==91)=false:=(by simpa using hc);have h2:¬ (91:UInt8)=c:=fun e=>hc e.symm
    simp only[Lib.indexByte,h1,qpV,if_false,ih,List.contains_cons];have h3:((91:UInt8)==c)=false:=(by simpa using h2);have h4:(c != 91)=true:=(by simpa using hc);rw[h3,qrO,qsu,if_pos h4];by_cases h5:r.contains 91=true
    . rw[if_pos h5,if_pos h5];have:¬ (((r.takeWhile (· != 91)).length:Int) == -1)=true:=by simp
      rw[if_neg this];simp
    . rw[if_neg h5,if_neg h5];simp
theorem qdR (G:Nat->AV)(s:Str):Pure Tryz.prog G 297 [.str s,.str [91]] (.int .i64 (Lib.indexByte s 91)):=by
 refine Pure.vc qe Tryz.func297 rfl (by kernel_rfl) ?_;by_cases h : [91]=s
 . subst h;simp[Lib.indexByte]
 . simp[h];refine qb.call (qaN G s 91) rfl ?_;simp
theorem cut262 (G:Nat->AV)(s:Str)(hs:Fits s)(h:s.contains 91=true):Pure Tryz.prog G 244 [.str s,.str [91]] (.tup [.str (jC s),.str (JU s),.bool true]):=by
 refine Pure.vc qe Tryz.func244 rfl (by kernel_rfl) ?_;simp;refine qb.call (qdR G s) rfl ?_;have e:=qmW h;have hl:s.length=(jC s).length+1+(JU s).length:=by
  have:=congrArg List.length e;rw[qpD,qpQ]at this;omega
 have hlt:(jC s).length<s.length:=by omega
 have t1:s.take (jC s).length=jC s:=by
  conv=>lhs;arg 2;rw[e]
  simp
 have t2:s.drop ((jC s).length+1)=JU s:=by
  conv=>lhs;arg 2;rw[e]
  simp
 rw[vZ,if_pos h];have hw:IntKind.i64.wrap (((jC s).length:Int)+1)=(jC s).length+1:=wr (by omega) (by omega);have h1:((jC s).length:Int)<=s.length:=by omega
 have h2:((jC s).length:Int)+1<=s.length:=by omega
 have h3:(0:Int)<=(jC s).length+1:=by omega
 have h4:(((jC s).length:Int)+1).toNat=(jC s).length+1:=by omega
 have h5:(jC s).length<=s.length:=by omega
 simp[zp,zU,hw,h1,h2,h3,h4,h5,t1,t2]
theorem qo5 (G:Nat->AV)(s:Str)(hs:Fits s)(h:s.contains 91=false):Pure Tryz.prog G 244 [.str s,.str [91]] (.tup [.str s,.str [],.bool false]):=by
 refine Pure.vc qe Tryz.func244 rfl (by kernel_rfl) ?_;simp;refine qb.call (qdR G s) rfl ?_;rw[vZ,if_neg (by rw[h];decide)];simp
theorem qih (G:Nat->AV)(s:Str)(hs:Fits s)(h:s.contains 91=true):Pure Tryz.prog G 180 [.str s,.str [91]] (.tup [.str (jC s),.str (JU s),.bool true]):=by
 refine Pure.vc qe Tryz.func180 rfl (by kernel_rfl) ?_;simp;refine qb.call (cut262 G s hs h) rfl ?_;simp
theorem qcx (G:Nat->AV)(s:Str)(hs:Fits s)(h:s.contains 91=false):Pure Tryz.prog G 180 [.str s,.str [91]] (.tup [.str s,.str [],.bool false]):=by
 refine Pure.vc qe Tryz.func180 rfl (by kernel_rfl) ?_;simp;refine qb.call (qo5 G s hs h) rfl ?_;simp
theorem qjM (i:Nat)(h:i<9):Pure Tryz.prog GG 335 [.int .i64 i] (.str [UInt8.ofNat (48+i)]):=by
 refine Pure.vc qe Tryz.func335 rfl (by kernel_rfl) ?_;have hw:IntKind.i64.wrap ((i:Int)+1)=(i:Int)+1:=wr (by omega) (by omega);have h10:(i:Int)<10:=by omega
 have h11:i<10:=by omega
 have h36:(i:Int)+1<=36:=by omega
 have h37:(0:Int)<=(i:Int)+1:=by omega
 have h38:(i:Int)<=(i:Int)+1:=by omega
 simp[h10,h11,hw,zp,zU,h36,h37,h38];have:i=0\/i=1\/i=2\/i=3\/i=4\/i=5\/i=6\/i=7\/i=8:=by omega
 rcases this with rfl|rfl|rfl|rfl|rfl|rfl|rfl|rfl|rfl<;>rfl
theorem itoa9 (i:Nat)(h:i<9):Pure Tryz.prog GG 245 [.int .i64 i] (.str [UInt8.ofNat (48+i)]):=by
 refine Pure.vc qe Tryz.func245 rfl (by kernel_rfl) ?_;simp;refine qb.call (r:=.str [UInt8.ofNat (48+i)]) ?_ rfl ?_
 . refine Pure.vc qe Tryz.func298 rfl (by kernel_rfl) ?_;simp;refine qb.call (r:=.str [UInt8.ofNat (48+i)]) ?_ rfl ?_
   . refine Pure.vc qe Tryz.func329 rfl (by kernel_rfl) ?_;have h1:(0:Int)<=i:=(by omega);have h2:(i:Int)<100:=(by omega);have h3:i<100:=(by omega);simp[h1,h2,h3];exact qb.call (qjM i h) rfl (by simp)
   . simp
 . simp
theorem qox (i:Nat)(h:i<8):Pure Tryz.prog GG 245 [.int .i64 i] (.str [UInt8.ofNat (48+i)]):=itoa9 i (by omega)
theorem Zy (a:Str)(i:Nat)(hi:i<8)(ha:a.length<=1000):Pure Tryz.prog GG 181 [.str a,.int .i64 i] (.str (zW a i)):=by
 refine Pure.vc qe Tryz.func181 rfl (by kernel_rfl) ?_;have h1:a.length+1<=4611686018427387904:=by omega
 have h2:a.length+(1+1)<=4611686018427387904:=by omega
 have h3:a.length+(1+(1+1))<=4611686018427387904:=by omega
 have h4:a.length+1+1<=4611686018427387904:=by omega
 have h5:a.length+1+1+1<=4611686018427387904:=by omega
 simp[h1];refine qb.call (qox i hi) rfl ?_;simp[h2,h3,h4,h5,zW]
theorem wo {s:Str}(h:zQ s=true):s.length<=16:=by
 simp only[zQ,qpC,decide_eq_true_eq]at h;exact h.1.2
theorem qlm {s:Str}{i:Nat}(hi:i<8)(hn:zQ (jC s)=true)(h:s=zW (jC s) i):(yu s).isSome=true:=by
 rw[wz (a:=jC s) (i:=i) ⟨hi,hn,h⟩];rfl
theorem qln {s:Str}(h:∀ i,i<8->s≠zW (jC s) i):yu s=none:=by
 rw[yf];rintro a i hi;have:=hi.has.2.1;exact h i hi.1 (by rw[this];exact hi.2.2)
theorem qa8 {s:Str}(h:zQ (jC s)=false):yu s=none:=by
 rw[yf];rintro a i hi;have:=hi.has.2.1;rw[this,hi.2.1]at h;cases h
theorem qkz (s:Str)(hs:Fits s):Pure Tryz.prog GG 125 [.str s] (.bool (yM s)):=by
 refine Pure.vc qe Tryz.func125 rfl (by kernel_rfl) ?_;simp;refine qb.call (vk s) rfl ?_;cases hn:zQ s
 . simp;by_cases hc:s.contains 91=true
   . refine qb.call (qih GG s hs hc) rfl ?_;simp;refine qb.call (vk (jC s)) rfl ?_;cases hh:zQ (jC s)
     . simp[yM,hn,qa8 hh]
     . simp;refine qv.intro (fun n env U=>∃ i:Nat,i<=8/\n=8-i/\env 0=.str s/\env 3=.str (jC s)/\env 22=.int .i64 i/\U=⟨[],[]⟩/\∀ j,j<i->s≠zW (jC s) j) 8 ⟨0,by simp⟩ ?_;rintro n env U ⟨i,hi,rfl,h0,h3,h22,rfl,hall⟩;by_cases h8:i<8
       . have h8':(i:Int)<8:=(by omega);simp[h0,h3,h22,h8'];refine qb.call (Zy (jC s) i h8 (by have:=wo hh;omega)) rfl ?_;by_cases he:s=zW (jC s) i
         . have hv:yM s=true:=(by simp[yM,qlm h8 hh he]);rw[<- he];simp[h0,hv]
         . simp[h0,h3,h22,he];refine⟨_,by omega,i+1,by omega,rfl,wr (by omega) (by omega),?_⟩;intro j hj e;rcases qqv.1 hj with hj|rfl
           . exact hall j hj e
           . exact he e
       . have h8':¬ (i:Int)<8:=(by omega);have hv:yM s=false:=by
          have:yu s=none:=qln fun j hj=>hall j (by omega)
          simp[yM,hn,this]
         simp[h0,h3,h22,h8',hv]
   . have hc':s.contains 91=false:=(by simpa using hc);refine qb.call (qcx GG s hs hc') rfl ?_;simp[yM,hn,Yn hc']
 . simp[yM,hn]
theorem qhM:∀ (i:Nat),i<8->Pure Tryz.prog GG 200 [.int .i64 i] (.str [UInt8.ofNat (48+i)]):=by
 have key:∀ (i:Nat),i<8->IntKind.i64.wrap (-(i:Int)) = -i/\(-(i:Int)).tmod 10 = -i/\IntKind.i64.wrap (48+(i:Int))=48+i/\IntKind.u8.wrap (48+(i:Int))=48+i/\IntKind.i64.wrap (-((i:Int) / 10))=0/\(48+(i:Int)).toNat=48+i:=by decide
 intro i hi;obtain⟨k1,k2,k3,k4,k5,k6⟩:=key i hi;refine Pure.vc qe Tryz.func200 rfl (by kernel_rfl) ?_;simp;have below:Pure Tryz.prog GG 266 [.int .i64 i] (.int .i64 (-i)):=by
  refine Pure.vc qe Tryz.func266 rfl (by kernel_rfl) ?_;by_cases h0:i=0
  . subst h0;simp
  . have:0<i:=by omega
    simp[this,k1]
 refine qb.call below rfl ?_;refine qv.intro (fun n env U=>n=1/\env 0=.int .i64 i/\env 3=.str []/\env 4=.int .i64 (-i)/\U=⟨[],[]⟩) 1 ⟨rfl,by simp⟩ ?_;rintro n env U ⟨rfl,h0,h3,h4,rfl⟩;simp[h0,h3,h4,k2,k3,k4,k5,k6,qj,qs,kW,bytesOf]
theorem Zx (a:Str)(i:Nat)(hi:i<8)(ha:a.length<=1000):Pure Tryz.prog GG 153 [.str a,.int .i64 i] (.str (zW a i)):=by
 refine Pure.vc qe Tryz.func153 rfl (by kernel_rfl) ?_;have h1:a.length+1<=4611686018427387904:=by omega
 have h2:a.length+(1+1)<=4611686018427387904:=by omega
 have h3:a.length+(1+(1+1))<=4611686018427387904:=by omega
 have h4:a.length+1+1<=4611686018427387904:=by omega
 have h5:a.length+1+1+1<=4611686018427387904:=by omega
 simp[h1];refine qb.call (qhM i hi) rfl ?_;simp[h2,h3,h4,h5,zW]
noncomputable def Ve (s:Str):AV:=match yu s with
 | some (a,i)=>.tup [.str a,.int .i64 i,.bool true]
 | none=>.tup [.str [],.int .i64 0,.bool false]
theorem QW {s a:Str}{i:Nat}(h:jf s a i):Ve s=.tup [.str a,.int .i64 i,.bool true]:=by simp[Ve,wz h]
theorem wy {s:Str}(h:yu s=none):Ve s=.tup [.str [],.int .i64 0,.bool false]:=by simp[Ve,h]
theorem u8_of {c:UInt8}(h1:48<=c.toNat)(h2:c.toNat<56):UInt8.ofNat (48+(c.toNat-48))=c:=by
 have:48+(c.toNat-48)=c.toNat:=by omega
 rw[this];simp
theorem qaH {s t:Str}{c:UInt8}(hn:zQ t=true)(h1:48<=c.toNat)(h2:c.toNat<56)(h:s=t++[91,c,93]):jf s t (c.toNat-48) :=
 ⟨by omega,hn,by rw[h,zW,u8_of h1 h2]⟩
theorem qa7 {s a:Str}{i:Nat}(h:jf s a i):s=a++[91,UInt8.ofNat (48+i),93]/\(UInt8.ofNat (48+i)).toNat=48+i/\i<8:=by
 refine⟨h.2.2,?_,h.1⟩;have:=h.1;simp;omega
theorem We (s:Str)(hs:Fits s):Pure Tryz.prog GG 250 [.str s] (Ve s):=by
 refine Pure.vc qe Tryz.func250 rfl (by kernel_rfl) ?_;simp;cases hc:s.contains 91
 . refine qb.call (qcx GG s hs hc) rfl ?_;rw[wy (Yn hc)];simp
 . refine qb.call (qih GG s hs hc) rfl ?_;simp;refine qb.call (vk (jC s)) rfl ?_;cases hn:zQ (jC s)
   . rw[wy (qa8 hn)];simp
   . have no:(∀ c,JU s=[c,93]->¬ (48<=c.toNat/\c.toNat<56))->Ve s=.tup [.str [],.int .i64 0,.bool false]:=by
      intro h;refine wy (yf.2 fun a i hi=>?_);obtain⟨e1,e2,e3⟩:=qa7 hi;exact h _ hi.has.2.2 ⟨by omega,by omega⟩
     cases ht:JU s with
     | nil=>rw[no (by simp[ht])];simp
     | cons c r1=>
      cases r1 with
      | nil=>rw[no (by simp[ht])];simp
      | cons d r2=>
       cases r2 with
       | cons e r3=>
        have hl:¬ ((r3.length:Int)+1+1+1=2):=(by omega);rw[no (by simp[ht])];simp[hl]
       | nil=>
        by_cases hd:d=93
        . subst hd;by_cases h1:48<=c.toNat
          . have h1':¬ (c.toNat:Int)<48:=(by omega);by_cases h2:c.toNat<56
            . have h2':¬ (56:Int)<=c.toNat:=(by omega);have e:jf s (jC s) (c.toNat-48):=qaH hn h1 h2 (by have:=qmW hc;rw[ht]at this;exact this);rw[QW e];have w1:IntKind.u8.wrap ((c.toNat:Int)-48)=c.toNat-48:=(by simp[IntKind.wrap,IntKind.bits,IntKind.signed];omega);have w2:IntKind.i64.wrap ((c.toNat:Int)-48)=c.toNat-48:=wr (by omega) (by omega);have w3:((c.toNat:Int)-48)=((c.toNat-48:Nat):Int):=(by omega);simp[h1',h2',kW,w1,w2];omega
            . have h2':(56:Int)<=c.toNat:=(by omega);rw[no (fun c' e=>by rw[ht]at e;cases e;omega)];simp[h1',h2']
          . have h1':(c.toNat:Int)<48:=(by omega);rw[no (fun c' e=>by rw[ht]at e;cases e;omega)];simp[h1']
        . have hd':¬ (d.toNat:Int)=93:=by
           intro e;exact hd (UInt8.toNat_inj.1 (by simp;omega))
          rw[no (fun c' e=>by rw[ht]at e;cases e;exact absurd rfl hd)];simp[hd']
theorem qkQ (s:Str)(hs:Fits s):Pure Tryz.prog GG 192 [.str s] (.bool (yM s)):=by
 refine Pure.vc qe Tryz.func192 rfl (by kernel_rfl) ?_;simp
 cases he:yu s with
 | some p=>
  obtain⟨a,i⟩:=p;refine qb.call (by have:=We s hs;rw[QW (yK.1 he)]at this;exact this) rfl ?_;simp[yM,he]
 | none=>
  refine qb.call (by have:=We s hs;rw[wy he]at this;exact this) rfl ?_;simp;refine qb.call (vk s) rfl ?_;simp[yM,he]
theorem last3 {s:Str}(h:3<=s.length):∃ t x y z,s=t++[x,y,z]:=by
 refine⟨s.take (s.length-3),s[s.length-3]'(by omega),s[s.length-2]'(by omega),s[s.length-1]'(by omega),?_⟩;have e:s.drop (s.length-3)=[s[s.length-3]'(by omega),s[s.length-2]'(by omega),s[s.length-1]'(by omega)]:=by
  rw[qpP (by omega),qpP (by omega),qpP (by omega),List.drop_eq_nil_of_le (by omega)];simp only[List.cons.injEq,and_true,true_and];exact⟨by congr 1;omega,by congr 1;omega⟩
 rw[<- e,qqt]
theorem qft {s:Str}(h:s.length<4):yu s=none:=by
 rw[yf];intro a i hi;have:=WT hi.2.1;have:=qpO.2 this;rw[hi.2.2]at h;simp at h;omega
theorem qc9 (s:Str)(hs:Fits s):Pure Tryz.prog GG 330 [.str s] (Ve s):=by
 refine Pure.vc qe Tryz.func330 rfl (by kernel_rfl) ?_;by_cases h4:s.length<4
 . have h4':(s.length:Int)<4:=(by omega);rw[wy (qft h4)];simp[h4']
 . obtain⟨t,x,y,z,rfl⟩:=last3 (s:=s) (by omega);have hl:(t++[x,y,z]).length=t.length+3:=(by simp);rw[Fits,hl]at hs;rw[hl]at h4;have no:¬ (x=91/\z=93/\48<=y.toNat/\y.toNat<56/\zQ t=true)->Ve (t++[x,y,z])=.tup [.str [],.int .i64 0,.bool false]:=by
    intro h;refine wy (yf.2 fun a i hi=>h ?_);obtain⟨e1,e2,e3⟩:=qa7 hi;obtain⟨e4,e5⟩:=List.append_inj' e1 rfl;cases e5;subst e4;exact⟨rfl,rfl,by omega,by omega,hi.2.1⟩
   have h4':¬ (t.length:Int)+3<4:=(by omega);have w1:IntKind.i64.wrap ((t.length:Int)+3-1)=((t.length+2:Nat):Int):=(by rw[wr (by omega) (by omega)];omega);have w2:IntKind.i64.wrap ((t.length:Int)+3-2)=((t.length+1:Nat):Int):=(by rw[wr (by omega) (by omega)];omega);have w3:IntKind.i64.wrap (t.length:Int)=t.length:=wr (by omega) (by omega);have w4:IntKind.i64.wrap ((t.length:Int)+3-3)=t.length:=(by rw[wr (by omega) (by omega)];omega);have g1:(t++[x,y,z])[t.length+2]?=some z:=(by simp);have g2:(t++[x,y,z])[t.length+1]?=some y:=(by simp);have g3:(t++[x,y,z])[t.length]?=some x:=(by simp);have g4:(t++[x,y,z]).take t.length=t:=(by simp);have n1:((t.length:Int)+2).toNat=t.length+2:=(by omega);have n2:((t.length:Int)+1).toNat=t.length+1:=(by omega);have p1:(0:Int)<=(t.length:Int)+2:=(by omega);have p2:(0:Int)<=(t.length:Int)+1:=(by omega);have hle:t.length<=t.length+3:=(by omega);have hn210:=vg t (show t.length<_ by omega);have yes:x=91->z=93->48<=y.toNat->y.toNat<56->zQ t=true->Ve (t++[x,y,z])=.tup [.str t,.int .i64 ((y.toNat:Int)-48),.bool true]:=by
    rintro rfl rfl h1 h2 h3;rw[QW (qaH h3 h1 h2 rfl)];congr 4;omega
   generalize hS:t++[x,y,z]=S at *;generalize t.length=T at *;have q1:S[T+2]'(by omega)=z:=(qpy.1 g1).2;have q2:S[T+1]'(by omega)=y:=(qpy.1 g2).2;have q3:S[T]'(by omega)=x:=(qpy.1 g3).2;have le3:(T:Int)<=(T:Int)+3:=(by omega);by_cases hz:z=93
   . by_cases hx:x=91
     . subst hx hz;have wy1:IntKind.i64.wrap (y.toNat:Int)=y.toNat:=(by have:=y.toNat_lt;exact wr (by omega) (by omega));have wy2:IntKind.i64.wrap ((y.toNat:Int)-48)=y.toNat-48:=(by have:=y.toNat_lt;exact wr (by omega) (by omega));by_cases h1:48<=y.toNat
       . by_cases h2:y.toNat<56
         . have h1':¬ (y.toNat:Int)-48<0:=(by omega);have h2':¬ (8:Int)<=(y.toNat:Int)-48:=(by omega);simp[hl,h4',w1,w2,w3,w4,q1,q2,q3,le3,g4,n1,n2,p1,p2,hle,kW,wy1,wy2,h1',h2',zp,zU];refine qb.call hn210 rfl ?_;cases hnt:zQ t
           . rw[no (fun h=>by rw[hnt]at h;cases h.2.2.2.2)];simp
           . rw[yes rfl rfl h1 h2 hnt];simp
         . rw[no (fun h=>h2 h.2.2.2.1)];have h1':¬ (y.toNat:Int)-48<0:=(by omega);have h2':(8:Int)<=(y.toNat:Int)-48:=(by omega);simp[hl,h4',w1,w2,w3,w4,q1,q2,q3,le3,g4,n1,n2,p1,p2,hle,kW,wy1,wy2,h1',h2',zp,zU]
       . rw[no (fun h=>h1 h.2.2.1)];have h1':(y.toNat:Int)-48<0:=(by omega);simp[hl,h4',w1,w2,w3,w4,q1,q2,q3,le3,g4,n1,n2,p1,p2,hle,kW,wy1,wy2,h1',zp,zU]
     . have hx':¬ (x.toNat:Int)=91:=by
        intro e;exact hx (UInt8.toNat_inj.1 (by simp;omega))
       rw[no (fun h=>hx h.1)];subst hz;simp[hl,h4',w1,w2,w3,w4,q1,q2,q3,le3,g4,n1,n2,p1,p2,hx']
   . have hz':¬ (z.toNat:Int)=93:=by
      intro e;exact hz (UInt8.toNat_inj.1 (by simp;omega))
     rw[no (fun h=>hz h.2.1)];simp[hl,h4',w1,w2,w3,w4,q1,q2,q3,le3,g4,n1,n2,p1,p2,hz']
theorem qkP (s:Str)(hs:Fits s):Pure Tryz.prog GG 315 [.str s] (.bool (yM s)):=by
 refine Pure.vc qe Tryz.func315 rfl (by kernel_rfl) ?_;simp
 cases he:yu s with
 | some p=>
  obtain⟨a,i⟩:=p;refine qb.call (by have:=qc9 s hs;rw[QW (yK.1 he)]at this;exact this) rfl ?_;simp[yM,he]
 | none=>
  refine qb.call (by have:=qc9 s hs;rw[wy he]at this;exact this) rfl ?_;simp;refine qb.call (vg s hs) rfl ?_;simp[yM,he]
theorem qky (s:Str)(hs:Fits s):Pure Tryz.prog GG 152 [.str s] (.bool (yM s)):=by
 refine Pure.vc qe Tryz.func152 rfl (by kernel_rfl) ?_;simp;refine qb.call (vg s hs) rfl ?_;cases hn:zQ s
 . simp;refine qv.intro (fun n env U=>∃ k:Nat,1<=k/\k<=s.length+1/\n=s.length+1-k/\env 0=.str s/\env 3=.int .i64 k/\U=⟨[],[]⟩/\∀ a i,jf s a i->¬ a.length<k) s.length ⟨1,by simp,by simp,by simp,by simp,by simp,rfl,fun a i hi=>by have:=qpO.2 (WT hi.2.1);omega⟩ ?_;rintro n env U ⟨k,hk1,hk,rfl,h0,h3,rfl,hall⟩;by_cases hlt:k<s.length
   . have hlt':(k:Int)<s.length:=(by omega);have hle':(k:Int)<=s.length:=(by omega);have hle:k<=s.length:=(by omega);have step:(∀ a i,jf s a i->a.length≠k)->∀ a i,jf s a i->¬ a.length<k+1:=fun h a i hi hl=>by
      rcases qqv.1 hl with h1|h1
      . exact hall a i hi h1
      . exact h a i hi h1
     have at91:∀ a i,jf s a i->a.length=k->s[k]=91/\s.take k=a:=fun a i hi hl=>by
      obtain⟨_,_,rfl⟩:=hi;subst hl;simp[zW]
     have hw:IntKind.i64.wrap ((k:Int)+1)=((k+1:Nat):Int):=(by rw[wr (by omega) (by omega)];omega);by_cases hc:s[k]=91
     . simp[h0,h3,hlt,hc,zp,zU,hle,hle'];refine qb.call (vg (s.take k) (by simp;omega)) rfl ?_;cases ht:zQ (s.take k)
       . simp[h0,h3,hw];refine⟨_,by omega,k+1,by omega,by omega,rfl,rfl,fun a i hi=>Nat.not_lt.1 (step (fun a i hi hl=>?_) a i hi)⟩;have:=(at91 a i hi hl).2;rw[this,hi.2.1]at ht;cases ht
       . simp[h0,h3];refine qv.intro (fun n env U=>∃ i:Nat,i<=8/\n=8-i/\env 0=.str s/\env 3=.int .i64 k/\env 4=.int .i64 i/\U=⟨[],[]⟩/\∀ j,j<i->s≠zW (s.take k) j) 8 ⟨0,by simp[h0,h3]⟩ ?_;rintro n env U ⟨i,hi,rfl,h0,h3,h4,rfl,hin⟩;by_cases h8:i<8
         . have h8':(i:Int)<8:=(by omega);simp[h0,h3,h4,h8',zp,zU,hle,hle'];refine qb.call (Zx (s.take k) i h8 (by have:=wo ht;omega)) rfl ?_;by_cases he:s=zW (s.take k) i
           . have hv:yM s=true:=(by simp[yM,wz (show jf s (s.take k) i from ⟨h8,ht,he⟩)]);rw[<- he];simp[h0,hv]
           . simp[h0,h3,h4,he];refine⟨_,by omega,i+1,by omega,rfl,wr (by omega) (by omega),?_⟩;intro j hj e;rcases qqv.1 hj with hj|rfl
             . exact hin j hj e
             . exact he e
         . have h8':¬ (i:Int)<8:=(by omega);simp[h0,h3,h4,h8',hw];refine⟨_,by omega,k+1,by omega,by omega,rfl,rfl,fun a i hi=>Nat.not_lt.1 (step (fun a i' hi' hl=>?_) a i hi)⟩;have:=(at91 a i' hi' hl).2;exact hin i' (by have:=hi'.1;omega) (by rw[this];exact hi'.2.2)
     . have hc':¬ (s[k].toNat:Int)=91:=by
        intro e;exact hc (UInt8.toNat_inj.1 (by simp;omega))
       simp[h0,h3,hlt,hc',hw];refine⟨_,by omega,k+1,by omega,by omega,rfl,rfl,fun a i hi=>Nat.not_lt.1 (step (fun a i hi hl=>?_) a i hi)⟩;exact hc (at91 a i hi hl).1
   . have hlt':¬ (k:Int)<s.length:=(by omega);have hv:yM s=false:=by
      have:yu s=none:=yf.2 fun a i hi=>hall a i hi (by rw[hi.2.2]at hlt;simp at hlt;omega)
      simp[yM,hn,this]
     simp[h0,h3,hlt,hv]
 . simp[yM,hn]
section
theorem qdg {S:Type}{stp:S->Ex->S×Bool}{s:S}{e:Ex}:Qy stp s (pre e)=if (stp s e).2=true then Qy stp (stp s e).1 (kg e.args) else ((stp s e).1,false):=by
 rw[jo,Qy]
theorem look {hd:List Blk}{c:Nat}(hc:hd.length=c){t:List Blk}{k:Nat}:(hd++t)[c+k]?=t[k]? := by
 subst hc;rw[qpG (by omega)];simp
theorem qkC {tail t:List Blk}{k:Nat}{b:Blk}(h:tail[k]?=some b):(tail++t)[k]?=some b:=by
 rw[qpL (qpy.1 h).1,h]
def Wen (e:Ex):Prop:=∀ x∈pre e,Fits x.args/\Fits x.name
theorem Wen.fits {e:Ex}(h:Wen e):Fits e.args:=(h e (by rw[jo];simp)).1
theorem Wen.nm {e:Ex}(h:Wen e):Fits e.name:=(h e (by rw[jo];simp)).2
theorem Wen.arg {e a:Ex}(h:Wen e)(ha:a∈e.args):Wen a:=fun x hx=>h x (by rw[jo];exact qq3 _ (QJ.2 ⟨a,ha,hx⟩))
section
variable {S:Type}{stp:S->Ex->S×Bool}{hd:S->List Blk}{T:S->List (Option Nat)}{c:Nat}{vf:FuncId}{cap:List AV}{m:S->Nat}
def qbu (stp:S->Ex->S×Bool)(hd:S->List Blk)(T:S->List (Option Nat))(vf:FuncId)(cap:List AV)(m:S->Nat):Prop :=
 ∀ s tail e,Wen e->0<m s->qf Tryz.prog GG vf (.agg (qq e)::cap) ⟨hd s++tail,T s⟩ (fun r U'=>r=.bool (stp s e).2/\∃ t,U'=⟨hd (stp s e).1++(tail++t),T (stp s e).1⟩)
theorem qmh (hm:∀ s e,m s<=m (stp s e).1+1):∀ (s:S) (l:List Ex),m s<=m (Qy stp s l).1+l.length
 | s,[]=>by simp[Qy]
 | s,e::r=>by
  simp only[Qy];split
  . have:=hm s e;have:=qmh hm (stp s e).1 r;simp;omega
  . have:=hm s e;simp;omega
theorem qoZ (hc:∀ s,(hd s).length=c)(hm:∀ s e,m s<=m (stp s e).1+1)(hv:qbu stp hd T vf cap m):∀ e,Wen e->∀ s tail kb kd,(pre e).length<=m s->tail[kb]?=some (.cells [.fn vf [] cap])->tail[kd]?=some (.cells [.fn 190 [] [.ptr (c+kb) 0,.ptr (c+kd) 0]]) ->
 qf Tryz.prog GG 190 [.agg (qq e),.ptr (c+kb) 0,.ptr (c+kd) 0] ⟨hd s++tail,T s⟩ (fun r U'=>r=.bool (Qy stp s (pre e)).2/\∃ t,U'=⟨hd (Qy stp s (pre e)).1++(tail++t),T (Qy stp s (pre e)).1⟩):=by
 refine Ex.ind fun e ih hwe s tail kb kd hsz hb hd'=>?_
 rw[jo,qpQ]at hsz;refine qf.vc qe Tryz.func190 rfl (by kernel_rfl) ?_;have lb:∀ s t,(hd s++(tail++t))[c+kb]?=some (.cells [.fn vf [] cap]):=fun s t=>by rw[look (hc s),qkC hb]
 have ld:∀ s t,(hd s++(tail++t))[c+kd]?=some (.cells [.fn 190 [] [.ptr (c+kb) 0,.ptr (c+kd) 0]]):=fun s t=>by rw[look (hc s),qkC hd']
 have lx:∀ s (t:List Blk) (x:Blk) (u:List Blk),(hd s++(tail++(t++x::u)))[c+(tail.length+t.length)]?=some x:=fun s t x u=>by
  rw[look (hc s),qpG (by omega),qpG (by omega)];simp
 have lx0:∀ s (x:Blk) (u:List Blk),(hd s++(tail++(x::u)))[c+tail.length]?=some x:=fun s x u=>by
  have:=lx s [] x u;simpa using this
 simp[qd,hc,lb,ld,lx0];rw[<- qd e];refine qf.imp (hv s (tail++[.cells (qq e)]) e hwe (by omega)) ?_;rintro r U' ⟨rfl,t,rfl⟩;have e0:hd (stp s e).1++(tail++[Blk.cells (qq e)]++t)=hd (stp s e).1++(tail++(Blk.cells (qq e)::t)):=by simp
 rw[e0];cases hst:(stp s e).2
 . simp[qdg,hst]
 . have hl:=hwe.fits;simp only[qd e];simp[hc,lx0];refine qv.intro (fun n env U=>∃ i s' tl,i<=e.args.length/\n=e.args.length-i/\env 1=.ptr (c+kb) 0/\env 2=.ptr (c+kd) 0/\env 12=.sl 4 (e.args.map qq) .none/\env 13=.int .i64 e.args.length/\env 14=.int .i64 i/\U=⟨hd s'++(tail++tl),T s'⟩/\(kg (e.args.drop i)).length<=m s'/\Qy stp s (pre e)=Qy stp s' (kg (e.args.drop i))) e.args.length ⟨0,(stp s e).1,_,by simp,by simp,by simp,by simp,by simp,by simp,by simp,rfl,by have:=hm s e;simp;omega,by rw[qdg,hst];simp⟩ ?_;rintro n env U ⟨i,s',tl,hi,rfl,h1,h2,h12,h13,h14,rfl,hsz',hrun⟩
   cases hv':e.args[i]? with
   | none=>
    have hcn:¬ i<e.args.length:=(by simp at hv';omega);have hd0:e.args.drop i=[]:=(by simp;omega);rw[hd0]at hrun;simp[h1,h2,h12,h13,h14,hcn,hrun,Qy]
   | some a=>
    obtain⟨hcn,hve⟩:=qpy.1 hv';have hma:=qpz hv';rw[zA hv',jZ,J2]at hrun;rw[zA hv',jZ,qpD]at hsz';have hmr:=qmh hm s' (pre a);have set1:∀ (z x:Blk),(hd s'++(tail++(tl++[z]))).set (c+(tail.length+tl.length)) x=hd s'++(tail++(tl++[x])):=fun z x=>by
     rw[qpT,if_neg (by rw[hc];omega),hc,qpT,if_neg (by omega),qpT,if_neg (by omega)];have:c+(tail.length+tl.length)-c-tail.length-tl.length=0:=by omega
     rw[this];rfl
    simp[h1,h2,h12,h13,h14,hcn,hve,qd a,hc,lx,set1,lb,ld];rw[<- qd a];refine qf.imp (ih a hma (hwe.arg hma) s' (tail++(tl++[.cells (qq a)])) kb kd (by omega) (qkC hb) (qkC hd')) ?_;rintro r U' ⟨rfl,t',rfl⟩;cases hr:(Qy stp s' (pre a)).2
    . rw[hr]at hrun;simp only[qpV,if_false]at hrun;simp[hrun,hr]
    . rw[hr]at hrun;simp only[if_true]at hrun;simp[h1,h2,h12,h13,h14];exact⟨_,by omega,i+1,by omega,rfl,wr (by omega) (by omega),_,⟨⟨_,rfl⟩,rfl⟩,by omega,hrun⟩
theorem qbC (hc:∀ s,(hd s).length=c)(hm:∀ s e,m s<=m (stp s e).1+1)(hv:qbu stp hd T vf cap m)(e:Ex)(hwe:Wen e)(s:S)(hsz:(pre e).length<=m s)(tail:List Blk) :
 qf Tryz.prog GG 138 [.agg (qq e),.fn vf [] cap] ⟨hd s++tail,T s⟩ (fun r U'=>∃ t,U'=⟨hd (Qy stp s (pre e)).1++(tail++t),T (Qy stp s (pre e)).1⟩):=by
 refine qf.vc qe Tryz.func138 rfl (by kernel_rfl) ?_;have set2:∀ (x y z w:Blk),(hd s++(tail++[x,y,z])).set (c+(tail.length+(1+1))) w=hd s++(tail++[x,y,w]):=fun x y z w=>by
  rw[qpT,if_neg (by rw[hc];omega),hc,qpT,if_neg (by omega)];have:c+(tail.length+(1+1))-c-tail.length=2:=by omega
  rw[this];rfl
 have l0:∀ (x:Blk) (u:List Blk),(hd s++(tail++(x::u)))[c+tail.length]?=some x:=fun x u=>by
  rw[look (hc s),qpG (by omega)];simp
 have l2:∀ (x y z:Blk) (u:List Blk),(hd s++(tail++(x::y::z::u)))[c+(tail.length+(1+1))]?=some z:=fun x y z u=>by
  rw[look (hc s),qpG (by omega)];have:tail.length+(1+1)-tail.length=2:=by omega
  rw[this];rfl
 simp[qd e,hc,set2,l0,l2];rw[<- qd e];have k:=qoZ hc hm hv e hwe s (tail++[.cells (qq e),.cells [.fn vf [] cap],.cells [.fn 190 [] [.ptr (c+(tail.length+1)) 0,.ptr (c+(tail.length+1)+1) 0]]]) (tail.length+1) (tail.length+1+1) hsz
  (by
    rw[qpG (by omega)];have:tail.length+1-tail.length=1:=by omega
    rw[this];rfl)
  (by
    rw[qpG (by omega)];have:tail.length+1+1-tail.length=2:=by omega
    rw[this];rfl)
 refine qf.imp k ?_;rintro r U' ⟨_,t,rfl⟩;exact⟨_,by rw[qp6]⟩
end
end
section
theorem Yq {α:Type}{R:Nat->α->Prop}:∀ (n:Nat),(∀ i,i<n->∃ y,R i y)->∃ l:List α,l.length=n/\∀ i y,l[i]?=some y->R i y
 | 0,_=>⟨[],rfl,by simp⟩
 | n+1,h=>by
  obtain⟨l,h1,h2⟩:=Yq n fun i hi=>h i (by omega)
  obtain⟨y,hy⟩:=h n (by omega);refine⟨l++[y],by simp[h1],fun i z hz=>?_⟩;rw[qqj]at hz;split at hz
  . exact h2 i z hz
  . rename_i hi;have:i-l.length=0:=by
     rcases qqE (i-l.length) with h0|h0
     . exact h0
     . rw[qpW (by simp;omega)]at hz;cases hz
    rw[this]at hz;cases hz;have:i=n:=by omega
    subst this;exact hy
section
variable {H:Type}{enc:TypeId×Value->H}{w:World}{base:Nat}{held:Bool}
abbrev KMw (w:World):Kn:=Go.Abs.K0 (qbX w)
theorem qh.get {K:Kn}:∀ {l:List AV} {vs:List Value},qh K l vs->vs.length=l.length/\∀ (j:Nat) (a:AV),l[j]?=some a->∃ v,vs[j]?=some v/\qg K a v
 | [],_,h=>by simp only[qh]at h;subst h;simp
 | a::r,_,h=>by
  simp only[qh]at h;obtain⟨v,vr,rfl,h1,h2⟩:=h;obtain⟨k1,k2⟩:=qh.get h2;refine⟨by simp[k1],fun j b hj=>?_⟩
  cases j with
  | zero=>simp at hj;subst hj;exact⟨v,rfl,h1⟩
  | succ j=>simp at hj;exact k2 j b hj
theorem J8 {α:Type}{t e sz:Nat}{en:α->List AV}{good:α->Prop}{X:DataW H->Prop}{n:Nat}(ht:Tryz.prog.underlying t=some (.slice e))(hsz:Tryz.prog.cellsOf e=sz)(hpos:0<sz)
 (hat:∀ y,(en y).all AV.atom=true/\(en y).length=sz)
 (hel:∀ cs x,DataW.trod enc Tryz.prog w base (fun _=>true) held n e cs=some x->X x.1->∃ y,qh (KMw w) (en y) cs/\good y)
 {cs:List Value} {x:DataW H×List MemPlace} (h:DataW.trod enc Tryz.prog w base (fun _=>true) held (n+1) t cs=some x) (hX:∀ E S,x.1=.slice E S->∀ d∈E,X d) :
 ∃ (l:List α) (v:Value),cs=[v]/\qg (KMw w) (.sl sz (l.map en) .none) v/\Fits l/\(∀ y∈l,good y)/\∀ N,(∀ E S,x.1=.slice E S->E.length<=N)->l.length<=N:=by
 rcases DataW.trod_slice ht h with ⟨rfl,rfl⟩|⟨a,len,cap,elems,rest,m,hm,rfl,rfl,hb,hl,hc,hlen,hel',hsp,_⟩
 . exact⟨[],_,rfl,by simp only[qg];exact .inl ⟨⟨none,rfl,.inl rfl⟩,rfl,trivial⟩,by simp,by simp,by simp⟩
 . have hnm:n=m:=(by omega);subst hnm;rw[hsz]at hel' hsp;have one:∀ i,i<len->∃ y,∃ cs',w.cells? base (a.add (i*sz)) sz=some cs'/\qh (KMw w) (en y) cs'/\good y:=by
    intro i hi;have:=hel' i hi;rw[qpA (by omega)]at this;obtain⟨cs',h1,h2⟩:=qqP.1 this;obtain⟨y,h3,h4⟩:=hel cs' _ h2 (hX _ _ rfl _ (List.mem_map_of_mem (qrI _)));exact⟨y,cs',h1,h3,h4⟩
   by_cases h0:cap=0
   . have hl0:len=0:=(by omega);subst h0 hl0;exact⟨[],_,rfl,by simp only[qg];exact .inl ⟨⟨some a,rfl,.inr trivial⟩,rfl,trivial⟩,by simp,by simp,by simp⟩
   . have spot:a.spot=none:=by
      have rd:∃ cs',w.cells? base (a.add 0) sz=some cs':=by
       by_cases hl0:0<len
       . obtain⟨_,cs',h1,_⟩:=one 0 hl0;rw[qrh]at h1;exact⟨cs',h1⟩
       . obtain⟨hr1,hr2⟩:=hsp rfl;have:=hr2 0 (by omega);rw[qpA (by omega),show len+0=0 by omega,qrh]at this;obtain⟨cs',h1,_⟩:=qqP.1 this;exact⟨cs',h1⟩
      obtain⟨cs',h1⟩:=rd;obtain⟨_,hlen',hc'⟩:=World.cells?_some h1;have:=hc' 0 hpos;rw[qpA (by omega)]at this
      cases hs:a.spot with
      | none=>rfl
      | some s=>
       simp only[Addr.add,if_true]at this;unfold World.cell? at this;rw[hs]at this;split at this<;>simp at this
     obtain⟨b,o,s⟩:=a;simp only at spot;subst spot;obtain⟨l,hl1,hl2⟩:=Yq len one;refine⟨l,_,rfl,?_,by rw[Fits,hl1];simp only[maxLen]at hc;omega,fun y hy=>?_,fun N hN=>?_⟩
     . simp only[qg];refine .inr ⟨b,o,cap,by simp[hl1],by simpa[hl1] using hl,qH.intro b sz _ o fun i r e=>?_,trivial⟩;rw[qpX,qpE]at e;obtain⟨y,hy,rfl⟩:=e;obtain⟨cs',h1,h2,_⟩:=hl2 i y hy;obtain⟨h3,h4⟩:=hat y;obtain⟨_,hlen',hc'⟩:=World.cells?_some h1;obtain⟨g1,g2⟩:=qh.get h2;refine⟨h4,h3,ql.intro b _ _ fun j z hz=>?_⟩;obtain⟨v,hv1,hv2⟩:=g2 j z hz;have hjl:j<sz:=(by rw[<- hlen'];exact (qpy.1 hv1).1);refine⟨v,?_,hv2⟩;have:=hc' j hjl;rw[hv1]at this;show w.cell? ⟨b,o+i*sz+j,none⟩=some v;rw[<- this];congr 1;simp only[Addr.add];by_cases hi0:i*sz=0
       . rw[if_pos hi0];by_cases hj0:j=0
         . rw[if_pos hj0,hi0,hj0];simp
         . rw[if_neg hj0,hi0];simp
       . rw[if_neg hi0];by_cases hj0:j=0
         . rw[if_pos hj0,hj0];simp
         . rw[if_neg hj0]
     . obtain⟨i,hi⟩:=qqg hy;obtain⟨_,_,_,hg⟩:=hl2 i y hi;exact hg
     . have:=hN _ _ rfl;simp only[qqd]at this;omega
theorem wh {α:Type}{t e sz:Nat}{en:α->List AV}{good:α->Prop}{n:Nat}(ht:Tryz.prog.underlying t=some (.slice e))(hsz:Tryz.prog.cellsOf e=sz)(hpos:0<sz)
 (hat:∀ y,(en y).all AV.atom=true/\(en y).length=sz)
 (hel:∀ cs x,DataW.trod enc Tryz.prog w base (fun _=>true) held n e cs=some x->∃ y,qh (KMw w) (en y) cs/\good y)
 {cs:List Value} {x:DataW H×List MemPlace} (h:DataW.trod enc Tryz.prog w base (fun _=>true) held (n+1) t cs=some x) :
 ∃ (l:List α) (v:Value),cs=[v]/\qg (KMw w) (.sl sz (l.map en) .none) v/\Fits l/\∀ y∈l,good y:=by
 obtain⟨l,v,h1,h2,h3,h4,_⟩:=J8 (X:=fun _=>True) ht hsz hpos hat (fun cs x h _=>hel cs x h) h (fun _ _ _ _ _=>trivial);exact⟨l,v,h1,h2,h3,h4⟩
end
end
end Go.Proofs.YtkpkjbchlabaaaaGreatDoor
end
