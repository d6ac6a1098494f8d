import Derived.Test.YtafbccendejkeaaGreatDoorProg
import Derived.KernelRfl
import Derived.Test.YtafbccendejkeaaGreatDoorPt05
import Derived.Laws.RangeAny
import Derived.Shelf.Lay
import Derived.Shelf.Strings.Search1
import Derived.WalkKit
import Derived.ChangeArms
import Derived.DataReads
set_option maxRecDepth 100000
set_option maxHeartbeats 16000000
set_option linter.all false
set_option linter.defProp false
namespace Go.Proofs.YtafbccendejkeaaGreatDoor
open Go Go.Abs Tryz Go.RowKit
@[simp]def D1:Dof prog 1=some ⟨1,8,[.nilf],.nilf,.fn,true⟩:=by kernel_rfl
@[simp]def D2:Dof prog 2=some ⟨1,8,[.int .i64 0],.int .i64 0,.int .i64,true⟩:=by kernel_rfl
@[simp]def D3:Dof prog 3=some ⟨1,8,[.int .i64 0],.int .i64 0,.int .i64,true⟩:=by kernel_rfl
@[simp]def D4:Dof prog 4=some ⟨1,1,[.bool false],.bool false,.bool,true⟩:=by kernel_rfl
@[simp]def D5:Dof prog 5=some ⟨1,1,[.int .u8 0],.int .u8 0,.int .u8,true⟩:=by kernel_rfl
@[simp]def D9:Dof prog 9=some ⟨1,16,[.str []],.str [],.str,true⟩:=by kernel_rfl
@[simp]def D22:Dof prog 22=some ⟨1,24,[.sl 0 [] .nil],.sl 0 [] .nil,.sl 54,true⟩:=by kernel_rfl
@[simp]def D23:Dof prog 23=some ⟨1,24,[.sl 0 [] .nil],.sl 0 [] .nil,.sl 79,true⟩:=by kernel_rfl
@[simp]def D24:Dof prog 24=some ⟨1,24,[.sl 0 [] .nil],.sl 0 [] .nil,.sl 82,true⟩:=by kernel_rfl
@[simp]def D25:Dof prog 25=some ⟨1,24,[.sl 0 [] .nil],.sl 0 [] .nil,.sl 28,true⟩:=by kernel_rfl
@[simp]def D27:Dof prog 27=some ⟨5,120,[.sl 0 [] .nil,.sl 0 [] .nil,.sl 0 [] .nil,.sl 0 [] .nil,.sl 0 [] .nil],.agg [.sl 0 [] .nil,.sl 0 [] .nil,.sl 0 [] .nil,.sl 0 [] .nil,.sl 0 [] .nil],.st [(0,22),(1,23),(2,23),(3,24),(4,25)],true⟩:=by kernel_rfl
@[simp]def D28:Dof prog 28=some ⟨1,24,[.sl 0 [] .nil],.sl 0 [] .nil,.sl 3,true⟩:=by kernel_rfl
@[simp]def D32:Dof prog 32=some ⟨1,8,[.int .i64 0],.int .i64 0,.int .i64,true⟩:=by kernel_rfl
@[simp]def D40:Dof prog 40=some ⟨1,8,[.int .u64 0],.int .u64 0,.int .u64,true⟩:=by kernel_rfl
@[simp]def D50:Dof prog 50=some ⟨2,16,[.int .i64 0,.int .i64 0],.agg [.int .i64 0,.int .i64 0],.st [(0,3),(1,3)],true⟩:=by kernel_rfl
@[simp]def D54:Dof prog 54=some ⟨4,40,[.str [],.int .i64 0,.int .i64 0,.int .i64 0],.agg [.str [],.int .i64 0,.int .i64 0,.int .i64 0],.st [(0,9),(1,3),(2,3),(3,3)],true⟩:=by kernel_rfl
@[simp]def D55:Dof prog 55=some ⟨1,8,[.nilp],.nilp,.ptr 67,true⟩:=by kernel_rfl
@[simp]def D62:Dof prog 62=some ⟨1,24,[.sl 0 [] .nil],.sl 0 [] .nil,.sl 150,true⟩:=by kernel_rfl
@[simp]def D64:Dof prog 64=some ⟨1,24,[.sl 0 [] .nil],.agg [.sl 0 [] .nil],.st [(0,62)],true⟩:=by kernel_rfl
@[simp]def D65:Dof prog 65=some ⟨1,8,[.nilf],.nilf,.fn,true⟩:=by kernel_rfl
@[simp]def D67:Dof prog 67=some ⟨11,216,[.sl 0 [] .nil,.sl 0 [] .nil,.sl 0 [] .nil,.sl 0 [] .nil,.sl 0 [] .nil,.sl 0 [] .nil,.sl 0 [] .nil,.sl 0 [] .nil,.int .i64 0,.bool false,.nilf],.agg [.sl 0 [] .nil,.sl 0 [] .nil,.sl 0 [] .nil,.sl 0 [] .nil,.sl 0 [] .nil,.sl 0 [] .nil,.sl 0 [] .nil,.sl 0 [] .nil,.int .i64 0,.bool false,.nilf],.st [(0,27),(5,23),(6,28),(7,64),(8,3),(9,4),(10,65)],true⟩:=by kernel_rfl
@[simp]def D79:Dof prog 79=some ⟨4,56,[.int .i64 0,.int .i64 0,.str [],.sl 0 [] .nil],.agg [.int .i64 0,.int .i64 0,.str [],.sl 0 [] .nil],.st [(0,3),(1,3),(2,9),(3,23)],true⟩:=by kernel_rfl
@[simp]def D80:Dof prog 80=some ⟨1,24,[.sl 0 [] .nil],.sl 0 [] .nil,.sl 210,true⟩:=by kernel_rfl
@[simp]def D82:Dof prog 82=some ⟨2,32,[.int .i64 0,.sl 0 [] .nil],.agg [.int .i64 0,.sl 0 [] .nil],.st [(0,3),(1,80)],true⟩:=by kernel_rfl
@[simp]def D96:Dof prog 96=some ⟨1,8,[.nilm],.nilm,.map 3 3,true⟩:=by kernel_rfl
@[simp]def qAl:Dof prog 103=some ⟨2,32,[.sl 0 [] .nil,.int .i64 0],.agg [.sl 0 [] .nil,.int .i64 0],.st [(0,64),(1,3)],true⟩:=by kernel_rfl
@[simp]def qAk:Dof prog 104=some ⟨1,8,[.nilf],.nilf,.fn,true⟩:=by kernel_rfl
@[simp]def qAj:Dof prog 106=some ⟨1,8,[.nilf],.nilf,.fn,true⟩:=by kernel_rfl
@[simp]def qAi:Dof prog 117=some ⟨1,8,[.nilf],.nilf,.fn,true⟩:=by kernel_rfl
@[simp]def qAh:Dof prog 119=some ⟨3,24,[.bool false,.int .u64 0,.int .u64 0],.agg [.bool false,.int .u64 0,.int .u64 0],.st [(0,4),(1,40),(2,40)],true⟩:=by kernel_rfl
@[simp]def qAg:Dof prog 126=some ⟨1,24,[.sl 0 [] .nil],.sl 0 [] .nil,.sl 80,true⟩:=by kernel_rfl
@[simp]def qw8:Dof prog 133=some ⟨1,8,[.nilm],.nilm,.map 135 3,true⟩:=by kernel_rfl
@[simp]def qAf:Dof prog 135=some ⟨2,16,[.int .i64 0,.int .i64 0],.agg [.int .i64 0,.int .i64 0],.st [(0,3),(1,3)],true⟩:=by kernel_rfl
@[simp]def qAe:Dof prog 148=some ⟨2,16,[.int .i64 0,.int .i64 0],.agg [.int .i64 0,.int .i64 0],.arr 2 3,true⟩:=by kernel_rfl
@[simp]def qAd:Dof prog 150=some ⟨3,24,[.int .i64 0,.int .i64 0,.int .i64 0],.agg [.int .i64 0,.int .i64 0,.int .i64 0],.st [(0,3),(1,3),(2,3)],true⟩:=by kernel_rfl
@[simp]def qAc:Dof prog 151=some ⟨1,8,[.nilf],.nilf,.fn,true⟩:=by kernel_rfl
@[simp]def qzF:Dof prog 164=some ⟨1,24,[.sl 0 [] .nil],.sl 0 [] .nil,.sl 215,true⟩:=by kernel_rfl
@[simp]def qAb:Dof prog 171=some ⟨1,8,[.nilf],.nilf,.fn,true⟩:=by kernel_rfl
@[simp]def qAa:Dof prog 174=some ⟨1,8,[.nilp],.nilp,.ptr 184,true⟩:=by kernel_rfl
@[simp]def qz9:Dof prog 180=some ⟨16,128,[.int .i64 0,.int .i64 0,.int .i64 0,.int .i64 0,.int .i64 0,.int .i64 0,.int .i64 0,.int .i64 0,.int .i64 0,.int .i64 0,.int .i64 0,.int .i64 0,.int .i64 0,.int .i64 0,.int .i64 0,.int .i64 0],.agg [.int .i64 0,.int .i64 0,.int .i64 0,.int .i64 0,.int .i64 0,.int .i64 0,.int .i64 0,.int .i64 0,.int .i64 0,.int .i64 0,.int .i64 0,.int .i64 0,.int .i64 0,.int .i64 0,.int .i64 0,.int .i64 0],.arr 16 3,true⟩:=by kernel_rfl
@[simp]def qz8:Dof prog 182=some ⟨1,8,[.nilm],.nilm,.map 9 3,true⟩:=by kernel_rfl
@[simp]def qz7:Dof prog 184=some ⟨8,176,[.sl 0 [] .nil,.sl 0 [] .nil,.sl 0 [] .nil,.sl 0 [] .nil,.sl 0 [] .nil,.sl 0 [] .nil,.sl 0 [] .nil,.nilm],.agg [.sl 0 [] .nil,.sl 0 [] .nil,.sl 0 [] .nil,.sl 0 [] .nil,.sl 0 [] .nil,.sl 0 [] .nil,.sl 0 [] .nil,.nilm],.st [(0,64),(1,27),(6,28),(7,182)],true⟩:=by kernel_rfl
@[simp]def qz6:Dof prog 187=some ⟨3,24,[.int .i64 0,.int .i64 0,.int .i64 0],.agg [.int .i64 0,.int .i64 0,.int .i64 0],.st [(0,3),(1,3),(2,3)],true⟩:=by kernel_rfl
@[simp]def qz5:Dof prog 188=some ⟨1,8,[.nilf],.nilf,.fn,true⟩:=by kernel_rfl
@[simp]def qz4:Dof prog 195=some ⟨1,8,[.int .u64 0],.int .u64 0,.int .u64,true⟩:=by kernel_rfl
@[simp]def qzi:Dof prog 197=some ⟨1,8,[.nilm],.nilm,.map 150 4,true⟩:=by kernel_rfl
@[simp]def qz3:Dof prog 199=some ⟨1,24,[.sl 0 [] .nil],.sl 0 [] .nil,.sl 4,true⟩:=by kernel_rfl
@[simp]def qz2:Dof prog 210=some ⟨4,32,[.int .i64 0,.int .i64 0,.int .i64 0,.bool false],.agg [.int .i64 0,.int .i64 0,.int .i64 0,.bool false],.st [(0,3),(1,3),(2,3),(3,4)],true⟩:=by kernel_rfl
@[simp]def qz1:Dof prog 212=some ⟨1,24,[.sl 0 [] .nil],.agg [.sl 0 [] .nil],.st [(0,164)],true⟩:=by kernel_rfl
@[simp]def qzE:Dof prog 215=some ⟨2,24,[.str [],.int .i64 0],.agg [.str [],.int .i64 0],.st [(0,9),(1,3)],true⟩:=by kernel_rfl
@[simp]def qz0:Dof prog 217=some ⟨1,24,[.sl 0 [] .nil],.sl 0 [] .nil,.sl 171,true⟩:=by kernel_rfl
@[simp]def qzZ:Dof prog 223=some ⟨1,24,[.sl 0 [] .nil],.sl 0 [] .nil,.sl 9,true⟩:=by kernel_rfl
@[simp]def qzY:Dof prog 239=some ⟨1,24,[.sl 0 [] .nil],.sl 0 [] .nil,.sl 180,true⟩:=by kernel_rfl
@[simp]def qzX:Dof prog 249=some ⟨1,8,[.nilp],.nilp,.ptr 311,true⟩:=by kernel_rfl
@[simp]def qw7:Dof prog 251=some ⟨1,8,[.nilm],.nilm,.map 187 3,true⟩:=by kernel_rfl
@[simp]def qzW:Dof prog 253=some ⟨3,24,[.nilp,.nilf,.nilm],.agg [.nilp,.nilf,.nilm],.st [(0,249),(1,188),(2,251)],true⟩:=by kernel_rfl
@[simp]def qzV:Dof prog 275=some ⟨5,72,[.int .i64 0,.int .i64 0,.int .i64 0,.sl 0 [] .nil,.sl 0 [] .nil],.agg [.int .i64 0,.int .i64 0,.int .i64 0,.sl 0 [] .nil,.sl 0 [] .nil],.st [(0,3),(1,3),(2,32),(3,223),(4,223)],true⟩:=by kernel_rfl
@[simp]def qzU:Dof prog 286=some ⟨9,184,[.sl 0 [] .nil,.sl 0 [] .nil,.sl 0 [] .nil,.sl 0 [] .nil,.sl 0 [] .nil,.sl 0 [] .nil,.sl 0 [] .nil,.bool false,.int .i64 0],.agg [.sl 0 [] .nil,.sl 0 [] .nil,.sl 0 [] .nil,.sl 0 [] .nil,.sl 0 [] .nil,.sl 0 [] .nil,.sl 0 [] .nil,.bool false,.int .i64 0],.st [(0,27),(5,23),(6,28),(7,4),(8,3)],true⟩:=by kernel_rfl
@[simp]def qzh:Dof prog 291=some ⟨1,24,[.sl 0 [] .nil],.sl 0 [] .nil,.sl 326,true⟩:=by kernel_rfl
@[simp]def qzT:Dof prog 296=some ⟨1,24,[.sl 0 [] .nil],.sl 0 [] .nil,.sl 23,true⟩:=by kernel_rfl
@[simp]def qw6:Dof prog 309=some ⟨1,8,[.nilm],.nilm,.map 150 3,true⟩:=by kernel_rfl
@[simp]def qzS:Dof prog 311=some ⟨3,40,[.sl 0 [] .nil,.nilm,.bool false],.agg [.sl 0 [] .nil,.nilm,.bool false],.st [(0,62),(1,309),(2,4)],true⟩:=by kernel_rfl
@[simp]def qzR:Dof prog 313=some ⟨1,8,[.nilm],.nilm,.map 9 4,true⟩:=by kernel_rfl
@[simp]def qzQ:Dof prog 323=some ⟨1,24,[.sl 0 [] .nil],.sl 0 [] .nil,.sl 5,true⟩:=by kernel_rfl
@[simp]def qzg:Dof prog 326=some ⟨2,16,[.int .i64 0,.int .i64 0],.agg [.int .i64 0,.int .i64 0],.st [(0,3),(1,3)],true⟩:=by kernel_rfl
@[simp]def qzP:Dof prog 338=some ⟨1,2,[.int .u16 0],.int .u16 0,.int .u16,true⟩:=by kernel_rfl
@[simp]def qzO:Dof prog 357=some ⟨24,24,[.int .u8 0,.int .u8 0,.int .u8 0,.int .u8 0,.int .u8 0,.int .u8 0,.int .u8 0,.int .u8 0,.int .u8 0,.int .u8 0,.int .u8 0,.int .u8 0,.int .u8 0,.int .u8 0,.int .u8 0,.int .u8 0,.int .u8 0,.int .u8 0,.int .u8 0,.int .u8 0,.int .u8 0,.int .u8 0,.int .u8 0,.int .u8 0],.agg [.int .u8 0,.int .u8 0,.int .u8 0,.int .u8 0,.int .u8 0,.int .u8 0,.int .u8 0,.int .u8 0,.int .u8 0,.int .u8 0,.int .u8 0,.int .u8 0,.int .u8 0,.int .u8 0,.int .u8 0,.int .u8 0,.int .u8 0,.int .u8 0,.int .u8 0,.int .u8 0,.int .u8 0,.int .u8 0,.int .u8 0,.int .u8 0],.arr 24 5,true⟩:=by kernel_rfl
abbrev Str:=List UInt8
structure Var where
 name:Str
 width:Int
 mode:Int
 value:Int
structure Weight where
 lo:Int
 hi:Int
 weight:Int
 each:Bool
structure Dist where
 var:Int
 weights:List Weight
inductive Ex where
 |mk (op n:Int) (name:Str) (args:List Ex)
structure Problem where
 vars:List Var
 hard:List Ex
 soft:List Ex
 dists:List Dist
 groups:List (List Int)
structure Signal where
 name:Str
 value:Int
def Ex.op:Ex->Int|.mk o _ _ _=>o
def Ex.n:Ex->Int|.mk _ n _ _=>n
def Ex.name:Ex->Str|.mk _ _ s _=>s
def Ex.args:Ex->List Ex|.mk _ _ _ a=>a
@[simp]def Ex.op_mk{o n s a}:(Ex.mk o n s a).op=o:=rfl
def qEC:=@Ex.op_mk
@[simp]def Ex.n_mk{o n s a}:(Ex.mk o n s a).n=n:=rfl
@[simp]def Ex.name_mk{o n s a}:(Ex.mk o n s a).name=s:=rfl
def qED:=@Ex.name_mk
@[simp]def Ex.args_mk{o n s a}:(Ex.mk o n s a).args=a:=rfl
def qEE:=@Ex.args_mk
@[simp]def qJ(v:Var):List AV:=[.str v.name,.int .i64 v.width,.int .i64 v.mode,.int .i64 v.value]
@[simp]def qw(w:Weight):List AV:=[.int .i64 w.lo,.int .i64 w.hi,.int .i64 w.weight,.bool w.each]
@[simp]def zl(d:Dist):List AV:=[.int .i64 d.var,.sl 4 (d.weights.map qw) .none]
@[simp]def qh(n:Int):List AV:=[.int .i64 n]
@[simp]def jk(s:Str):List AV:=[.str s]
@[simp]def qG(s:Signal):List AV:=[.str s.name,.int .i64 s.value]
mutual
def qp:Ex->List AV
 |.mk o n s a=>[.int .i64 o,.int .i64 n,.str s,.sl 4 (qh9 a) .none]
def qh9:List Ex->List (List AV)
 |[]=>[]
 |a::r=>qp a::qh9 r
end
@[simp]def qod:∀l,qh9 l=l.map qp
 |[]=>rfl
 |a::r=>by simp[qh9,qod r]
def qc(e):qp e=[.int .i64 e.op,.int .i64 e.n,.str e.name,.sl 4 (e.args.map qp) .none]:=by cases e;simp[qp]
@[simp]def qx(l:List Int):List AV:=[.sl 1 (l.map qh) .none]
@[simp]def qt(p:Problem):List AV:=[.sl 4 (p.vars.map qJ) .none,.sl 4 (p.hard.map qp) .none,.sl 4 (p.soft.map qp) .none,.sl 2 (p.dists.map zl) .none,.sl 1 (p.groups.map qx) .none]
@[simp]def qxM(l:List Var):qZ (l.map qJ)=true:=zp (fun x=>by simp) l
@[simp]def qwe(l:List Weight):qZ (l.map qw)=true:=zp (fun x=>by simp) l
@[simp]def qyN(l:List Dist):qZ (l.map zl)=true:=zp (fun x=>by simp) l
@[simp]def qzq(l:List Int):qZ (l.map qh)=true:=zp (fun x=>by simp) l
@[simp]def qzp(l:List Str):qZ (l.map jk)=true:=zp (fun x=>by simp) l
@[simp]def qwf(l:List Signal):qZ (l.map qG)=true:=zp (fun x=>by simp) l
@[simp]def qyM(l:List (List Int)):qZ (l.map qx)=true:=zp (fun x=>by simp) l
mutual
def qwg:∀e,qz (qp e)=true
 | .mk o n s a=>by
  have:=qut a;simp[qp,this];simpa using this
def qut:∀l,qZ (qh9 l)=true
 |[]=>rfl
 |a::r=>by simp only[qh9,qZ,qwg a,qut r,qEt]
end
@[simp]def nrE(e):qz (qp e)=true:=qwg e
@[simp]def quu(l:List Ex):qZ (l.map qp)=true:=zp (fun x=>nrE x) l
def qe:Tryz.prog.follows .mixedOrders=true:=by kernel_rfl
abbrev Fits{α:Type}(l:List α):Prop:=l.length<9223372036854775808
def zm{α:Type}(p:α->Bool):List α->Int->Int
 |[],_=>-1
 |v::r,i=>if p v then i else zm p r (i+1)
def qaS{α p}:∀{l:List α}{i:Int},0<=i->(0<=zm p l i↔l.any p=true)
 |[],i,_=>by simp[zm]
 | v::r,i,h=>by
  simp only[zm,qCn];split
  . rename_i hp;simp[hp,h]
  rename_i hp;simp[hp,qaS (l:=r) (i:=i+1) (by omega)]
@[simp]def qkM{α:Type}(p:α->Bool)(l:List α):decide (0<=zm p l 0)=l.any p:=by
 rw[qBd,decide_eq_true_iff];exact qaS (by omega)
def qdz:List Str:=[[99,108,97,115,115],[101,120,116,101,110,100,115],[114,97,110,100],[114,97,110,100,99],[115,116,97,116,101],[99,111,110,115,116,114,97,105,110,116],[115,111,102,116],[100,105,115,116],[105,102],[101,108,115,101],[101,97,99,104],[105,110],[115,111,108,118,101],[98,101,102,111,114,101],[105,110,115,105,100,101],[112,114,111,112,101,114,116,121],[115,101,113],[97,110,100],[111,114],[110,111,116],[115,101,116],[104,111,108,100],[112,108,97,105,110],[114,101,112,101,97,116]]
def wu(n:Int):Bool:=decide (97<=n)&&decide (n<=122)
def J5(n:Int):Bool:=decide (48<=n)&&decide (n<=57)
def kR(n:Int):Bool:=wu n||J5 n||(decide (65<=n)&&decide (n<=90))||decide (n=95)
def ZU(c:UInt8):Bool:=kR c.toNat
def QP:Str->Bool
 |[]=>false
 |c::r=>wu c.toNat&&(c::r).all ZU
def z6(s:Str):Bool:=QP s&&decide (s.length<=16)&&!qdz.contains s
def qeq{s}(h:z6 s=true):∀c∈s,ZU c=true:=by
 simp only[z6,qAr]at h;obtain⟨⟨h,_⟩,_⟩:=h
 cases s with
 |nil=>simp
 | cons c r=>
  simp only[QP,qAr]at h;exact fun x hx=>qAv.1 h.2 x hx
def wP{s}(h:z6 s=true):∀c∈s,c≠91:=by
 intro c hc e;have:=qeq h c hc;subst e
 revert this
 decide
def qaE{s}(h:z6 s=true):s≠[]:=by
 rintro rfl;simp[z6,QP]at h
def zT(a:Str)(i:Nat):Str:=a++[91,UInt8.ofNat (48+i),93]
@[simp]def qpV{a i}:(zT a i).length=a.length+3:=by simp[zT]
def Wi{a b i j}(hi:i<8)(hj:j<8)(h:zT a i=zT b j):a=b/\i=j:=by
 obtain⟨h1,h2⟩:=List.append_inj' h rfl;refine⟨h1,?_⟩;simp only[qCE,true_and,and_true]at h2;have:=congrArg UInt8.toNat h2;simp only[UInt8.toNat_ofNat']at this;omega
def jy(s a:Str)(i:Nat):Prop:=i<8/\z6 a=true/\s=zT a i
def jy.unique{s a b i j}(h:jy s a i)(h':jy s b j):a=b/\i=j:=Wi h.1 h'.1 (h.2.2.symm.trans h'.2.2)
open Classical in
noncomputable def kW(s:Str):Option (Str×Nat):=if h:∃p:Str×Nat,jy s p.1 p.2 then some h.choose else none
def vy{s a i}(h:jy s a i):kW s=some (a,i):=by
 have hex:∃p:Str×Nat,jy s p.1 p.2:=⟨(a,i),h⟩;unfold kW;rw[dif_pos hex];obtain⟨h1,h2⟩:=hex.choose_spec.unique h;rw[<- h1,<- h2]
def kI{s a i}:kW s=some (a,i)↔jy s a i:=by
 constructor
 . intro h;unfold kW at h;split at h
   . rename_i hex;have:=hex.choose_spec;rw[Option.some.inj h]at this;exact this
   cases h
 exact vy
def yT{s}:kW s=none↔∀a i,¬jy s a i:=by
 constructor
 . intro h a i hi;rw[vy hi]at h;cases h
 intro h
 cases e:kW s with
 |none=>rfl
 |some p=>exact absurd (kI.1 (show kW s=some (p.1,p.2) from e)) (h _ _)
noncomputable def k0(s:Str):Bool:=z6 s||(kW s).isSome
def j9(s:Str):Str:=s.takeWhile (· != 91)
def Y5(s:Str):Str:=(s.dropWhile (· != 91)).tail
def qpY{s}(h:s.contains 91=true):s=j9 s++91::Y5 s:=by
 unfold j9 Y5
 induction s with
 |nil=>simp at h
 | cons c r ih=>
  by_cases hc:c=91
  . subst hc;simp
  have:r.contains 91=true:=by
   simp only[List.contains_cons,qCj,beq_iff_eq]at h;rcases h with h|h
   . exact absurd h.symm hc
   exact h
  have hb:(c != 91)=true:=by simpa using hc
  rw[qDC,List.dropWhile_cons,if_pos hb,if_pos hb,qAL,<- ih this]
def qh0{a:Str}{t:Str}(h:∀c∈a,c≠91):j9 (a++91::t)=a:=by
 unfold j9
 induction a with
 |nil=>simp
 | cons c r ih=>
  have hb:(c != 91)=true:=by simpa using h c (by simp)
  rw[qAL,qDC,if_pos hb,ih fun x hx=>h x (by simp[hx])]
def qhh{a:Str}{t:Str}(h:∀c∈a,c≠91):Y5 (a++91::t)=t:=by
 unfold Y5
 induction a with
 |nil=>simp
 | cons c r ih=>
  have hb:(c != 91)=true:=by simpa using h c (by simp)
  rw[qAL,List.dropWhile_cons,if_pos hb,ih fun x hx=>h x (by simp[hx])]
def qoe{a i}:(zT a i).contains 91=true:=by simp[zT]
def jy.has{s a i}(h:jy s a i):s.contains 91=true/\j9 s=a/\Y5 s=[UInt8.ofNat (48+i),93]:=by
 obtain⟨h1,h2,rfl⟩:=h;exact⟨qoe,qh0 (wP h2),qhh (wP h2)⟩
def KC{s}(h:s.contains 91=false):kW s=none:=by
 rw[yT];intro a i hi;rw[hi.has.1]at h;cases h
def qU{α:Type}(f:α->Int):List α->Int
 |[]=>0
 |a::r=>if f a=0 then qU f r else f a
def ya{α f}:∀{l m:List α},qU f (l++m)=if qU f l=0 then qU f m else qU f l
 |[],m=>by simp[qU]
 | a::r,m=>by
  simp only[qAL,qU];split
  . exact ya
  rename_i h;simp
def zC{α f}:∀{l:List α},qU f l=0↔∀a∈l,f a=0
 |[]=>by simp[qU]
 | a::r=>by
  simp only[qU,qAM,forall_eq_or_imp];split
  . rename_i h;simp[h,zC]
  rename_i h;simp[h]
noncomputable def jW(v:Var):Int :=
 if k0 v.name=false then 7
 else if v.width<1\/8<v.width\/v.mode<0\/2<v.mode\/v.value<0\/(2:Int)^v.width.toNat<=v.value\/(v.mode≠0/\v.value≠0) then 1
 else 0
def Qf(l:List Var)(name:Str):Bool:=l.any fun v=>v.name==name
def Qm(l:List Var)(i:Nat):Bool:=match l[i]? with
 |some v=>Qf (l.take i) v.name
 |none=>false
def qpW(l:List Var):Bool:=(List.range l.length).any (Qm l)
open Classical in
noncomputable def WD(l:List Var)(name:Str):Bool:=match kW name with
 |some (a,i+1)=>!Qf l (zT a i)
 |_=>false
def yu:List Var->Int
 |[]=>0
 |v::r=>(if v.mode≠0 then v.width else 0)+yu r
noncomputable def jd(l:List Var):Int :=
 if 16<l.length then 2
 else if qU jW l≠0 then qU jW l
 else if qpW l=true then 8
 else if l.any (fun v=>WD l v.name)=true then 10
 else if 20<yu l then 2
 else 0
mutual
def Ex.ind{p:Ex->Prop}(h:∀e,(∀a∈e.args,p a)->p e):∀e,p e
 |.mk o n s a=>h _ (by simpa using Ex.indL h a)
def Ex.indL{p:Ex->Prop}(h:∀e,(∀a∈e.args,p a)->p e):∀(l:List Ex),∀a∈l,p a
 |[],_,hm=>by cases hm
 | e::r,a,hm=>by
  rcases qAM.1 hm with hm|hm
  . rw[hm];exact Ex.ind h e
  exact Ex.indL h r a hm
end
def qE7:=@Ex.ind
mutual
def pre:Ex->List Ex
 |.mk o n s a=>.mk o n s a::wm a
def wm:List Ex->List Ex
 |[]=>[]
 |e::r=>pre e++wm r
end
def jB(e):pre e=e::wm e.args:=by cases e;simp[pre]
@[simp]def qvY:wm []=[]:=by simp[wm]
@[simp]def yy{e r}:wm (e::r)=pre e++wm r:=by simp[wm]
def ve:∀{l m:List Ex},wm (l++m)=wm l++wm m
 |[],m=>by simp
 |e::r,m=>by simp[ve (l:=r),qA4]
mutual
def hgt:Ex->Nat
 |.mk _ _ _ a=>Je a+1
def Je:List Ex->Nat
 |[]=>0
 |e::r=>max (hgt e) (Je r)
end
def wv(e):hgt e=Je e.args+1:=by cases e;simp[hgt]
@[simp]def qnU:Je []=0:=by simp[Je]
@[simp]def ZV{e r}:Je (e::r)=max (hgt e) (Je r):=by simp[Je]
def qgm{l e}(h:e∈l):hgt e<=Je l:=by
 induction l with
 |nil=>cases h
 | cons a r ih=>
  rcases qAM.1 h with rfl|h
  . simp;omega
  have:=ih h;simp;omega
def qks{e a}(h:a∈e.args):hgt a<hgt e:=by
 have:=qgm h;rw[wv e];omega
def ZP{l x}:x∈wm l↔∃a∈l,x∈pre a:=by
 induction l with
 |nil=>simp
 |cons e r ih=>simp[ih]
def zB(op:Int):Int :=
 if op=1\/op=2\/op=24 then 0
 else if op=3\/op=4\/op=5\/op=6\/op=25 then 1
 else if op=22 then 3
 else if op=23 then -1
 else if op<1\/25<op then -1
 else 2
def ql(e:Ex):Bool :=
 if e.op=23 then decide (e.args.length%2=1/\3<=e.args.length/\e.args.length<=33)
 else decide ((e.args.length:Int)=zB e.op)
noncomputable def qs(e:Ex):Int :=
 if e.op<1\/25<e.op then 1
 else if(e.op=1/\(e.n<0\/65535<e.n))\/(e.op≠1/\e.n≠0) then 1
 else if(¬(e.op=2\/e.op=3\/e.op=24)/\e.name≠[])\/ql e=false then 1
 else if(e.op=2/\k0 e.name=false)\/((e.op=3\/e.op=24)/\z6 e.name=false) then 7
 else 0
def WI(e:Ex):Int:=IntKind.i64.wrap (pre e).length
noncomputable def zi(e:Ex):Int :=
 if qU qs (pre e)=0/\(24<hgt e\/400<WI e) then 2 else qU qs (pre e)
def Wz(ops:List Int)(out:List Str)(e:Ex):List Str:=if ops.contains e.op&&!out.contains e.name then out++[e.name] else out
def zO(ops:List Int)(e:Ex):List Str:=(pre e).foldl (Wz ops) []
def qoT{ops out e s}:s∈Wz ops out e↔s∈out\/(ops.contains e.op=true/\s=e.name):=by
 unfold Wz;by_cases h1:e.op∈ops
 . by_cases h2:e.name∈out
   . simp only[qEo.2 h1,qEo.2 h2,qEu,qCX,qAP,if_false,true_and];constructor
     . exact .inl
     rintro(h|rfl)
     . exact h
     exact h2
   . simp[h1,h2]
 simp[h1]
def qcY{ops s}:∀{l:List Ex}{out:List Str},s∈l.foldl (Wz ops) out↔s∈out\/∃e∈l,ops.contains e.op=true/\s=e.name
 |[],out=>by simp
 | e::r,out=>by
  rw[qA1,qcY,qoT];simp only[qAM,exists_eq_or_imp];constructor
  . rintro((h|h)|h)
    . exact .inl h
    . exact .inr (.inl h)
    . exact .inr (.inr h)
  rintro(h|h|h)
  . exact .inl (.inl h)
  . exact .inl (.inr h)
  exact .inr h
def j7{ops e s}:s∈zO ops e↔∃x∈pre e,ops.contains x.op=true/\s=x.name:=by
 unfold zO;rw[qcY];simp
def Yc(e:Ex):Bool:=(pre e).any fun x=>decide (x.op=3\/x.op=24)
def Zj(l:List Var)(e:Ex):Bool:=(pre e).any fun x=>decide (x.op=2)&&!Qf l x.name
def QN{e}:decide (0<(zO [3,24] e).length)=Yc e:=by
 rw[qBd,decide_eq_true_iff,List.length_pos_iff_exists_mem,Yc,qAW];constructor
 . rintro⟨s,hs⟩;obtain⟨x,h1,h2,_⟩:=j7.1 hs;exact⟨x,h1,by simpa using h2⟩
 rintro⟨x,h1,h2⟩;exact⟨x.name,j7.2 ⟨x,h1,by simpa using h2,rfl⟩⟩
def QF{l e}:(zO [2] e).any (fun s=>!Qf l s)=Zj l e:=by
 rw[qBd,Zj,qAW,qAW];constructor
 . rintro⟨s,hs,h⟩;obtain⟨x,h1,h2,rfl⟩:=j7.1 hs;exact⟨x,h1,by simp only[qAr,decide_eq_true_eq];exact⟨by simpa using h2,h⟩⟩
 rintro⟨x,h1,h2⟩;simp only[qAr,decide_eq_true_eq]at h2;exact⟨x.name,j7.2 ⟨x,h1,by simpa using h2.1,rfl⟩,h2.2⟩
noncomputable def zy(l:List Var)(e:Ex):Int :=
 if zi e≠0 then zi e else if Yc e=true then 9 else if Zj l e=true then 7 else 0
def yG(l:List Var)(i:Int):Bool:=decide (0<=i)&&(l[i.toNat]?).any fun v=>v.mode != 0
def zV(w:Weight):Bool:=decide (w.lo<0)||decide (w.hi<w.lo)||decide (65535<w.hi)||decide (w.weight<0)||decide (1000<w.weight)
def jQ(l:List Var)(d:List Dist)(i:Nat):Int:=match d[i]? with
 |some x=>if yG l x.var=false then 1 else if(d.take i).any (fun y=>y.var==x.var)=true then 8 else if 16<x.weights.length then 2 else if x.weights.any zV=true then 1 else 0
 |none=>0
def yr(l:List Var)(d:List Dist):Int:=qU (jQ l d) (List.range d.length)
def yb(l:List Var)(g:List (List Int)):Prop:=(∀x∈g,x≠[])/\(∀i∈g.flatten,yG l i=true)/\g.flatten.Nodup/\∀i:Nat,i<l.length->yG l i=true->(i:Int)∈g.flatten
open Classical in
noncomputable def zH(l:List Var)(g:List (List Int)):Int:=if yb l g then 0 else 1
noncomputable def qk(p:Problem):Int :=
 if jd p.vars≠0 then jd p.vars
 else if qU (zy p.vars) (p.hard++p.soft)≠0 then qU (zy p.vars) (p.hard++p.soft)
 else if yr p.vars p.dists≠0 then yr p.vars p.dists
 else zH p.vars p.groups
def zM(l:List Var)(i:Nat):Int:=match l[i]? with
 |some v=>v.width
 |none=>0
end Go.Proofs.YtafbccendejkeaaGreatDoor
namespace Go.Abs
open Go Go.RowKit
def qlR(P:Program)(rs:List ResultVar)(Q:AV->St->Prop)(env:Env)(U:St):Prop :=
 match qfC (Dof P) rs env U with
 |some l=>Q (W5 l) U
 |none=>False
def qds(P:Program)(rs:List ResultVar)(Q:AV->St->Prop):Exit->Env->St->Prop
 |.ret,env,U=>qlR P rs Q env U
 |.normal,env,U=>qlR P rs Q env U
 |_,_,_=>False
attribute [simp] qlR qds
section
variable {P:Program}{G:Glo}{U:St}{f:FuncId}{args:List AV}{Q:AV->St->Prop}
def qg.vcO {fn c} (o) (hm : P.follows .mixedOrders = true) (hf : P.funcs[f]? = some fn) (hb : fn.body = some c) (hk : (jT fn.ntmps o c && decide (args.length ≤ fn.ntmps) && fn.name != "runtime.NumGoroutine") = true)
 (h:vcC P G o c (JA args) U (qds P fn.results.toList Q)):qg P G f args U Q:=by
 simp only[qAr,decide_eq_true_eq,bne_iff_ne,ne_eq]at hk;refine qg.of_body hf hb hk.2 hk.1.2 (AWp.mono (yv hm c hk.1.1 h) fun e env U hq=>?_);have key:qlR P fn.results.toList Q env U->∃l,qfC (Dof P) fn.results.toList env U=some l/\Q (W5 l) U:=fun h=>by
  unfold qlR at h;split at h
  . rename_i l hl;exact⟨l,hl,h⟩
  exact h.elim
 cases e with
 |ret=>exact⟨.inl rfl,key hq⟩
 |normal=>exact⟨.inr rfl,key hq⟩
 |_=>exact hq.elim
def qg.vc {fn c} (hm : P.follows .mixedOrders = true) (hf : P.funcs[f]? = some fn) (hb : fn.body = some c) (hk : (jT fn.ntmps o0 c && decide (args.length ≤ fn.ntmps) && fn.name != "runtime.NumGoroutine") = true)
 (h:vcC P G o0 c (JA args) U (qds P fn.results.toList Q)):qg P G f args U Q:=qg.vcO o0 hm hf hb hk h
end
end Go.Abs
namespace Go.Proofs.YtafbccendejkeaaGreatDoor
open Go Go.Abs Tryz Go.RowKit
def ZE{S:Type}(stp:S->Ex->S×Bool):S->List Ex->S×Bool
 |s,[]=>(s,true)
 |s,e::r=>if(stp s e).2=true then ZE stp (stp s e).1 r else((stp s e).1,false)
def Ki{S}{stp:S->Ex->S×Bool}:∀{s:S}{l m:List Ex},ZE stp s (l++m)=if(ZE stp s l).2=true then ZE stp (ZE stp s l).1 m else ZE stp s l
 |s,[],m=>by simp[ZE]
 | s,e::r,m=>by
  simp only[qAL,ZE];split
  . exact Ki
  simp
def Kh{S}{stp:S->Ex->S×Bool}(h:∀s e,(stp s e).2=true):∀(s:S) (l),ZE stp s l=(l.foldl (fun s e=>(stp s e).1) s,true)
 |s,[]=>rfl
 |s,e::r=>by simp only[ZE,h,if_true,qA1];exact Kh h _ r
def Vg{f}:∀(s) (l),(ZE (fun _ e=>(f e,f e==0)) s l).1=if l=[] then s else qU f l
 |s,[]=>rfl
 | s,e::r=>by
  simp only[ZE,qU,beq_iff_eq,reduceCtorEq,if_false];by_cases h:f e=0
  . rw[if_pos h,if_pos h,Vg];split
    . rename_i hr;subst hr;simp[qU,h]
    rfl
  rw[if_neg h,if_neg h]
def qfe{m n}:IntKind.i64.wrap (IntKind.i64.wrap m+n)=IntKind.i64.wrap (m+n):=by
 simp[IntKind.wrap,IntKind.bits,IntKind.signed];omega
def VG{n}:∀(l:List Ex),l.foldl (fun s _=>IntKind.i64.wrap (s+1)) (IntKind.i64.wrap n)=IntKind.i64.wrap (n+l.length)
 |[]=>by simp
 | e::r=>by
  rw[qA1,qfe,VG r];congr 1;simp;omega
def ww{l g}(h : []∈g):¬yb l g:=fun⟨h1,_⟩=>h1 _ h rfl
def VF{l g i}(h:i∈g.flatten)(hr:yG l i=false):¬yb l g:=fun⟨_,h2,_⟩=>by
 have:=h2 i h;rw[hr]at this;cases this
def qh1{l g i done rest}(h:g.flatten=done++i::rest)(hi:i∈done):¬yb l g:=fun⟨_,_,h3,_⟩=>by
 rw[h,qBV]at h3;exact h3.2.2 i hi i (by simp) rfl
def qeA{l:List Var}{g:List (List Int)}{i:Nat}(hi:i<l.length)(hr:yG l i=true)(h:(i:Int)∉g.flatten):¬yb l g:=fun⟨_,_,_,h4⟩=>h (h4 i hi hr)
def Jm{l i}(h:yG l i=true):0<=i/\i<l.length:=by
 simp only[yG,qAr,decide_eq_true_eq]at h;obtain⟨h0,h1⟩:=h;refine⟨h0,?_⟩;apply Classical.byContradiction;intro hn;rw[qAU (by omega)]at h1;simp at h1
def qcQ{l g}(h1:∀x∈g,x≠[])(h2:∀i∈g.flatten,0<=i/\i<(l.length:Int)) :
 yb l g↔∀i:Nat,i<l.length->g.flatten.count (i:Int)=if yG l i=true then 1 else 0:=by
 constructor
 . rintro⟨_,k2,k3,k4⟩ i hi;split
   . rename_i hr;have:=List.nodup_iff_count.1 k3 (i:Int);have:=qDJ.2 (k4 i hi hr);omega
   rename_i hr;apply List.count_eq_zero.2;intro hm;exact hr (k2 _ hm)
 intro h;have cnt:∀i∈g.flatten,g.flatten.count i=1/\yG l i=true:=by
  intro i hi;obtain⟨a,b⟩:=h2 i hi;have hc:=h i.toNat (by omega);rw[show((i.toNat:Nat):Int)=i by omega]at hc;have:=qDJ.2 hi;split at hc
  . rename_i hr;exact⟨hc,hr⟩
  omega
 refine⟨h1,fun i hi=>(cnt i hi).2,?_,?_⟩
 . rw[List.nodup_iff_count];intro i;by_cases hi:i∈g.flatten
   . rw[(cnt i hi).1];exact qAy _
   rw[List.count_eq_zero.2 hi];omega
 intro i hi hr;have hc:=h i hi;rw[if_pos hr]at hc;exact qDJ.1 (by omega)
mutual
def yL:Ex->Int->Int
 |.mk _ _ _ a,d=>wo a d 1
def wo:List Ex->Int->Int->Int
 |[],_,n=>n
 |x::r,d,n=>if n<100/\d<30 then wo r d (IntKind.i64.wrap (n+yL x (IntKind.i64.wrap (d+1)))) else n
end
def qcq(e d):yL e d=wo e.args d 1:=by cases e;simp[yL]
@[simp]def qhJ{d n}:wo [] d n=n:=by simp[wo]
@[simp]def KB{x r d n}:wo (x::r) d n=if n<100/\d<30 then wo r d (IntKind.i64.wrap (n+yL x (IntKind.i64.wrap (d+1)))) else n:=by simp[wo]
mutual
def jn:Ex->Nat->Bool
 |.mk o n s a,d=>if 25<d\/(d=0/\60<yL (.mk o n s a) 0) then false else Z9 a (d+1)
def Z9:List Ex->Nat->Bool
 |[],_=>true
 |x::r,d=>jn x d&&Z9 r d
end
def Wo(e d):jn e d=if 25<d\/(d=0/\60<yL e 0) then false else Z9 e.args (d+1):=by cases e;simp[jn]
@[simp]def qts{d}:Z9 [] d=true:=by simp[Z9]
@[simp]def qsJ{x r d}:Z9 (x::r) d=(jn x d&&Z9 r d):=by simp[Z9]
def JI{l d}:Z9 l d=l.all fun x=>jn x d:=by
 induction l with
 |nil=>simp
 |cons x r ih=>simp[ih]
def qdg:∀(e) (d),jn e d=true->hgt e+d<=26:=by
 refine qE7 fun e ih d h=>?_
 rw[Wo]at h;split at h
 . cases h
 rename_i hd;rw[wv];have:∀(l:List Ex),(∀x∈l,jn x (d+1)=true)->(∀x∈l,x∈e.args)->Je l+(d+1)<=26:=by
  intro l
  induction l with
  |nil=>intro _ _;simp;omega
  | cons x r ihl=>
   intro h1 h2;have a1:=ih x (h2 x (by simp)) (d+1) (h1 x (by simp));have a2:=ihl (fun y hy=>h1 y (by simp[hy])) (fun y hy=>h2 y (by simp[hy]));simp;omega
 rw[JI,qAv]at h;have:=this e.args h (fun _ h=>h);omega
def jR(p:Problem):Bool :=
 !(decide (20<p.vars.length)||decide (20<p.hard.length)||decide (20<p.soft.length)||decide (20<p.dists.length)||decide (20<p.groups.length)) &&
 p.hard.all (jn · 0)&&p.soft.all (jn · 0)&&p.dists.all (fun d=>decide (d.weights.length<=20))&&p.groups.all (fun g=>decide (g.length<=20))
def GG(g:Nat):AV:=match g with
 |0=>.rptr [.sl 1 (qdz.map jk) .none]
 |_=>.any
section
variable (G:Nat->AV)
def quR(l:List Str)(s:Str)(hl:Fits l):Pure prog G 370 [.sl 1 (l.map jk) .none,.str s] (.bool (l.any (· == s))):=by
 refine qE9 qe func370 rfl (by kernel_rfl) ?_;simp;refine qE6 (fun n env U=>∃i,i<=l.length/\n=l.length-i/\env 0=.sl 1 (l.map jk) .none/\env 1=.str s/\env 5=.int .i64 i/\U=⟨[],[]⟩/\l.any (· == s)=(l.drop i).any (· == s)) l.length ⟨0,by simp⟩ ?_;rintro n env U ⟨i,hi,rfl,h0,h1,h5,rfl,hf⟩
 cases hv:l[i]? with
 | some v=>
  obtain⟨hc,hv'⟩:=qAm.1 hv;rw[zb hv]at hf;by_cases he:v=s
  . subst he;simp[h0,h1,h5,hc,hv',hf]
  have he':(v==s)=false:=by simpa using he
  simp[h0,h1,h5,hc,hv',he];refine⟨_,by omega,i+1,by omega,rfl,wr (by omega) (by omega),?_⟩;rw[hf,qCn,he',qCS]
 | none=>
  have hc:¬i<l.length:=by simp at hv;omega
  have hd:l.drop i=[]:=by simp;omega
  have hz:∀x∈l,¬x=s:=by
   intro x hx e;have:l.any (· == s)=true:=qAW.2 ⟨x,hx,by simp[e]⟩;rw[hf,hd]at this;cases this
  simp[h0,h5,hc];exact hz
def qgn(l:List Str)(s:Str)(hl:Fits l):Pure prog G 333 [.sl 1 (l.map jk) .none,.str s] (.bool (l.any (· == s))):=by
 refine qE9 qe func333 rfl (by kernel_rfl) ?_;simp;refine qE6 (fun n env U=>∃i,i<=l.length/\n=l.length-i/\env 0=.sl 1 (l.map jk) .none/\env 1=.str s/\env 5=.int .i64 i/\U=⟨[],[]⟩/\l.any (· == s)=(l.drop i).any (· == s)) l.length ⟨0,by simp⟩ ?_;rintro n env U ⟨i,hi,rfl,h0,h1,h5,rfl,hf⟩
 cases hv:l[i]? with
 | some v=>
  obtain⟨hc,hv'⟩:=qAm.1 hv;rw[zb hv]at hf;by_cases he:v=s
  . subst he;simp[h0,h1,h5,hc,hv',hf]
  have he':(v==s)=false:=by simpa using he
  simp[h0,h1,h5,hc,hv',he];refine⟨_,by omega,i+1,by omega,rfl,wr (by omega) (by omega),?_⟩;rw[hf,qCn,he',qCS]
 | none=>
  have hc:¬i<l.length:=by simp at hv;omega
  have hd:l.drop i=[]:=by simp;omega
  have hz:∀x∈l,¬x=s:=by
   intro x hx e;have:l.any (· == s)=true:=qAW.2 ⟨x,hx,by simp[e]⟩;rw[hf,hd]at this;cases this
  simp[h0,h5,hc];exact hz
def qnR(l:List Str)(s:Str)(hl:Fits l):Pure prog G 354 [.sl 1 (l.map jk) .none,.str s] (.int .i64 (zm (fun v=>s==v) l 0)):=by
 refine qE9 qe func354 rfl (by kernel_rfl) ?_;simp;refine qE6 (fun n env U=>∃i,i<=l.length/\n=l.length-i/\env 0=.sl 1 (l.map jk) .none/\env 1=.str s/\env 7=.int .i64 l.length/\env 8=.int .i64 i/\U=⟨[],[]⟩/\zm (fun v=>s==v) l 0=zm (fun v=>s==v) (l.drop i) i) l.length ⟨0,by simp⟩ ?_;rintro n env U ⟨i,hi,rfl,h0,h1,h7,h8,rfl,hf⟩
 cases hv:l[i]? with
 | some v=>
  obtain⟨hc,hv'⟩:=qAm.1 hv;rw[zb hv]at hf;by_cases he:s=v
  . subst he;simp[h0,h1,h7,h8,hc,hv',hf,zm]
  have he':(s==v)=false:=by simpa using he
  simp[h0,h1,h7,h8,hc,hv',he];refine⟨_,by omega,i+1,by omega,rfl,wr (by omega) (by omega),?_⟩;rw[hf,zm,he'];simp
 | none=>
  have hc:¬i<l.length:=by simp at hv;omega
  have hd:l.drop i=[]:=by simp;omega
  simp[h0,h7,h8,hc,hf,hd,zm]
def Zm(l:List Str)(s:Str)(hl:Fits l):Pure prog G 311 [.sl 1 (l.map jk) .none,.str s] (.bool (l.any (fun v=>s==v))):=by
 refine qE9 qe func311 rfl (by kernel_rfl) ?_;simp;refine qET (qnR G l s hl) (by simp) ?_;simp
def qnP(l s)(hl:Fits l):Pure prog G 353 [.sl 1 (l.map qh) .none,.int .i64 s] (.int .i64 (zm (fun v=>s==v) l 0)):=by
 refine qE9 qe func353 rfl (by kernel_rfl) ?_;simp;refine qE6 (fun n env U=>∃i,i<=l.length/\n=l.length-i/\env 0=.sl 1 (l.map qh) .none/\env 1=.int .i64 s/\env 7=.int .i64 l.length/\env 8=.int .i64 i/\U=⟨[],[]⟩/\zm (fun v=>s==v) l 0=zm (fun v=>s==v) (l.drop i) i) l.length ⟨0,by simp⟩ ?_;rintro n env U ⟨i,hi,rfl,h0,h1,h7,h8,rfl,hf⟩
 cases hv:l[i]? with
 | some v=>
  obtain⟨hc,hv'⟩:=qAm.1 hv;rw[zb hv]at hf;by_cases he:s=v
  . subst he;simp[h0,h1,h7,h8,hc,hv',hf,zm]
  have he':(s==v)=false:=by simpa using he
  simp[h0,h1,h7,h8,hc,hv',he];refine⟨_,by omega,i+1,by omega,rfl,wr (by omega) (by omega),?_⟩;rw[hf,zm,he'];simp
 | none=>
  have hc:¬i<l.length:=by simp at hv;omega
  have hd:l.drop i=[]:=by simp;omega
  simp[h0,h7,h8,hc,hf,hd,zm]
def qeO(l s)(hl:Fits l):Pure prog G 310 [.sl 1 (l.map qh) .none,.int .i64 s] (.bool (l.any (fun v=>s==v))):=by
 refine qE9 qe func310 rfl (by kernel_rfl) ?_;simp;refine qET (qnP G l s hl) (by simp) ?_;simp
def qeG(l:List Var)(s:Str)(hl:Fits l):Pure prog G 159 [.sl 4 (l.map qJ) .none,.str s] (.int .i64 (zm (fun v=>v.name==s) l 0)):=by
 refine qE9 qe func159 rfl (by kernel_rfl) ?_;simp;refine qE6 (fun n env U=>∃i,i<=l.length/\n=l.length-i/\env 0=.sl 4 (l.map qJ) .none/\env 1=.str s/\env 5=.int .i64 i/\U=⟨[],[]⟩/\zm (fun v=>v.name==s) l 0=zm (fun v=>v.name==s) (l.drop i) i) l.length ⟨0,by simp⟩ ?_;rintro n env U ⟨i,hi,rfl,h0,h1,h5,rfl,hf⟩
 cases hv:l[i]? with
 | some v=>
  obtain⟨hc,hv'⟩:=qAm.1 hv;rw[zb hv]at hf;by_cases he:v.name=s
  . subst he;simp[h0,h1,h5,hc,hv',hf,zm]
  have he':(v.name==s)=false:=by simpa using he
  simp[h0,h1,h5,hc,hv',he];refine⟨_,by omega,i+1,by omega,rfl,wr (by omega) (by omega),?_⟩;rw[hf,zm,he'];simp
 | none=>
  have hc:¬i<l.length:=by simp at hv;omega
  have hd:l.drop i=[]:=by simp;omega
  simp[h0,h5,hc,hf,hd,zm]
end
def J1(G l p f first cap)(hl:Fits l)(h1:qz first=true)(h2:qz cap=true)
 (hp:∀v∈l,Pure prog G f (first++[.agg (qJ v)]++cap) (.bool (p v))):Pure prog G 251 [.sl 4 (l.map qJ) .none,.fn f first cap] (.int .i64 (zm p l 0)):=by
 refine qE9 qe func251 rfl (by kernel_rfl) ?_;simp;refine qE6 (fun n env U=>∃i,i<=l.length/\n=l.length-i/\env 0=.sl 4 (l.map qJ) .none/\env 1=.fn f first cap/\env 7=.int .i64 l.length/\env 8=.int .i64 i/\U=⟨[],[]⟩/\zm p l 0=zm p (l.drop i) i) l.length ⟨0,by simp⟩ ?_;rintro n env U ⟨i,hi,rfl,h0,h1',h7,h8,rfl,hf⟩
 cases hv:l[i]? with
 | some v=>
  obtain⟨hc,hv'⟩:=qAm.1 hv;rw[zb hv]at hf;simp[h0,h1',h7,h8,hc,hv',hf];refine qET (r:=.bool (p v)) (by simpa using hp v (qAn hv)) (by simp[yz,h1,h2]) ?_;simp[h0,h1',h7,h8,zm];refine⟨fun e=>by simp[e],fun e=>⟨_,by omega,i+1,by omega,rfl,wr (by omega) (by omega),by simp[e]⟩⟩
 | none=>
  have hc:¬i<l.length:=by simp at hv;omega
  have hd:l.drop i=[]:=by simp;omega
  simp[h0,h7,h8,hc,hf,hd,zm]
def Qn(G l p f first cap)(hl:Fits l)(h1:qz first=true)(h2:qz cap=true)
 (hp:∀v∈l,Pure prog G f (first++[.agg (qJ v)]++cap) (.bool (p v))):Pure prog G 172 [.sl 4 (l.map qJ) .none,.fn f first cap] (.bool (l.any p)):=by
 refine qE9 qe func172 rfl (by kernel_rfl) ?_;simp;refine qET (J1 G l p f first cap hl h1 h2 hp) (by simp[h1,h2]) ?_;simp
def qaM(G l p f first cap)(hl:Fits l)(h1:qz first=true)(h2:qz cap=true)
 (hp:∀v∈l,Pure prog G f (first++[.agg (zl v)]++cap) (.bool (p v))):Pure prog G 256 [.sl 2 (l.map zl) .none,.fn f first cap] (.int .i64 (zm p l 0)):=by
 refine qE9 qe func256 rfl (by kernel_rfl) ?_;simp;refine qE6 (fun n env U=>∃i,i<=l.length/\n=l.length-i/\env 0=.sl 2 (l.map zl) .none/\env 1=.fn f first cap/\env 7=.int .i64 l.length/\env 8=.int .i64 i/\U=⟨[],[]⟩/\zm p l 0=zm p (l.drop i) i) l.length ⟨0,by simp⟩ ?_;rintro n env U ⟨i,hi,rfl,h0,h1',h7,h8,rfl,hf⟩
 cases hv:l[i]? with
 | some v=>
  obtain⟨hc,hv'⟩:=qAm.1 hv;rw[zb hv]at hf;simp[h0,h1',h7,h8,hc,hv',hf];refine qET (r:=.bool (p v)) (by simpa using hp v (qAn hv)) (by simp[yz,h1,h2]) ?_;simp[h0,h1',h7,h8,zm];refine⟨fun e=>by simp[e],fun e=>⟨_,by omega,i+1,by omega,rfl,wr (by omega) (by omega),by simp[e]⟩⟩
 | none=>
  have hc:¬i<l.length:=by simp at hv;omega
  have hd:l.drop i=[]:=by simp;omega
  simp[h0,h7,h8,hc,hf,hd,zm]
def Yn(G l p f first cap)(hl:Fits l)(h1:qz first=true)(h2:qz cap=true)
 (hp:∀v∈l,Pure prog G f (first++[.agg (zl v)]++cap) (.bool (p v))):Pure prog G 180 [.sl 2 (l.map zl) .none,.fn f first cap] (.bool (l.any p)):=by
 refine qE9 qe func180 rfl (by kernel_rfl) ?_;simp;refine qET (qaM G l p f first cap hl h1 h2 hp) (by simp[h1,h2]) ?_;simp
def qcN(G l p f first cap)(hl:Fits l)(h1:qz first=true)(h2:qz cap=true)
 (hp:∀v∈l,Pure prog G f (first++[.str v]++cap) (.bool (p v))):Pure prog G 255 [.sl 1 (l.map jk) .none,.fn f first cap] (.int .i64 (zm p l 0)):=by
 refine qE9 qe func255 rfl (by kernel_rfl) ?_;simp;refine qE6 (fun n env U=>∃i,i<=l.length/\n=l.length-i/\env 0=.sl 1 (l.map jk) .none/\env 1=.fn f first cap/\env 7=.int .i64 l.length/\env 8=.int .i64 i/\U=⟨[],[]⟩/\zm p l 0=zm p (l.drop i) i) l.length ⟨0,by simp⟩ ?_;rintro n env U ⟨i,hi,rfl,h0,h1',h7,h8,rfl,hf⟩
 cases hv:l[i]? with
 | some v=>
  obtain⟨hc,hv'⟩:=qAm.1 hv;rw[zb hv]at hf;simp[h0,h1',h7,h8,hc,hv',hf];refine qET (r:=.bool (p v)) (by simpa using hp v (qAn hv)) (by simp[yz,h1,h2]) ?_;simp[h0,h1',h7,h8,zm];refine⟨fun e=>by simp[e],fun e=>⟨_,by omega,i+1,by omega,rfl,wr (by omega) (by omega),by simp[e]⟩⟩
 | none=>
  have hc:¬i<l.length:=by simp at hv;omega
  have hd:l.drop i=[]:=by simp;omega
  simp[h0,h7,h8,hc,hf,hd,zm]
def Wk(G l p f first cap)(hl:Fits l)(h1:qz first=true)(h2:qz cap=true)
 (hp:∀v∈l,Pure prog G f (first++[.str v]++cap) (.bool (p v))):Pure prog G 177 [.sl 1 (l.map jk) .none,.fn f first cap] (.bool (l.any p)):=by
 refine qE9 qe func177 rfl (by kernel_rfl) ?_;simp;refine qET (qcN G l p f first cap hl h1 h2 hp) (by simp[h1,h2]) ?_;simp
def Qe(G l p f first cap)(hl:Fits l)(h1:qz first=true)(h2:qz cap=true)
 (hp:∀v∈l,Pure prog G f (first++[.agg (qw v)]++cap) (.bool (p v))):Pure prog G 244 [.sl 4 (l.map qw) .none,.fn f first cap] (.int .i64 (zm p l 0)):=by
 refine qE9 qe func244 rfl (by kernel_rfl) ?_;simp;refine qE6 (fun n env U=>∃i,i<=l.length/\n=l.length-i/\env 0=.sl 4 (l.map qw) .none/\env 1=.fn f first cap/\env 7=.int .i64 l.length/\env 8=.int .i64 i/\U=⟨[],[]⟩/\zm p l 0=zm p (l.drop i) i) l.length ⟨0,by simp⟩ ?_;rintro n env U ⟨i,hi,rfl,h0,h1',h7,h8,rfl,hf⟩
 cases hv:l[i]? with
 | some v=>
  obtain⟨hc,hv'⟩:=qAm.1 hv;rw[zb hv]at hf;simp[h0,h1',h7,h8,hc,hv',hf];refine qET (r:=.bool (p v)) (by simpa using hp v (qAn hv)) (by simp[yz,h1,h2]) ?_;simp[h0,h1',h7,h8,zm];refine⟨fun e=>by simp[e],fun e=>⟨_,by omega,i+1,by omega,rfl,wr (by omega) (by omega),by simp[e]⟩⟩
 | none=>
  have hc:¬i<l.length:=by simp at hv;omega
  have hd:l.drop i=[]:=by simp;omega
  simp[h0,h7,h8,hc,hf,hd,zm]
def Z6(G l p f first cap)(hl:Fits l)(h1:qz first=true)(h2:qz cap=true)
 (hp:∀v∈l,Pure prog G f (first++[.agg (qw v)]++cap) (.bool (p v))):Pure prog G 257 [.sl 4 (l.map qw) .none,.fn f first cap] (.bool (l.any p)):=by
 refine qE9 qe func257 rfl (by kernel_rfl) ?_;simp;refine qET (Qe G l p f first cap hl h1 h2 hp) (by simp[h1,h2]) ?_;simp
section
variable (G:Nat->AV)
def qaG(n):Pure prog G 349 [.int .i32 n] (.bool (wu n)):=by
 refine qE9 qe func349 rfl (by kernel_rfl) ?_;by_cases h1:97<=n<;>by_cases h2:n<=122<;>simp[wu,h1,h2]
def qoi(n):Pure prog G 384 [.int .i32 n] (.bool (J5 n)):=by
 refine qE9 qe func384 rfl (by kernel_rfl) ?_;by_cases h1:48<=n<;>by_cases h2:n<=57<;>simp[J5,h1,h2]
def qfu(n):Pure prog G 329 [.int .u8 n] (.bool (wu n)):=by
 refine qE9 qe func329 rfl (by kernel_rfl) ?_;by_cases h1:97<=n<;>by_cases h2:n<=122<;>simp[wu,h1,h2]
def qoj(n):Pure prog G 372 [.int .u8 n] (.bool (J5 n)):=by
 refine qE9 qe func372 rfl (by kernel_rfl) ?_;by_cases h1:48<=n<;>by_cases h2:n<=57<;>simp[J5,h1,h2]
def Jw(n):Pure prog G 350 [.int .i32 n] (.bool (kR n)):=by
 refine qE9 qe func350 rfl (by kernel_rfl) ?_;simp;refine qET (qaG G n) rfl ?_;cases hl:wu n
 . simp;refine qET (qoi G n) rfl ?_;cases hd:J5 n
   . by_cases h1:65<=n<;>by_cases h2:n<=90<;>by_cases h3:n=95<;>simp[kR,hl,hd,h1,h2,h3]
   simp[kR,hl,hd]
 simp[kR,hl]
def qnO(n):Pure prog G 331 [.int .u8 n] (.bool (kR n)):=by
 refine qE9 qe func331 rfl (by kernel_rfl) ?_;simp;refine qET (qfu G n) rfl ?_;cases hl:wu n
 . simp;refine qET (qoj G n) rfl ?_;cases hd:J5 n
   . by_cases h1:65<=n<;>by_cases h2:n<=90<;>by_cases h3:n=95<;>simp[kR,hl,hd,h1,h2,h3]
   simp[kR,hl,hd]
 simp[kR,hl]
end
section
variable (G:Nat->AV)
def qvg{s:Str}{pos}(h:pos<s.length)(hl:(s[pos]).toNat<128):Utf8.decode ⟨s.toArray⟩ pos=((s[pos]).toNat,1):=by
 have:=Go.decode_ascii ⟨s.toArray⟩ pos (by simpa[ByteArray.size] using h) hl;exact this
def qvh{s:Str}{pos}(h:pos<s.length)(hl:128<=(s[pos]).toNat):128<=(Utf8.decode ⟨s.toArray⟩ pos).1:=by
 have:=Go.decode_high ⟨s.toArray⟩ pos (by simpa[ByteArray.size] using h) hl;exact this.1
def qcM{n}(h:128<=n):kR n=false:=by
 simp[kR,wu,J5];omega
def Zs{s}{c:UInt8}(h:c∈s)(hc:ZU c=false):QP s=false:=by
 cases s with
 |nil=>cases h
 | cons a r=>
  have:(a::r).all ZU=false:=by
   rw[qBD];intro e;rw[qAv.1 e c h]at hc;cases hc
  simp only[QP,this,qCX]
def qgV{c:UInt8}{r:Str}(h:wu c.toNat=false):QP (c::r)=false:=by simp[QP,h]
def qqp(s:Str):Pure prog G 305 [.str s] (.bool (QP s)):=by
 refine qE9 qe func305 rfl (by kernel_rfl) ?_;simp;refine qE6 (fun n env U=>∃pos,pos<=s.length/\n=s.length-pos/\env 0=.str s/\env 6=.iter 0/\U=⟨[.siter s pos],[]⟩/\(∀c∈s.take pos,ZU c=true)/\(0<pos->∀c r,s=c::r->wu c.toNat=true)) s.length ⟨0,by simp⟩ ?_;rintro n env U ⟨pos,hp,rfl,h0,h6,rfl,hall,hlow⟩;by_cases hlt:pos<s.length
 . have hmem:=qCN hlt;by_cases hc:(s[pos]).toNat<128
   . have hd:=qvg hlt hc;have more:ZU s[pos]=true->∀c∈s.take (pos+1),ZU c=true:=by
      intro hi c hcm;rw[show s.take (pos+1)=s.take pos++[s[pos]] by rw[qAT,qAo hlt];rfl,qAC]at hcm;rcases hcm with hcm|hcm
      . exact hall c hcm
      rw[qA2.1 hcm];exact hi
     rcases qBJ pos with rfl|hpos
     . simp[h0,h6,qaB,hlt,hd];refine qET (qaG G _) rfl ?_;cases hl:wu (s[0].toNat:Int)
       . cases s with
         |nil=>simp at hlt
         |cons c r=>simpa using qgV hl
       simp;refine qET (Jw G _) rfl ?_;cases hi:kR (s[0].toNat:Int)
       . simpa using Zs hmem hi
       simp[h0,h6];refine⟨_,by omega,1,by omega,rfl,rfl,more hi,fun _ c r e=>by subst e;exact hl⟩
     have hne:¬pos=0:=(by omega);simp[h0,h6,qaB,hlt,hd,hne];refine qET (Jw G _) rfl ?_;cases hi:kR (s[pos].toNat:Int)
     . simpa using Zs hmem hi
     simp[h0,h6];refine⟨_,by omega,pos+1,by omega,rfl,rfl,more hi,fun _=>hlow hpos⟩
   have hd:=qvh hlt (by omega);have hi:=qcM (n:=((Utf8.decode ⟨s.toArray⟩ pos).1:Int)) (by omega);have hl:wu ((Utf8.decode ⟨s.toArray⟩ pos).1:Int)=false:=by
    simp only[kR,qCI]at hi;exact hi.1.1.1
   have hb:=Zs hmem (qcM (n:=(s[pos].toNat:Int)) (by omega));rcases qBJ pos with rfl|hpos
   . simp[h0,h6,qaB,hlt];refine qET (qaG G _) rfl ?_;simpa[hl] using hb
   have hne:¬pos=0:=(by omega);simp[h0,h6,qaB,hlt,hne];refine qET (Jw G _) rfl ?_;simpa[hi] using hb
 have he:pos=s.length:=by omega
 subst he
 cases s with
 |nil=>simp[h0,h6,qaB,QP]
 | cons c r=>
  have h1:QP (c::r)=true:=by
   simp only[QP,qAr];exact⟨hlow (by simp) c r rfl,qAv.2 fun x hx=>hall x (by simpa using hx)⟩
  simp[h0,h6,qaB,h1]
end
def qoA(s c w) :
 Calls prog 385 #[.string s,.int .u8 c] w fun e w'=>e=.returned (.int .i64 (Lib.indexByte s.data.toList c.toNat.toUInt8))/\w'=w:=by
 have t3:=underlying3;have t5:=underlying5;have t9:=underlying9;have a3:∀w,(isAgg 3).run prog w=.ok false w:=run_isAgg_plain t3 rfl;have a5:∀w,(isAgg 5).run prog w=.ok false w:=run_isAgg_plain t5 rfl;have a9:∀w,(isAgg 9).run prog w=.ok false w:=run_isAgg_plain t9 rfl
 go_enter func385,Tryz.ntmps385
 go_wp2
 rw[run_callFunc_extern func394 (by kernel_rfl) (by kernel_rfl) (by kernel_rfl) (e:=Extern.BytealgIndexByte.indexByte) (by kernel_rfl),Lib.run_indexByteString];simp only[Result.andThen];rw[Oper.upon_value]
 go_wp2
 go_ret
 exact⟨rfl,rfl⟩
def qcO(G:Nat->AV)(s:Str)(c:Int):Pure prog G 385 [.str s,.int .u8 c] (.int .i64 (Lib.indexByte s c.toNat.toUInt8)):=by
 refine⟨by kernel_rfl,fun w0 ro vs hg hro hvs=>?_⟩;simp only[qj,qi]at hvs;obtain⟨v,vr,e1,rfl,v2,vr2,rfl,rfl,rfl⟩:=hvs;have:vs = #[.string ⟨s.toArray⟩,.int .u8 c]:=by rw[<- qCt (xs:=vs),e1]
 subst this;refine(qoA _ _ _).mono ?_;rintro e w' ⟨rfl,rfl⟩;exact⟨_,ro,rfl,.refl _ _,fun _ _ _ h=>h,hro,fun _ _ _ h _=>h,by simp[qi]⟩
def qnB(s):qdz.any (fun v=>s==v)=qdz.contains s:=by
 rw[List.any_beq]
def qkh(s):qdz.any (fun v=>v==s)=qdz.contains s:=by
 rw[List.any_beq']
def qr0(s:Str):Pure prog GG 306 [.str s] (.bool (qdz.contains s)):=by
 refine qE9 qe func306 rfl (by kernel_rfl) ?_;simp[GG];refine qET (Zm GG qdz s (by decide)) (by simp) ?_;rw[qnB];simp
def Qc(s:Str):Pure prog GG 248 [.str s] (.bool (z6 s)):=by
 refine qE9 qe func248 rfl (by kernel_rfl) ?_;simp;refine qET (qqp GG s) rfl ?_;cases h1:QP s
 . simp[z6,h1]
 by_cases h2:s.length<=16
 . have h2':(s.length:Int)<=16:=(by omega);simp[h2'];refine qET (qr0 s) rfl ?_;simp[z6,h1,h2]
 have h2':¬(s.length:Int)<=16:=by omega
 simp[z6,h1,h2,h2']
def qes:Pure prog GG 371 [] (.sl 1 (qdz.map jk) .none):=by
 refine qE9 qe func371 rfl (by kernel_rfl) ?_;simp[qf,qm,qdz]
def qrZ(s:Str):Pure prog GG 330 [.str s] (.bool (qdz.contains s)):=by
 refine qE9 qe func330 rfl (by kernel_rfl) ?_;simp;refine qET qes rfl ?_;refine qET (quR GG qdz s (by decide)) (by simp) ?_;rw[qkh];simp
def Qb(s:Str)(hs:Fits s):Pure prog GG 290 [.str s] (.bool (z6 s)):=by
 refine qE9 qe func290 rfl (by kernel_rfl) ?_
 cases s with
 |nil=>simp[z6,QP]
 | cons c r=>
  by_cases h16:(c::r).length<=16
  . have h16':¬(16:Int)<(r.length:Int)+1:=(by simp at h16;omega);simp[h16'];refine qET (qfu GG c.toNat) rfl ?_;cases hl:wu (c.toNat:Int)
    . simp[z6,QP,hl]
    simp;refine qET (qrZ (c::r)) rfl ?_;cases hk:qdz.contains (c::r)
    . simp;refine qE6 (fun n env U=>∃i,i<=(c::r).length/\n=(c::r).length-i/\env 0=.str (c::r)/\env 3=.int .i64 i/\U=⟨[],[]⟩/\∀x∈(c::r).take i,ZU x=true) (c::r).length ⟨0,by simp⟩ ?_;rintro n env U ⟨i,hi,rfl,h0,h3,rfl,hall⟩
      cases hv:(c::r)[i]? with
      | some v=>
       obtain⟨hc,hv'⟩:=qAm.1 hv;simp[h0,h3,show(i:Int)<r.length+1 by simp at hc;omega,hv];refine qET (qnO GG v.toNat) rfl ?_;cases hin:kR (v.toNat:Int)
       . have:=Zs (qAn hv) (show ZU v=false from hin);simp[z6,this]
       simp[h0,h3];refine⟨_,by simp at hc;omega,i+1,by simp at hc;omega,rfl,wr (by omega) (by simp at hc hs;omega),?_⟩;intro x hx;rw[show(c::r).take (i+1)=(c::r).take i++[v] by rw[qAT,hv];rfl,qAC]at hx;rcases hx with hx|hx
       . exact hall x hx
       rw[qA2.1 hx];exact hin
      | none=>
       have he:i=(c::r).length:=(by simp at hv hi;simp;omega);subst he;have h1:QP (c::r)=true:=by
        simp only[QP,qAr];exact⟨hl,qAv.2 fun x hx=>hall x (by simpa using hx)⟩
       have hn:z6 (c::r)=true:=(by simp only[z6,h1,hk,decide_eq_true h16];rfl);simp[h0,h3,hn]
    have hn:z6 (c::r)=false:=(by simp only[z6,hk,qEu,qCX]);simp[hn]
  have h16':(16:Int)<(r.length:Int)+1:=by simp at h16;omega
  have:z6 (c::r)=false:=by
   have:decide ((c::r).length<=16)=false:=by simpa using h16
   simp only[z6,this,qCX,qCA]
  simp[h16',this]
def Q5{s:Str}:Lib.indexByte s 91=if s.contains 91=true then((j9 s).length:Int) else -1:=by
 unfold j9
 induction s with
 |nil=>simp[Lib.indexByte]
 | cons c r ih=>
  by_cases hc:c=91
  . subst hc;simp[Lib.indexByte]
  have h1:(c==91)=false:=by simpa using hc
  simp only[Lib.indexByte,h1,qAP,if_false,ih,List.contains_cons];have h3:((91:UInt8)==c)=false:=by simpa using fun e=>hc e.symm
  have h4:(c != 91)=true:=by simpa using hc
  rw[h3,qCS,qDC,if_pos h4];by_cases h5:r.contains 91=true
  . rw[if_pos h5,if_pos h5];have:¬(((r.takeWhile (· != 91)).length:Int) == -1)=true:=by simp
    rw[if_neg this];simp
  rw[if_neg h5,if_neg h5];simp
def qgj(G:Nat->AV)(s:Str):Pure prog G 351 [.str s,.str [91]] (.int .i64 (Lib.indexByte s 91)):=by
 refine qE9 qe func351 rfl (by kernel_rfl) ?_;by_cases h : [91]=s
 . subst h;simp[Lib.indexByte]
 simp[h];refine qET (qcO G s 91) rfl ?_;simp
def qvi(G:Nat->AV)(s:Str)(hs:Fits s)(h:s.contains 91=true):Pure prog G 307 [.str s,.str [91]] (.tup [.str (j9 s),.str (Y5 s),.bool true]):=by
 refine qE9 qe func307 rfl (by kernel_rfl) ?_;simp;refine qET (qgj G s) rfl ?_;have e:=qpY h;have hl:s.length=(j9 s).length+1+(Y5 s).length:=by
  have:=congrArg List.length e;rw[qAq,qAD]at this;omega
 have t1:s.take (j9 s).length=j9 s:=by
  conv=>lhs;arg 2;rw[e]
  simp
 have t2:s.drop ((j9 s).length+1)=Y5 s:=by
  conv=>lhs;arg 2;rw[e]
  simp
 rw[Q5,if_pos h];simp[zj,zS,show IntKind.i64.wrap (((j9 s).length:Int)+1)=(j9 s).length+1 from wr (by omega) (by omega),show((j9 s).length:Int)+1<=s.length by omega,show(0:Int)<=(j9 s).length+1 by omega,show(((j9 s).length:Int)+1).toNat=(j9 s).length+1 by omega,show(j9 s).length<=s.length by omega,t1,t2]
def qsC(G:Nat->AV)(s:Str)(hs:Fits s)(h:s.contains 91=false):Pure prog G 307 [.str s,.str [91]] (.tup [.str s,.str [],.bool false]):=by
 refine qE9 qe func307 rfl (by kernel_rfl) ?_;simp;refine qET (qgj G s) rfl ?_;rw[Q5,if_neg (by rw[h];decide)];simp
def qk5(G:Nat->AV)(s:Str)(hs:Fits s)(h:s.contains 91=true):Pure prog G 249 [.str s,.str [91]] (.tup [.str (j9 s),.str (Y5 s),.bool true]):=by
 refine qE9 qe func249 rfl (by kernel_rfl) ?_;simp;refine qET (qvi G s hs h) rfl ?_;simp
def qeN(G:Nat->AV)(s:Str)(hs:Fits s)(h:s.contains 91=false):Pure prog G 249 [.str s,.str [91]] (.tup [.str s,.str [],.bool false]):=by
 refine qE9 qe func249 rfl (by kernel_rfl) ?_;simp;refine qET (qsC G s hs h) rfl ?_;simp
def qmB(i:Nat)(h:i<9):Pure prog GG 396 [.int .i64 i] (.str [UInt8.ofNat (48+i)]):=by
 refine qE9 qe func396 rfl (by kernel_rfl) ?_;have h11:i<10:=by omega
 have h37:(0:Int)<=(i:Int)+1:=by omega
 simp[show(i:Int)<10 by omega,show IntKind.i64.wrap ((i:Int)+1)=(i:Int)+1 from wr (by omega) (by omega),zj,zS,show(i:Int)+1<=36 by omega,show(i:Int)<=(i:Int)+1 by omega];have:i=0\/i=1\/i=2\/i=3\/i=4\/i=5\/i=6\/i=7\/i=8:=by omega
 rcases this with rfl|rfl|rfl|rfl|rfl|rfl|rfl|rfl|rfl<;>rfl
def qya(i:Nat)(h:i<9):Pure prog GG 308 [.int .i64 i] (.str [UInt8.ofNat (48+i)]):=by
 refine qE9 qe func308 rfl (by kernel_rfl) ?_;simp;refine qET (r:=.str [UInt8.ofNat (48+i)]) ?_ rfl ?_
 . refine qE9 qe func352 rfl (by kernel_rfl) ?_;simp;refine qET (r:=.str [UInt8.ofNat (48+i)]) ?_ rfl ?_
   . refine qE9 qe func389 rfl (by kernel_rfl) ?_;have h3:i<100:=(by omega);simp[show(0:Int)<=i by omega,show(i:Int)<100 by omega];exact qET (qmB i h) rfl (by simp)
   simp
 simp
def qrY(i:Nat)(h:i<8):Pure prog GG 308 [.int .i64 i] (.str [UInt8.ofNat (48+i)]):=qya i (by omega)
def JC(a:Str)(i:Nat)(hi:i<8)(ha:a.length<=1000):Pure prog GG 250 [.str a,.int .i64 i] (.str (zT a i)):=by
 refine qE9 qe func250 rfl (by kernel_rfl) ?_;have h4:a.length+1+1<=4611686018427387904:=by omega
 simp[show a.length+1<=4611686018427387904 by omega];refine qET (qrY i hi) rfl ?_;simp[show a.length+(1+1)<=4611686018427387904 by omega,show a.length+(1+(1+1))<=4611686018427387904 by omega,zT]
def wq{s}(h:z6 s=true):s.length<=16:=by
 simp only[z6,qAr,decide_eq_true_eq]at h;exact h.1.2
def qof{s i}(hi:i<8)(hn:z6 (j9 s)=true)(h:s=zT (j9 s) i):(kW s).isSome=true:=by
 rw[vy (a:=j9 s) (i:=i) ⟨hi,hn,h⟩];rfl
def qog{s}(h:∀i,i<8->s≠zT (j9 s) i):kW s=none:=by
 rw[yT];rintro a i hi;have:=hi.has.2.1;exact h i hi.1 (by rw[this];exact hi.2.2)
def qc7{s}(h:z6 (j9 s)=false):kW s=none:=by
 rw[yT];rintro a i hi;have:=hi.has.2.1;rw[this,hi.2.1]at h;cases h
def qnu(s:Str)(hs:Fits s):Pure prog GG 170 [.str s] (.bool (k0 s)):=by
 refine qE9 qe func170 rfl (by kernel_rfl) ?_;simp;refine qET (Qc s) rfl ?_;cases hn:z6 s
 . simp;by_cases hc:s.contains 91=true
   . refine qET (qk5 GG s hs hc) rfl ?_;simp;refine qET (Qc (j9 s)) rfl ?_;cases hh:z6 (j9 s)
     . simp[k0,hn,qc7 hh]
     simp;refine qE6 (fun n env U=>∃i:Nat,i<=8/\n=8-i/\env 0=.str s/\env 3=.str (j9 s)/\env 22=.int .i64 i/\U=⟨[],[]⟩/\∀j,j<i->s≠zT (j9 s) j) 8 ⟨0,by simp⟩ ?_;rintro n env U ⟨i,hi,rfl,h0,h3,h22,rfl,hall⟩;by_cases h8:i<8
     . have h8':(i:Int)<8:=(by omega);simp[h0,h3,h22,h8'];refine qET (JC (j9 s) i h8 (by have:=wq hh;omega)) rfl ?_;by_cases he:s=zT (j9 s) i
       . have hv:k0 s=true:=(by simp[k0,qof h8 hh he]);rw[<- he];simp[h0,hv]
       simp[h0,h3,h22,he];refine⟨_,by omega,i+1,by omega,rfl,wr (by omega) (by omega),?_⟩;intro j hj e;rcases qBw.1 hj with hj|rfl
       . exact hall j hj e
       exact he e
     have h8':¬(i:Int)<8:=(by omega);have hv:k0 s=false:=by
      have:=qog fun j hj=>hall j (by omega)
      simp[k0,hn,this]
     simp[h0,h3,h22,h8',hv]
   have hc':s.contains 91=false:=(by simpa using hc);refine qET (qeN GG s hs hc') rfl ?_;simp[k0,hn,KC hc']
 simp[k0,hn]
def qkC:∀(i:Nat),i<8->Pure prog GG 291 [.int .i64 i] (.str [UInt8.ofNat (48+i)]):=by
 have key:∀(i:Nat),i<8->IntKind.i64.wrap (-(i:Int)) = -i/\(-(i:Int)).tmod 10 = -i/\IntKind.i64.wrap (48+(i:Int))=48+i/\IntKind.u8.wrap (48+(i:Int))=48+i/\IntKind.i64.wrap (-((i:Int)/10))=0/\(48+(i:Int)).toNat=48+i:=by decide
 intro i hi;obtain⟨k1,k2,k3,k4,k5,k6⟩:=key i hi;refine qE9 qe func291 rfl (by kernel_rfl) ?_;simp;have below:Pure prog GG 319 [.int .i64 i] (.int .i64 (-i)):=by
  refine qE9 qe func319 rfl (by kernel_rfl) ?_;by_cases h0:i=0
  . subst h0;simp
  have:0<i:=by omega
  simp[this,k1]
 refine qET below rfl ?_;refine qE6 (fun n env U=>n=1/\env 0=.int .i64 i/\env 3=.str []/\env 4=.int .i64 (-i)/\U=⟨[],[]⟩) 1 ⟨rfl,by simp⟩ ?_;rintro n env U ⟨rfl,h0,h3,h4,rfl⟩;simp[h0,h3,h4,k2,k3,k4,k5,k6,qf,qm,wE,bytesOf]
def JB(a:Str)(i:Nat)(hi:i<8)(ha:a.length<=1000):Pure prog GG 228 [.str a,.int .i64 i] (.str (zT a i)):=by
 refine qE9 qe func228 rfl (by kernel_rfl) ?_;have h1:a.length+1<=4611686018427387904:=by omega
 have h2:a.length+(1+1)<=4611686018427387904:=by omega
 have h3:a.length+(1+(1+1))<=4611686018427387904:=by omega
 have h4:a.length+1+1<=4611686018427387904:=by omega
 have h5:a.length+1+1+1<=4611686018427387904:=by omega
 simp[h1];refine qET (qkC i hi) rfl ?_;simp[h2,h3,zT]
noncomputable def qa2(s:Str):AV:=match kW s with
 |some (a,i)=>.tup [.str a,.int .i64 i,.bool true]
 |none=>.tup [.str [],.int .i64 0,.bool false]
def Z3{s a i}(h:jy s a i):qa2 s=.tup [.str a,.int .i64 i,.bool true]:=by simp[qa2,vy h]
def vw{s}(h:kW s=none):qa2 s=.tup [.str [],.int .i64 0,.bool false]:=by simp[qa2,h]
def qxo{c:UInt8}(h1:48<=c.toNat)(h2:c.toNat<56):UInt8.ofNat (48+(c.toNat-48))=c:=by
 have:48+(c.toNat-48)=c.toNat:=by omega
 rw[this];simp
def qcI{s t}{c:UInt8}(hn:z6 t=true)(h1:48<=c.toNat)(h2:c.toNat<56)(h:s=t++[91,c,93]):jy s t (c.toNat-48) :=
 ⟨by omega,hn,by rw[h,zT,qxo h1 h2]⟩
def qc6{s a i}(h:jy s a i):s=a++[91,UInt8.ofNat (48+i),93]/\(UInt8.ofNat (48+i)).toNat=48+i/\i<8:=by
 refine⟨h.2.2,?_,h.1⟩;have:=h.1;simp;omega
def VR(s:Str)(hs:Fits s):Pure prog GG 335 [.str s] (qa2 s):=by
 refine qE9 qe func335 rfl (by kernel_rfl) ?_;simp;cases hc:s.contains 91
 . refine qET (qeN GG s hs hc) rfl ?_;rw[vw (KC hc)];simp
 refine qET (qk5 GG s hs hc) rfl ?_;simp;refine qET (Qc (j9 s)) rfl ?_;cases hn:z6 (j9 s)
 . rw[vw (qc7 hn)];simp
 have no:(∀c,Y5 s=[c,93]->¬(48<=c.toNat/\c.toNat<56))->qa2 s=.tup [.str [],.int .i64 0,.bool false]:=by
  intro h;refine vw (yT.2 fun a i hi=>?_);obtain⟨e1,e2,e3⟩:=qc6 hi;exact h _ hi.has.2.2 ⟨by omega,by omega⟩
 cases ht:Y5 s with
 |nil=>rw[no (by simp[ht])];simp
 | cons c r1=>
  cases r1 with
  |nil=>rw[no (by simp[ht])];simp
  | cons d r2=>
   cases r2 with
   | cons e r3=>
    rw[no (by simp[ht])];simp[show ¬((r3.length:Int)+1+1+1=2) by omega]
   | nil=>
    by_cases hd:d=93
    . subst hd;by_cases h1:48<=c.toNat
      . have h1':¬(c.toNat:Int)<48:=(by omega);by_cases h2:c.toNat<56
        . have h2':¬(56:Int)<=c.toNat:=(by omega);have e:jy s (j9 s) (c.toNat-48):=qcI hn h1 h2 (by have:=qpY hc;rw[ht]at this;exact this);rw[Z3 e];have w3:((c.toNat:Int)-48)=((c.toNat-48:Nat):Int):=(by omega);simp[h1',h2',wE,show IntKind.u8.wrap ((c.toNat:Int)-48)=c.toNat-48 by simp[IntKind.wrap,IntKind.bits,IntKind.signed];omega,show IntKind.i64.wrap ((c.toNat:Int)-48)=c.toNat-48 from wr (by omega) (by omega)];omega
        have h2':(56:Int)<=c.toNat:=(by omega);rw[no (fun c' e=>by rw[ht]at e;cases e;omega)];simp[h1',h2']
      have h1':(c.toNat:Int)<48:=(by omega);rw[no (fun c' e=>by rw[ht]at e;cases e;omega)];simp[h1']
    have hd':¬(d.toNat:Int)=93:=by
     intro e;exact hd (UInt8.toNat_inj.1 (by simp;omega))
    rw[no (fun c' e=>by rw[ht]at e;cases e;exact absurd rfl hd)];simp[hd']
def qnJ(s:Str)(hs:Fits s):Pure prog GG 295 [.str s] (.bool (k0 s)):=by
 refine qE9 qe func295 rfl (by kernel_rfl) ?_;simp
 cases he:kW s with
 | some p=>
  obtain⟨a,i⟩:=p;refine qET (by have:=VR s hs;rw[Z3 (kI.1 he)]at this;exact this) rfl ?_;simp[k0,he]
 | none=>
  refine qET (by have:=VR s hs;rw[vw he]at this;exact this) rfl ?_;simp;refine qET (Qc s) rfl ?_;simp[k0,he]
def qxP{s:Str}(h:3<=s.length):∃t x y z,s=t++[x,y,z]:=by
 refine⟨s.take (s.length-3),s[s.length-3]'(by omega),s[s.length-2]'(by omega),s[s.length-1]'(by omega),?_⟩;have e:s.drop (s.length-3)=[s[s.length-3]'(by omega),s[s.length-2]'(by omega),s[s.length-1]'(by omega)]:=by
  rw[qAJ (by omega),qAJ (by omega),qAJ (by omega),List.drop_eq_nil_of_le (by omega)];simp only[qCE,and_true,true_and];exact⟨by congr 1;omega,by congr 1;omega⟩
 rw[<- e,qA9]
def qia{s}(h:s.length<4):kW s=none:=by
 rw[yT];intro a i hi;have:=qaE hi.2.1;have:=qAI.2 this;rw[hi.2.2]at h;simp at h;omega
def qfr(s:Str)(hs:Fits s):Pure prog GG 393 [.str s] (qa2 s):=by
 refine qE9 qe func393 rfl (by kernel_rfl) ?_;by_cases h4:s.length<4
 . have h4':(s.length:Int)<4:=(by omega);rw[vw (qia h4)];simp[h4']
 obtain⟨t,x,y,z,rfl⟩:=qxP (s:=s) (by omega);have hl:(t++[x,y,z]).length=t.length+3:=by simp
 rw[Fits,hl]at hs;rw[hl]at h4;have no:¬(x=91/\z=93/\48<=y.toNat/\y.toNat<56/\z6 t=true)->qa2 (t++[x,y,z])=.tup [.str [],.int .i64 0,.bool false]:=by
  intro h;refine vw (yT.2 fun a i hi=>h ?_);obtain⟨e1,e2,e3⟩:=qc6 hi;obtain⟨e4,e5⟩:=List.append_inj' e1 rfl;cases e5;subst e4;exact⟨rfl,rfl,by omega,by omega,hi.2.1⟩
 have h4':¬(t.length:Int)+3<4:=by omega
 have w1:IntKind.i64.wrap ((t.length:Int)+3-1)=((t.length+2:Nat):Int):=by rw[wr (by omega) (by omega)];omega
 have w2:IntKind.i64.wrap ((t.length:Int)+3-2)=((t.length+1:Nat):Int):=by rw[wr (by omega) (by omega)];omega
 have w3:IntKind.i64.wrap (t.length:Int)=t.length:=wr (by omega) (by omega);have g1:(t++[x,y,z])[t.length+2]?=some z:=by simp
 have g2:(t++[x,y,z])[t.length+1]?=some y:=by simp
 have g3:(t++[x,y,z])[t.length]?=some x:=by simp
 have g4:(t++[x,y,z]).take t.length=t:=by simp
 have n1:((t.length:Int)+2).toNat=t.length+2:=by omega
 have n2:((t.length:Int)+1).toNat=t.length+1:=by omega
 have p1:(0:Int)<=(t.length:Int)+2:=by omega
 have p2:(0:Int)<=(t.length:Int)+1:=by omega
 have hn210:=Qb t (show t.length<_ by omega);have yes:x=91->z=93->48<=y.toNat->y.toNat<56->z6 t=true->qa2 (t++[x,y,z])=.tup [.str t,.int .i64 ((y.toNat:Int)-48),.bool true]:=by
  rintro rfl rfl h1 h2 h3;rw[Z3 (qcI h3 h1 h2 rfl)];congr 4;omega
 generalize hS:t++[x,y,z]=S at *;generalize t.length=T at *;have q1:=(qAm.1 g1).2;have q2:=(qAm.1 g2).2;have q3:=(qAm.1 g3).2;have le3:(T:Int)<=(T:Int)+3:=by omega
 by_cases hz:z=93
 . by_cases hx:x=91
   . subst hx hz;have wy1:IntKind.i64.wrap (y.toNat:Int)=y.toNat:=(by have:=y.toNat_lt;exact wr (by omega) (by omega));have wy2:IntKind.i64.wrap ((y.toNat:Int)-48)=y.toNat-48:=(by have:=y.toNat_lt;exact wr (by omega) (by omega));by_cases h1:48<=y.toNat
     . by_cases h2:y.toNat<56
       . have h1':¬(y.toNat:Int)-48<0:=(by omega);have h2':¬(8:Int)<=(y.toNat:Int)-48:=(by omega);simp[hl,h4',w1,w2,w3,q1,q2,q3,le3,g4,n1,n2,p1,p2,wE,wy1,wy2,h1',h2',zj,zS];refine qET hn210 rfl ?_;cases hnt:z6 t
         . rw[no (fun h=>by rw[hnt]at h;cases h.2.2.2.2)];simp
         rw[yes rfl rfl h1 h2 hnt];simp
       . rw[no (fun h=>h2 h.2.2.2.1)];have h1':¬(y.toNat:Int)-48<0:=(by omega);simp[hl,h4',w1,w2,w3,q1,q2,q3,le3,g4,n1,n2,p1,p2,wE,wy1,wy2,h1',show(8:Int)<=(y.toNat:Int)-48 by omega,zj,zS]
     rw[no (fun h=>h1 h.2.2.1)];simp[hl,h4',w1,w2,w3,q1,q2,q3,le3,g4,n1,n2,p1,p2,wE,wy1,wy2,show(y.toNat:Int)-48<0 by omega,zj,zS]
   . have hx':¬(x.toNat:Int)=91:=by
      intro e;exact hx (UInt8.toNat_inj.1 (by simp;omega))
     rw[no (fun h=>hx h.1)];subst hz;simp[hl,h4',w1,w2,w3,q1,q2,q3,n1,n2,p1,p2,hx']
 have hz':¬(z.toNat:Int)=93:=by
  intro e;exact hz (UInt8.toNat_inj.1 (by simp;omega))
 rw[no (fun h=>hz h.2.1)];simp[hl,h4',w1,w2,w3,q1,q2,q3,n1,n2,p1,p2,hz']
def qnI(s:Str)(hs:Fits s):Pure prog GG 374 [.str s] (.bool (k0 s)):=by
 refine qE9 qe func374 rfl (by kernel_rfl) ?_;simp
 cases he:kW s with
 | some p=>
  obtain⟨a,i⟩:=p;refine qET (by have:=qfr s hs;rw[Z3 (kI.1 he)]at this;exact this) rfl ?_;simp[k0,he]
 | none=>
  refine qET (by have:=qfr s hs;rw[vw he]at this;exact this) rfl ?_;simp;refine qET (Qb s hs) rfl ?_;simp[k0,he]
def qnt(s:Str)(hs:Fits s):Pure prog GG 227 [.str s] (.bool (k0 s)):=by
 refine qE9 qe func227 rfl (by kernel_rfl) ?_;simp;refine qET (Qb s hs) rfl ?_;cases hn:z6 s
 . simp;refine qE6 (fun n env U=>∃k:Nat,1<=k/\k<=s.length+1/\n=s.length+1-k/\env 0=.str s/\env 3=.int .i64 k/\U=⟨[],[]⟩/\∀a i,jy s a i->¬a.length<k) s.length ⟨1,by simp,by simp,by simp,by simp,by simp,rfl,fun a i hi=>by have:=qAI.2 (qaE hi.2.1);omega⟩ ?_;rintro n env U ⟨k,hk1,hk,rfl,h0,h3,rfl,hall⟩;by_cases hlt:k<s.length
   . have hlt':(k:Int)<s.length:=(by omega);have step:(∀a i,jy s a i->a.length≠k)->∀a i,jy s a i->¬a.length<k+1:=fun h a i hi hl=>by
      rcases qBw.1 hl with h1|h1
      . exact hall a i hi h1
      exact h a i hi h1
     have at91:∀a i,jy s a i->a.length=k->s[k]=91/\s.take k=a:=fun a i hi hl=>by
      obtain⟨_,_,rfl⟩:=hi;subst hl;simp[zT]
     have hw:IntKind.i64.wrap ((k:Int)+1)=((k+1:Nat):Int):=(by rw[wr (by omega) (by omega)];omega);by_cases hc:s[k]=91
     . simp[h0,h3,hlt,hc,zj,zS,show k<=s.length by omega];refine qET (Qb (s.take k) (by simp;omega)) rfl ?_;cases ht:z6 (s.take k)
       . simp[h0,h3,hw];refine⟨_,by omega,k+1,by omega,by omega,rfl,rfl,fun a i hi=>Nat.not_lt.1 (step (fun a i hi hl=>?_) a i hi)⟩;have:=(at91 a i hi hl).2;rw[this,hi.2.1]at ht;cases ht
       simp[h0,h3];refine qE6 (fun n env U=>∃i:Nat,i<=8/\n=8-i/\env 0=.str s/\env 3=.int .i64 k/\env 4=.int .i64 i/\U=⟨[],[]⟩/\∀j,j<i->s≠zT (s.take k) j) 8 ⟨0,by simp[h0,h3]⟩ ?_;rintro n env U ⟨i,hi,rfl,h0,h3,h4,rfl,hin⟩;by_cases h8:i<8
       . have h8':(i:Int)<8:=(by omega);simp[h0,h3,h4,h8',zj,zS,show(k:Int)<=s.length by omega];refine qET (JB (s.take k) i h8 (by have:=wq ht;omega)) rfl ?_;by_cases he:s=zT (s.take k) i
         . have hv:k0 s=true:=(by simp[k0,vy (show jy s (s.take k) i from⟨h8,ht,he⟩)]);rw[<- he];simp[h0,hv]
         simp[h0,h3,h4,he];refine⟨_,by omega,i+1,by omega,rfl,wr (by omega) (by omega),?_⟩;intro j hj e;rcases qBw.1 hj with hj|rfl
         . exact hin j hj e
         exact he e
       have h8':¬(i:Int)<8:=(by omega);simp[h0,h3,h4,h8',hw];refine⟨_,by omega,k+1,by omega,by omega,rfl,rfl,fun a i hi=>Nat.not_lt.1 (step (fun a i' hi' hl=>?_) a i hi)⟩;have:=(at91 a i' hi' hl).2;exact hin i' (by have:=hi'.1;omega) (by rw[this];exact hi'.2.2)
     have hc':¬(s[k].toNat:Int)=91:=by
      intro e;exact hc (UInt8.toNat_inj.1 (by simp;omega))
     simp[h0,h3,hlt,hc',hw];refine⟨_,by omega,k+1,by omega,by omega,rfl,rfl,fun a i hi=>Nat.not_lt.1 (step (fun a i hi hl=>?_) a i hi)⟩;exact hc (at91 a i hi hl).1
   have hlt':¬(k:Int)<s.length:=(by omega);have hv:k0 s=false:=by
    have:=yT.2 fun a i hi=>hall a i hi (by rw[hi.2.2]at hlt;simp at hlt;omega)
    simp[k0,hn,this]
   simp[h0,h3,hlt,hv]
 simp[k0,hn]
def qfz{S}{stp:S->Ex->S×Bool}{s:S}{e}:ZE stp s (pre e)=if(stp s e).2=true then ZE stp (stp s e).1 (wm e.args) else((stp s e).1,false):=by
 rw[jB,ZE]
def look{hd:List Blk}{c}(hc:hd.length=c){t k}:(hd++t)[c+k]?=t[k]? := by
 subst hc;rw[qAw (by omega)];simp
def qnw{tail t:List Blk}{k:Nat}{b:Blk}(h:tail[k]?=some b):(tail++t)[k]?=some b:=by
 rw[qAB (qAm.1 h).1,h]
def Wen(e:Ex):Prop:=∀x∈pre e,Fits x.args/\Fits x.name
def Wen.fits{e}(h:Wen e):Fits e.args:=(h e (by rw[jB];simp)).1
def Wen.nm{e}(h:Wen e):Fits e.name:=(h e (by rw[jB];simp)).2
def Wen.arg{e a}(h:Wen e)(ha:a∈e.args):Wen a:=fun x hx=>h x (by rw[jB];exact qBT _ (ZP.2 ⟨a,ha,hx⟩))
section
variable {S:Type}{stp:S->Ex->S×Bool}{hd:S->List Blk}{T:S->List (Option Nat)}{c:Nat}{vf:FuncId}{cap:List AV}{m:S->Nat}
def qdt(stp:S->Ex->S×Bool)(hd:S->List Blk)(T:S->List (Option Nat))(vf:FuncId)(cap:List AV)(m:S->Nat):Prop :=
 ∀s tail e,Wen e->0<m s->qg prog GG vf (.agg (qp e)::cap) ⟨hd s++tail,T s⟩ (fun r U'=>r=.bool (stp s e).2/\∃t,U'=⟨hd (stp s e).1++(tail++t),T (stp s e).1⟩)
def qpd(hm:∀s e,m s<=m (stp s e).1+1):∀(s:S) (l),m s<=m (ZE stp s l).1+l.length
 |s,[]=>by simp[ZE]
 | s,e::r=>by
  simp only[ZE];split
  . have:=hm s e;have:=qpd hm (stp s e).1 r;simp;omega
  have:=hm s e;simp;omega
def qsw(hc:∀s,(hd s).length=c)(hm:∀s e,m s<=m (stp s e).1+1)(hv:qdt stp hd T vf cap m):∀e,Wen e->∀s tail kb kd,(pre e).length<=m s->tail[kb]?=some (.cells [.fn vf [] cap])->tail[kd]?=some (.cells [.fn 293 [] [.ptr (c+kb) 0,.ptr (c+kd) 0]]) ->
 qg prog GG 293 [.agg (qp e),.ptr (c+kb) 0,.ptr (c+kd) 0] ⟨hd s++tail,T s⟩ (fun r U'=>r=.bool (ZE stp s (pre e)).2/\∃t,U'=⟨hd (ZE stp s (pre e)).1++(tail++t),T (ZE stp s (pre e)).1⟩):=by
 refine qE7 fun e ih hwe s tail kb kd hsz hb hd'=>?_
 rw[jB,qAD]at hsz;refine qg.vc qe func293 rfl (by kernel_rfl) ?_;have lx:∀s (t:List Blk) (x:Blk) (u:List Blk),(hd s++(tail++(t++x::u)))[c+(tail.length+t.length)]?=some x:=fun s t x u=>by
  rw[look (hc s),qAw (by omega),qAw (by omega)];simp
 have lx0:∀s (x:Blk) (u:List Blk),(hd s++(tail++(x::u)))[c+tail.length]?=some x:=fun s x u=>by
  have:=lx s [] x u;simpa using this
 simp[qc,hc,show ∀s t,(hd s++(tail++t))[c+kb]?=some (.cells [.fn vf [] cap]) from fun s t=>by rw[look (hc s),qnw hb],lx0];rw[<- qc e];refine qEX (hv s (tail++[.cells (qp e)]) e hwe (by omega)) ?_;rintro r U' ⟨rfl,t,rfl⟩;rw[show hd (stp s e).1++(tail++[Blk.cells (qp e)]++t)=hd (stp s e).1++(tail++(Blk.cells (qp e)::t)) by simp];cases hst:(stp s e).2
 . simp[qfz,hst]
 have hl:=hwe.fits;simp only[qc e];simp[hc];refine qE6 (fun n env U=>∃i s' tl,i<=e.args.length/\n=e.args.length-i/\env 1=.ptr (c+kb) 0/\env 2=.ptr (c+kd) 0/\env 12=.sl 4 (e.args.map qp) .none/\env 13=.int .i64 e.args.length/\env 14=.int .i64 i/\U=⟨hd s'++(tail++tl),T s'⟩/\(wm (e.args.drop i)).length<=m s'/\ZE stp s (pre e)=ZE stp s' (wm (e.args.drop i))) e.args.length ⟨0,(stp s e).1,_,by simp,by simp,by simp,by simp,by simp,by simp,by simp,rfl,by have:=hm s e;simp;omega,by rw[qfz,hst];simp⟩ ?_;rintro n env U ⟨i,s',tl,hi,rfl,h1,h2,h12,h13,h14,rfl,hsz',hrun⟩
 cases hv':e.args[i]? with
 | none=>
  have hcn:¬i<e.args.length:=by simp at hv';omega
  rw[show e.args.drop i=[] by simp;omega]at hrun;simp[h12,h13,h14,hcn,hrun,ZE]
 | some a=>
  obtain⟨hcn,hve⟩:=qAm.1 hv';have hma:=qAn hv';rw[zb hv',yy,Ki]at hrun;rw[zb hv',yy,qAq]at hsz';have hmr:=qpd hm s' (pre a);have set1:∀(z x:Blk),(hd s'++(tail++(tl++[z]))).set (c+(tail.length+tl.length)) x=hd s'++(tail++(tl++[x])):=fun z x=>by
   rw[qA0,if_neg (by rw[hc];omega),hc,qA0,if_neg (by omega),qA0,if_neg (by omega)];have:c+(tail.length+tl.length)-c-tail.length-tl.length=0:=by omega
   rw[this];rfl
  simp[h2,h12,h13,h14,hcn,hve,qc a,hc,set1,show ∀s t,(hd s++(tail++t))[c+kd]?=some (.cells [.fn 293 [] [.ptr (c+kb) 0,.ptr (c+kd) 0]]) from fun s t=>by rw[look (hc s),qnw hd']];rw[<- qc a];refine qEX (ih a hma (hwe.arg hma) s' (tail++(tl++[.cells (qp a)])) kb kd (by omega) (qnw hb) (qnw hd')) ?_;rintro r U' ⟨rfl,t',rfl⟩;cases hr:(ZE stp s' (pre a)).2
  . rw[hr]at hrun;simp only[qAP,if_false]at hrun;simp[hrun,hr]
  rw[hr]at hrun;simp only[if_true]at hrun;simp[h1,h2,h12,h13,h14];exact⟨_,by omega,i+1,by omega,rfl,wr (by omega) (by omega),_,⟨⟨_,rfl⟩,rfl⟩,by omega,hrun⟩
def qdF(hc:∀s,(hd s).length=c)(hm:∀s e,m s<=m (stp s e).1+1)(hv:qdt stp hd T vf cap m)(e)(hwe:Wen e)(s:S)(hsz:(pre e).length<=m s)(tail) :
 qg prog GG 232 [.agg (qp e),.fn vf [] cap] ⟨hd s++tail,T s⟩ (fun r U'=>∃t,U'=⟨hd (ZE stp s (pre e)).1++(tail++t),T (ZE stp s (pre e)).1⟩):=by
 refine qg.vc qe func232 rfl (by kernel_rfl) ?_;have set2:∀(x y z w:Blk),(hd s++(tail++[x,y,z])).set (c+(tail.length+(1+1))) w=hd s++(tail++[x,y,w]):=fun x y z w=>by
  rw[qA0,if_neg (by rw[hc];omega),hc,qA0,if_neg (by omega)];have:c+(tail.length+(1+1))-c-tail.length=2:=by omega
  rw[this];rfl
 have l0:∀(x:Blk) (u:List Blk),(hd s++(tail++(x::u)))[c+tail.length]?=some x:=fun x u=>by
  rw[look (hc s),qAw (by omega)];simp
 have l2:∀(x y z:Blk) (u:List Blk),(hd s++(tail++(x::y::z::u)))[c+(tail.length+(1+1))]?=some z:=fun x y z u=>by
  rw[look (hc s),qAw (by omega)];have:tail.length+(1+1)-tail.length=2:=by omega
  rw[this];rfl
 simp[qc e,hc,l2];rw[<- qc e];have k:=qsw hc hm hv e hwe s (tail++[.cells (qp e),.cells [.fn vf [] cap],.cells [.fn 293 [] [.ptr (c+(tail.length+1)) 0,.ptr (c+(tail.length+1)+1) 0]]]) (tail.length+1) (tail.length+1+1) hsz
  (by
    rw[qAw (by omega)];have:tail.length+1-tail.length=1:=by omega
    rw[this];rfl)
  (by
    rw[qAw (by omega)];have:tail.length+1+1-tail.length=2:=by omega
    rw[this];rfl)
 refine qEX k ?_;rintro r U' ⟨_,t,rfl⟩;exact⟨_,by rw[qA4]⟩
end
def KH{α:Type}{R:Nat->α->Prop}:∀(n:Nat),(∀i,i<n->∃y,R i y)->∃l:List α,l.length=n/\∀i y,l[i]?=some y->R i y
 |0,_=>⟨[],rfl,by simp⟩
 | n+1,h=>by
  obtain⟨l,h1,h2⟩:=KH n fun i hi=>h i (by omega)
  obtain⟨y,hy⟩:=h n (by omega);refine⟨l++[y],by simp[h1],fun i z hz=>?_⟩;rw[qBg]at hz;split at hz
  . exact h2 i z hz
  rename_i hi;have:i-l.length=0:=by
   rcases qBJ (i-l.length) with h0|h0
   . exact h0
   rw[qAU (by simp;omega)]at hz;cases hz
  rw[this]at hz;cases hz;have:i=n:=by omega
  subst this;exact hy
section
variable {H:Type}{enc:TypeId×Value->H}{w:World}{base:Nat}{held:Bool}
abbrev KMw(w:World):Kn:=Go.Abs.K0 (qhv w)
def qj.get{K:Kn}:∀{l:List AV}{vs:List Value},qj K l vs->vs.length=l.length/\∀(j:Nat) (a:AV),l[j]?=some a->∃v,vs[j]?=some v/\qi K a v
 |[],_,h=>by simp only[qj]at h;subst h;simp
 | a::r,_,h=>by
  simp only[qj]at h;obtain⟨v,vr,rfl,h1,h2⟩:=h;obtain⟨k1,k2⟩:=qj.get h2;refine⟨by simp[k1],fun j b hj=>?_⟩
  cases j with
  |zero=>simp at hj;subst hj;exact⟨v,rfl,h1⟩
  |succ j=>simp at hj;exact k2 j b hj
def Kp{α:Type}{t e sz:Nat}{en:α->List AV}{good:α->Prop}{X:DataW H->Prop}{n:Nat}(ht:prog.underlying t=some (.slice e))(hsz:prog.cellsOf e=sz)(hpos:0<sz)
 (hat:∀y,(en y).all AV.atom=true/\(en y).length=sz)
 (hel:∀cs x,DataW.trod enc prog w base (fun _=>true) held n e cs=some x->X x.1->∃y,qj (KMw w) (en y) cs/\good y)
 {cs:List Value} {x:DataW H×List MemPlace} (h:DataW.trod enc prog w base (fun _=>true) held (n+1) t cs=some x) (hX:∀E S,x.1=.slice E S->∀d∈E,X d) :
 ∃(l:List α) (v:Value),cs=[v]/\qi (KMw w) (.sl sz (l.map en) .none) v/\Fits l/\(∀y∈l,good y)/\∀N,(∀E S,x.1=.slice E S->E.length<=N)->l.length<=N:=by
 rcases DataW.trod_slice ht h with⟨rfl,rfl⟩|⟨a,len,cap,elems,rest,m,hm,rfl,rfl,hb,hl,hc,hlen,hel',hsp,_⟩
 . exact⟨[],_,rfl,by simp only[qi];exact .inl ⟨⟨none,rfl,.inl rfl⟩,rfl,trivial⟩,by simp,by simp,by simp⟩
 have hnm:n=m:=by omega
 subst hnm;rw[hsz]at hel' hsp;have one:∀i,i<len->∃y,∃cs',w.cells? base (a.add (i*sz)) sz=some cs'/\qj (KMw w) (en y) cs'/\good y:=by
  intro i hi;have:=hel' i hi;rw[qAo (by omega)]at this;obtain⟨cs',h1,h2⟩:=qBW.1 this;obtain⟨y,h3,h4⟩:=hel cs' _ h2 (hX _ _ rfl _ (List.mem_map_of_mem (qCN _)));exact⟨y,cs',h1,h3,h4⟩
 by_cases h0:cap=0
 . have hl0:len=0:=(by omega);subst h0 hl0;exact⟨[],_,rfl,by simp only[qi];exact .inl ⟨⟨some a,rfl,.inr trivial⟩,rfl,trivial⟩,by simp,by simp,by simp⟩
 have spot:a.spot=none:=by
  have rd:∃cs',w.cells? base (a.add 0) sz=some cs':=by
   by_cases hl0:0<len
   . obtain⟨_,cs',h1,_⟩:=one 0 hl0;rw[qCl]at h1;exact⟨cs',h1⟩
   obtain⟨hr1,hr2⟩:=hsp rfl;have:=hr2 0 (by omega);rw[qAo (by omega),show len+0=0 by omega,qCl]at this;obtain⟨cs',h1,_⟩:=qBW.1 this;exact⟨cs',h1⟩
  obtain⟨cs',h1⟩:=rd;obtain⟨_,hlen',hc'⟩:=World.cells?_some h1;have:=hc' 0 hpos;rw[qAo (by omega)]at this
  cases hs:a.spot with
  |none=>rfl
  | some s=>
   simp only[Addr.add,if_true]at this;unfold World.cell? at this;rw[hs]at this;split at this<;>simp at this
 obtain⟨b,o,s⟩:=a;simp only at spot;subst spot;obtain⟨l,hl1,hl2⟩:=KH len one;refine⟨l,_,rfl,?_,by rw[Fits,hl1];simp only[maxLen]at hc;omega,fun y hy=>?_,fun N hN=>?_⟩
 . simp only[qi];refine .inr ⟨b,o,cap,by simp[hl1],by simpa[hl1] using hl,qFd b sz _ o fun i r e=>?_,trivial⟩;rw[qAR,qAu]at e;obtain⟨y,hy,rfl⟩:=e;obtain⟨cs',h1,h2,_⟩:=hl2 i y hy;obtain⟨h3,h4⟩:=hat y;obtain⟨_,hlen',hc'⟩:=World.cells?_some h1;obtain⟨g1,g2⟩:=qj.get h2;refine⟨h4,h3,qFc b _ _ fun j z hz=>?_⟩;obtain⟨v,hv1,hv2⟩:=g2 j z hz;have hjl:j<sz:=(by rw[<- hlen'];exact(qAm.1 hv1).1);refine⟨v,?_,hv2⟩;have:=hc' j hjl;rw[hv1]at this;show w.cell? ⟨b,o+i*sz+j,none⟩=some v;rw[<- this];congr 1;simp only[Addr.add];by_cases hi0:i*sz=0
   . rw[if_pos hi0];by_cases hj0:j=0
     . rw[if_pos hj0,hi0,hj0];simp
     rw[if_neg hj0,hi0];simp
   rw[if_neg hi0];by_cases hj0:j=0
   . rw[if_pos hj0,hj0];simp
   rw[if_neg hj0]
 . obtain⟨i,hi⟩:=qA5 hy;obtain⟨_,_,_,hg⟩:=hl2 i y hi;exact hg
 have:=hN _ _ rfl;simp only[qAY]at this;omega
def w9{α:Type}{t e sz:Nat}{en:α->List AV}{good:α->Prop}{n:Nat}(ht:prog.underlying t=some (.slice e))(hsz:prog.cellsOf e=sz)(hpos:0<sz)
 (hat:∀y,(en y).all AV.atom=true/\(en y).length=sz)
 (hel:∀cs x,DataW.trod enc prog w base (fun _=>true) held n e cs=some x->∃y,qj (KMw w) (en y) cs/\good y)
 {cs:List Value} {x:DataW H×List MemPlace} (h:DataW.trod enc prog w base (fun _=>true) held (n+1) t cs=some x) :
 ∃(l:List α) (v:Value),cs=[v]/\qi (KMw w) (.sl sz (l.map en) .none) v/\Fits l/\∀y∈l,good y:=by
 obtain⟨l,v,h1,h2,h3,h4,_⟩:=Kp (X:=fun _=>True) ht hsz hpos hat (fun cs x h _=>hel cs x h) h (fun _ _ _ _ _=>trivial);exact⟨l,v,h1,h2,h3,h4⟩
end
end Go.Proofs.YtafbccendejkeaaGreatDoor
namespace Go.Abs
open Go Go.RowKit
inductive Fr where
 |seq (y:Code)
 |block (id:Nat)
 |loop (n:Env->St->Prop)
 |scope
inductive Ct where
 |run (d lw:Bool) (rest:List Oper)
 |plan (ac:List Nat) (s:Sch)
section
variable (P:Program)(G:Glo)(o:Opts)
def itp:List Fr->(Exit->Env->St->Prop)->Exit->Env->St->Prop
 |[],Q=>Q
 |.seq y::ks,Q=>wX (fun env U=>vcC P G o y env U (itp ks Q)) (itp ks Q)
 |.block id::ks,Q=>wY id (itp ks Q)
 |.loop n::ks,Q=>wX n (itp ks Q)
 |.scope::ks,Q=>qqf (itp ks Q)
def kC(c:Code)(env:Env)(U:St)(ks:List Fr)(Q:Exit->Env->St->Prop):Prop:=vcC P G o c env U (itp P G o ks Q)
def kX(e:Exit)(env:Env)(U:St)(ks:List Fr)(Q:Exit->Env->St->Prop):Prop:=itp P G o ks Q e env U
def kT(ops:Array Oper)(ct:Ct)(env:Env)(U:St)(ks:List Fr)(Q:Exit->Env->St->Prop):Prop:=match ct with
 |.run d lw rest=>vcR P G o.mu ops d lw rest env U (fun env U=>itp P G o ks Q .normal env U)
 |.plan ac s=>vcS P G o.mu ac ops s env U (fun env U=>itp P G o ks Q .normal env U)
def kO(ops:Array Oper)(d:Bool)(op:Op)(dst:Option Nat)(ct:Ct)(env:Env)(U:St)(ks:List Fr)(Q:Exit->Env->St->Prop):Prop :=
 jN P G o.mu d op env U (fun v U'=>kT P G o ops ct (upd env dst v) U' ks Q)
def kS(ops:Array Oper)(x:Option (AV×St))(dst:Option Nat)(ct:Ct)(env:Env)(ks:List Fr)(Q:Exit->Env->St->Prop):Prop :=
 jI x (fun v U'=>kT P G o ops ct (upd env dst v) U' ks Q)
def kY(ops:Array Oper)(l:Option (List (AV×St)))(x:Option (AV×St))(dst:Option Nat)(ct:Ct)(env:Env)(ks:List Fr)(Q:Exit->Env->St->Prop):Prop :=
 vcX l x (fun v U'=>kT P G o ops ct (upd env dst v) U' ks Q)
def kFn(ops:Array Oper)(d:Bool)(f:AV)(args:List AV)(U:St)(dst:Option Nat)(ct:Ct)(env:Env)(ks:List Fr)(Q:Exit->Env->St->Prop):Prop :=
 qxm P G d f args U (fun v U'=>kT P G o ops ct (upd env dst v) U' ks Q)
def qb(ops:Array Oper)(d:Bool)(g:FuncId)(args:List AV)(U:St)(dst:Option Nat)(ct:Ct)(env:Env)(ks:List Fr)(Q:Exit->Env->St->Prop):Prop :=
 qa P G d g args U (fun v U'=>kT P G o ops ct (upd env dst v) U' ks Q)
def kCd(v:AV)(x y:Code)(env:Env)(U:St)(ks:List Fr)(Q:Exit->Env->St->Prop):Prop:=match v with
 |.bool b=>(b=true->kC P G o x env U ks Q)/\(b=false->kC P G o y env U ks Q)
 |_=>False
def kGv(ops:Array Oper)(d:Bool)(t:Nat)(v:AV)(b:Bool)(op:Op)(dst:Option Nat)(ct:Ct)(env:Env)(U:St)(ks:List Fr)(Q:Exit->Env->St->Prop):Prop:=match v with
 |.bool c=>((c==b)=true->kO P G o ops d op dst ct (upd env (some t) (.bool b)) U ks Q)/\((c==b)=false->kT P G o ops ct (upd (upd env (some t) (.bool (!b))) dst (.tup [])) U ks Q)
 |.tup []=>kT P G o ops ct (upd env dst (.tup [])) U ks Q
 |_=>False
def kG(ops:Array Oper)(d:Bool)(x:Option Nat)(b:Bool)(op:Op)(dst:Option Nat)(ct:Ct)(env:Env)(U:St)(ks:List Fr)(Q:Exit->Env->St->Prop):Prop:=match x with
 |some t=>kGv P G o ops d t (env t) b op dst ct env U ks Q
 |none=>kT P G o ops ct (upd env dst (.tup [])) U ks Q
def qL(c:Code)(env:Env)(U:St)(ks:List Fr)(Q:Exit->Env->St->Prop):Prop:=qB P G o c env U (itp P G o ks Q)
def kP(ops:Array Oper)(x:Option Oper)(d:Bool)(ct:Ct)(env:Env)(U:St)(ks:List Fr)(Q:Exit->Env->St->Prop):Prop:=match x with
 |some u=>vcG P G o.mu d ops u env U (fun env v U'=>kT P G o ops ct (upd env u.dst v) U' ks Q)
 |none=>False
end
section
variable {P:Program}{G:Glo}{o:Opts}{env:Env}{U:St}{ks:List Fr}{Q:Exit->Env->St->Prop}
@[simp ↓]def qx5:kC P G o .skip env U ks Q=kX P G o .normal env U ks Q:=by simp only[kC,kX,vcC]
@[simp ↓]def qy6:kC P G o .ret env U ks Q=kX P G o .ret env U ks Q:=by simp only[kC,kX,vcC]
@[simp ↓]def qx7{id}:kC P G o (.exit id) env U ks Q=kX P G o (.exit id) env U ks Q:=by simp only[kC,kX,vcC]
@[simp ↓]def qy5{x y}:kC P G o (.seq x y) env U ks Q=kC P G o x env U (.seq y::ks) Q:=by simp only[kC,vcC,itp]
@[simp ↓]def qwz{id x}:kC P G o (.block id x) env U ks Q=kC P G o x env U (.block id::ks) Q:=by simp only[kC,vcC,itp]
@[simp ↓]def qwv{x}:kC P G o (.scope x) env U ks Q=kC P G o x env U (.scope::ks) Q:=by simp only[kC,vcC,itp]
@[simp ↓]def qww{l}:kC P G o (.label l) env U ks Q=kX P G o .normal env U ks Q:=by simp only[kC,kX,vcC]
@[simp ↓]def qpA:kX P G o .ret env U (.scope::ks) Q=kX P G o .ret env U ks Q:=zY rfl
@[simp ↓]def qx8{c x y}:kC P G o (.cond c x y) env U ks Q=kCd P G o (ev G env c) x y env U ks Q:=by
 simp only[kC,vcC,kCd,qg7];split<;>simp_all[]
@[simp ↓]def qx6{x}:kC P G o (.loop x) env U ks Q=qL P G o x env U ks Q:=by simp only[kC,qL,vcC]<;>rfl
@[simp ↓]def quL{id l}:kC P G o (.region id l.toArray false) env U ks Q=kT P G o l.toArray (.run false (o.lw.contains id) l) env U ks Q:=by simp only[kC,kT,vcC]
@[simp ↓ high]def qto{id l}:kC P G o0 (.region id l.toArray false) env U ks Q=kT P G o0 l.toArray (.run false false l) env U ks Q:=by simp only[kC,kT,vcC];rfl
@[simp ↓ high]def qtn{m x y id l}:kC P G ⟨m,x,[],y⟩ (.region id l.toArray false) env U ks Q=kT P G ⟨m,x,[],y⟩ l.toArray (.run false false l) env U ks Q:=by simp only[kC,kT,vcC];rfl
@[simp ↓ high]def qwx{m y id l}:kC P G ⟨m,[],[],y⟩ (.region id l.toArray true) env U ks Q=kT P G ⟨m,[],[],y⟩ l.toArray (.run true false l) env U ks Q:=by simp[kC,kT,vcC]
@[simp ↓]def qwy{id l}:kC P G o0 (.region id l.toArray true) env U ks Q=kT P G o0 l.toArray (.run true false l) env U ks Q:=by simp[kC,kT,vcC,o0]
def Jr{id l}(h:o.fk.lookup id=none):kC P G o (.region id l.toArray true) env U ks Q=kT P G o l.toArray (.run true (o.lw.contains id) l) env U ks Q:=by simp only[kC,kT,vcC,h]
def qR{id}{l:List Oper}{s ac}(h:o.fk.lookup id=some (s,ac)):kC P G o (.region id l.toArray true) env U ks Q=kT P G o l.toArray (.plan ac s) env U ks Q:=by simp only[kC,kT,vcC,h]
@[simp]def qwt{x y}:kCd P G o (.bool true) x y env U ks Q=kC P G o x env U ks Q:=by simp[kCd]
@[simp]def quK{x y}:kCd P G o (.bool false) x y env U ks Q=kC P G o y env U ks Q:=by simp[kCd]
@[simp low]def qwu{b x y}:kCd P G o (.bool b) x y env U ks Q=((b=true->kC P G o x env U ks Q)/\(b=false->kC P G o y env U ks Q)):=zY rfl
@[simp ↓]def qyR{e}:kX P G o e env U [] Q=Q e env U:=zY rfl
@[simp ↓]def qyQ{y}:kX P G o .normal env U (.seq y::ks) Q=kC P G o y env U ks Q:=zY rfl
@[simp ↓]def qth{y}:kX P G o .ret env U (.seq y::ks) Q=kX P G o .ret env U ks Q:=zY rfl
@[simp ↓]def qrU{y i}:kX P G o (.exit i) env U (.seq y::ks) Q=kX P G o (.exit i) env U ks Q:=zY rfl
@[simp ↓]def qwj{id}:kX P G o .normal env U (.block id::ks) Q=kX P G o .normal env U ks Q:=zY rfl
@[simp ↓]def qpC{id}:kX P G o .ret env U (.block id::ks) Q=kX P G o .ret env U ks Q:=zY rfl
@[simp ↓]def qnD{id i}:kX P G o (.exit i) env U (.block id::ks) Q=if i=id then kX P G o .normal env U ks Q else kX P G o (.exit i) env U ks Q:=by
 simp only[kX,itp,wY]
@[simp ↓]def qxR{n}:kX P G o .normal env U (.loop n::ks) Q=n env U:=zY rfl
@[simp ↓]def qrV{n}:kX P G o .ret env U (.loop n::ks) Q=kX P G o .ret env U ks Q:=zY rfl
@[simp ↓]def qpB{n i}:kX P G o (.exit i) env U (.loop n::ks) Q=kX P G o (.exit i) env U ks Q:=zY rfl
end
section
variable {P:Program}{G:Glo}{o:Opts}{ops:Array Oper}{d lw:Bool}{env:Env}{U:St}{ks:List Fr}{Q:Exit->Env->St->Prop}{dst:Option Nat}{op:Op}{ct:Ct}
@[simp ↓]def qyT:kT P G o ops (.run d lw []) env U ks Q=kX P G o .normal env U ks Q:=zY rfl
@[simp ↓]def qyS{type pos}{after:Array Edge}{rest} :
 kT P G o ops (.run d false ({ dst:=dst,op:=op,type:=type,pos:=pos,after:=after,guard:=none }::rest)) env U ks Q=kO P G o ops d op dst (.run d false rest) env U ks Q:=by
 simp only[kT,kO];rw[qqx]
@[simp ↓]def qwk{type pos}{after:Array Edge}{rest j b} :
 kT P G o ops (.run d false ({ dst:=dst,op:=op,type:=type,pos:=pos,after:=after,guard:=some (j,b) }::rest)) env U ks Q=kG P G o ops d ((ops[j]?).bind (·.dst)) b op dst (.run d false rest) env U ks Q:=by
 simp only[kT];rw[qiH];unfold vK kG;generalize (ops[j]?).bind (·.dst)=x
 cases x with
 |none=>rfl
 | some t=>
  simp only[kGv];generalize env t=v
  cases v with
  |tup vs=>cases vs<;>rfl
  |_=>rfl
@[simp ↓]def qxU{ac}:kT P G o ops (.plan ac .done) env U ks Q=kX P G o .normal env U ks Q:=by simp only[kT,vcS,kX]
@[simp ↓]def qxS{ac dp k s}:kT P G o ops (.plan ac (.step k dp s)) env U ks Q=kP P G o ops (ops[k]?) (match ops[k]? with|some u=>ze o.mu ac k u.op != 9|none=>false) (.plan ac s) env U ks Q:=by
 simp only[kT,vcS,kP];split<;>rename_i h<;>simp[h]
@[simp]def qyU{type pos}{after:Array Edge}:kP P G o ops (some { dst:=dst,op:=op,type:=type,pos:=pos,after:=after,guard:=none }) d ct env U ks Q=kO P G o ops d op dst ct env U ks Q:=by
 simp only[kP,vcG,kO]
@[simp]def qx4{t b}:kG P G o ops d (some t) b op dst ct env U ks Q=kGv P G o ops d t (env t) b op dst ct env U ks Q:=zY rfl
@[simp]def qx3{t b}:kGv P G o ops d t (.tup []) b op dst ct env U ks Q=kT P G o ops ct (upd env dst (.tup [])) U ks Q:=zY rfl
@[simp]def qy0{t}:kGv P G o ops d t (.bool true) true op dst ct env U ks Q=kO P G o ops d op dst ct (upd env (some t) (.bool true)) U ks Q:=by simp[kGv]
@[simp]def qy3{t}:kGv P G o ops d t (.bool false) false op dst ct env U ks Q=kO P G o ops d op dst ct (upd env (some t) (.bool false)) U ks Q:=by simp[kGv]
@[simp]def qy1{t}:kGv P G o ops d t (.bool true) false op dst ct env U ks Q=kT P G o ops ct (upd (upd env (some t) (.bool true)) dst (.tup [])) U ks Q:=by simp[kGv]
@[simp]def qy2{t}:kGv P G o ops d t (.bool false) true op dst ct env U ks Q=kT P G o ops ct (upd (upd env (some t) (.bool false)) dst (.tup [])) U ks Q:=by simp[kGv]
@[simp low]def qws{t c}:kGv P G o ops d t (.bool c) true op dst ct env U ks Q=((c=true->kO P G o ops d op dst ct (upd env (some t) (.bool true)) U ks Q)/\(c=false->kT P G o ops ct (upd (upd env (some t) (.bool false)) dst (.tup [])) U ks Q)):=by simp[kGv]
@[simp low]def quJ{t c}:kGv P G o ops d t (.bool c) false op dst ct env U ks Q=((c=false->kO P G o ops d op dst ct (upd env (some t) (.bool false)) U ks Q)/\(c=true->kT P G o ops ct (upd (upd env (some t) (.bool true)) dst (.tup [])) U ks Q)):=by simp[kGv]
@[simp]def qxV{v U}:kS P G o ops (some (v,U)) dst ct env ks Q=kT P G o ops ct (upd env dst v) U ks Q:=zY rfl
@[simp]def qxW:kS P G o ops none dst ct env ks Q=False:=zY rfl
@[simp]def qxQ{x}:kY P G o ops none x dst ct env ks Q=kS P G o ops x dst ct env ks Q:=by simp only[kY,kS];rw[V5]
@[simp]def qyP{v τ x}:kY P G o ops (some [(v,τ)]) x dst ct env ks Q=kT P G o ops ct (upd env dst v) τ ks Q:=by simp only[kY];rw[qqv]
@[simp]def qyO{v v' τ τ' x}:kY P G o ops (some [(v,τ),(v',τ')]) x dst ct env ks Q=(kT P G o ops ct (upd env dst v) τ ks Q/\kT P G o ops ct (upd env dst v') τ' ks Q):=by simp only[kY];rw[qqu]
@[simp]def qy4{g first args cap}:kFn P G o ops d (.fn g first cap) args U dst ct env ks Q=qb P G o ops d g (yY first args cap) U dst ct env ks Q:=zY rfl
@[simp ↓]def qx2{f a t}:kO P G o ops d (.call { callee:=.value f,args:=a,argTypes:=t }) dst ct env U ks Q=kFn P G o ops d (ev G env f) (qbo G env a.toList) U dst ct env ks Q:=zY rfl
@[simp ↓]def qxZ{x}:kO P G o ops d (.move x) dst ct env U ks Q=kS P G o ops (sem (Dof P) G env U (.move x)) dst ct env ks Q:=by simp only[kO,kS];rw[qiK]
@[simp ↓]def quI{x}:kO P G o ops d (.assign x) dst ct env U ks Q=kS P G o ops (sem (Dof P) G env U (.assign x)) dst ct env ks Q:=by simp only[kO,kS];rw[qdK]
@[simp ↓]def qxY{a b c}:kO P G o ops d (.pick a b c) dst ct env U ks Q=kS P G o ops (sem (Dof P) G env U (.pick a b c)) dst ct env ks Q:=by simp only[kO,kS];rw[qiJ]
@[simp ↓]def qwr{t}:kO P G o ops d (.alloc t) dst ct env U ks Q=kS P G o ops (sem (Dof P) G env U (.alloc t)) dst ct env ks Q:=by simp only[kO,kS];rw[qg6]
@[simp ↓]def qyZ{t x}:kO P G o ops d (.box t x) dst ct env U ks Q=kS P G o ops (sem (Dof P) G env U (.box t x)) dst ct env ks Q:=by simp only[kO,kS];rw[qmi]
@[simp ↓]def qwp{t p}:kO P G o ops d (.build t p) dst ct env U ks Q=kS P G o ops (sem (Dof P) G env U (.build t p)) dst ct env ks Q:=by simp only[kO,kS];rw[qg4]
@[simp ↓]def qnH{t n p}:kO P G o ops d (.buildSlice t n p) dst ct env U ks Q=kS P G o ops (sem (Dof P) G env U (.buildSlice t n p)) dst ct env ks Q:=by simp only[kO,kS];rw[YW]
@[simp ↓]def qx0{t x}:kO P G o ops d (.load t x) dst ct env U ks Q=kS P G o ops (sem (Dof P) G env U (.load t x)) dst ct env ks Q:=by simp only[kO,kS];rw[qiL]
@[simp ↓]def qwl{t x y}:kO P G o ops d (.store t x y) dst ct env U ks Q=kS P G o ops (sem (Dof P) G env U (.store t x y)) dst ct env ks Q:=by simp only[kO,kS];rw[qg0]
@[simp ↓]def qrW{x}:kO P G o ops d (.nilCheck x) dst ct env U ks Q=kS P G o ops (sem (Dof P) G env U (.nilCheck x)) dst ct env ks Q:=by simp only[kO,kS];rw[V6]
@[simp ↓]def qwq{b t u x y}(h:b≠.eql)(h':b≠.neq):kO P G o ops d (.binOp b t x y u) dst ct env U ks Q=kS P G o ops (sem (Dof P) G env U (.binOp b t x y u)) dst ct env ks Q:=by simp only[kO,kS];rw[qg5 h h']
@[simp ↓]def qyY{t u x y}:kO P G o ops d (.binOp .eql t x y u) dst ct env U ks Q=kY P G o ops (qjZ d false (Dof P) t (ev G env x) (ev G env y) U) (sem (Dof P) G env U (.binOp .eql t x y u)) dst ct env ks Q:=by simp only[kO,kY];rw[qmg]
@[simp ↓]def qyV{t u x y}:kO P G o ops d (.binOp .neq t x y u) dst ct env U ks Q=kY P G o ops (qjZ d true (Dof P) t (ev G env x) (ev G env y) U) (sem (Dof P) G env U (.binOp .neq t x y u)) dst ct env ks Q:=by simp only[kO,kY];rw[qmd]
@[simp ↓]def qxX{u t x}:kO P G o ops d (.unOp u t x) dst ct env U ks Q=kS P G o ops (sem (Dof P) G env U (.unOp u t x)) dst ct env ks Q:=by simp only[kO,kS];rw[qiI]
@[simp ↓]def qtk{t u x}:kO P G o ops d (.convert t u x) dst ct env U ks Q=kS P G o ops (sem (Dof P) G env U (.convert t u x)) dst ct env ks Q:=by simp only[kO,kS];rw[qbC]
@[simp ↓]def qrX{f:Fn}{a b}:kO P G o ops d (.makeFunc f a b) dst ct env U ks Q=kS P G o ops (sem (Dof P) G env U (.makeFunc f a b)) dst ct env ks Q:=by simp only[kO,kS];rw[V7]
@[simp ↓]def qti{t r}:kO P G o ops d (.makeMap t r) dst ct env U ks Q=kS P G o ops (sem (Dof P) G env U (.makeMap t r)) dst ct env ks Q:=by simp only[kO,kS];rw[qbA]
def ZS{t x y}(hmu:o.mu=false):kO P G o ops d (.makeSlice t x y) dst ct env U ks Q=kS P G o ops (sem (Dof P) G env U (.makeSlice t x y)) dst ct env ks Q:=by
 simp only[kO,kS];cases d
 . rw[QX,hmu,qj5,V5]
 rw[YV]
@[simp ↓]def qnF{u lw v t x y}:kO P G ⟨false,u,lw,v⟩ ops d (.makeSlice t x y) dst ct env U ks Q=kS P G ⟨false,u,lw,v⟩ ops (sem (Dof P) G env U (.makeSlice t x y)) dst ct env ks Q:=ZS rfl
@[simp ↓]def qnG{t x y}:kO P G o0 ops d (.makeSlice t x y) dst ct env U ks Q=kS P G o0 ops (sem (Dof P) G env U (.makeSlice t x y)) dst ct env ks Q:=ZS rfl
@[simp ↓]def qnE{u lw v t x y}:kO P G ⟨true,u,lw,v⟩ ops false (.makeSlice t x y) dst ct env U ks Q=kY P G ⟨true,u,lw,v⟩ ops (mkX (Dof P) true U t (ev G env x) (ev G env y)) (sem (Dof P) G env U (.makeSlice t x y)) dst ct env ks Q:=by simp only[kO,kY];rw[QX]
@[simp ↓]def qwm{t x lo hi mx}:kO P G o ops d (.slice t x lo hi mx) dst ct env U ks Q=kS P G o ops (sem (Dof P) G env U (.slice t x lo hi mx)) dst ct env ks Q:=by simp only[kO,kS];rw[qg1]
@[simp ↓]def qpF{t x i}:kO P G o ops d (.fieldAddr t x i) dst ct env U ks Q=kS P G o ops (sem (Dof P) G env U (.fieldAddr t x i)) dst ct env ks Q:=by simp only[kO,kS];rw[WH]
@[simp ↓]def qwo{t x i}:kO P G o ops d (.field t x i) dst ct env U ks Q=kS P G o ops (sem (Dof P) G env U (.field t x i)) dst ct env ks Q:=by simp only[kO,kS];rw[qg3]
@[simp ↓]def qpE{t x y}:kO P G o ops d (.indexAddr t x y) dst ct env U ks Q=kS P G o ops (sem (Dof P) G env U (.indexAddr t x y)) dst ct env ks Q:=by simp only[kO,kS];rw[WG]
@[simp ↓]def qwn{t x y}:kO P G o ops d (.index t x y) dst ct env U ks Q=kS P G o ops (sem (Dof P) G env U (.index t x y)) dst ct env ks Q:=by simp only[kO,kS];rw[qg2]
@[simp ↓]def quH{t x y k}:kO P G o ops d (.lookup t x y k) dst ct env U ks Q=kS P G o ops (sem (Dof P) G env U (.lookup t x y k)) dst ct env ks Q:=by simp only[kO,kS];rw[qdJ]
@[simp ↓]def qpD{t x y z}:kO P G o ops d (.mapUpdate t x y z) dst ct env U ks Q=kS P G o ops (sem (Dof P) G env U (.mapUpdate t x y z)) dst ct env ks Q:=by simp only[kO,kS];rw[WF]
@[simp ↓]def qtj{x i}:kO P G o ops d (.extract x i) dst ct env U ks Q=kS P G o ops (sem (Dof P) G env U (.extract x i)) dst ct env ks Q:=by simp only[kO,kS];rw[qbB]
@[simp ↓]def qyX{a t}:kO P G o ops d (.call { callee:=.builtin .len,args:=a,argTypes:=t }) dst ct env U ks Q=kS P G o ops (sem (Dof P) G env U (.call { callee:=.builtin .len,args:=a,argTypes:=t })) dst ct env ks Q:=by simp only[kO,kS];rw[qmf]
@[simp ↓]def qyW{a t}:kO P G o ops d (.call { callee:=.builtin .min,args:=a,argTypes:=t }) dst ct env U ks Q=kS P G o ops (sem (Dof P) G env U (.call { callee:=.builtin .min,args:=a,argTypes:=t })) dst ct env ks Q:=by simp only[kO,kS];rw[qme]
@[simp ↓]def qkk{a t}(hmu:o.mu=false):kO P G o ops d (.call { callee:=.builtin .append,args:=a,argTypes:=t }) dst ct env U ks Q=kS P G o ops (sem (Dof P) G env U (.call { callee:=.builtin .append,args:=a,argTypes:=t })) dst ct env ks Q:=by simp only[kO,kS,hmu];rw[qdL]
@[simp ↓]def qtl{s x t u}(hmu:o.mu=true):kO P G o ops false (.call { callee:=.builtin .append,args:=#[s,x],argTypes:=#[t,u] }) dst ct env U ks Q=kY P G o ops ((zq (Dof P) U t u (ev G env s) (ev G env x)).map fun p=>[p]) (sem (Dof P) G env U (.call { callee:=.builtin .append,args:=#[s,x],argTypes:=#[t,u] })) dst ct env ks Q:=by simp only[kO,kY,hmu];rw[qbD]
@[simp ↓]def qx1{x y t u}:kO P G o ops false (.call { callee:=.builtin .copy,args:=#[x,y],argTypes:=#[t,u] }) dst ct env U ks Q=kY P G o ops ((kj (Dof P) U t (ev G env x) (ev G env y)).map fun p=>[p]) none dst ct env ks Q:=by simp only[kO,kY];rw[qiM]
@[simp ↓]def qtm{a t}:kO P G o0 ops d (.call { callee:=.builtin .append,args:=a,argTypes:=t }) dst ct env U ks Q=kS P G o0 ops (sem (Dof P) G env U (.call { callee:=.builtin .append,args:=a,argTypes:=t })) dst ct env ks Q:=qkk rfl
end
section
@[simp]def qw0  : AV.atom (.any)=false:=rfl
@[simp]def qsV  : qV (.any)=none:=rfl
@[simp]def qxJ  : pl1 (.any)=.any:=rfl
@[simp]def qxD  : pl2 (.any)=.any:=rfl
@[simp]def quk  : plain (.any)=.any:=rfl
@[simp]def qwS  {H}:ky H (.any)=.any:=rfl
@[simp]def qwM  {H}:vG H (.any)=.any:=rfl
@[simp]def qyn  {H}:fin H (.any)=.any:=rfl
@[simp]def qvw{b}:AV.atom (.bool b)=true:=rfl
@[simp]def qqd{b}:qV (.bool b)=some [.bool b]:=rfl
@[simp]def qwc{b}:pl1 (.bool b)=.bool b:=rfl
@[simp]def qv6{b}:pl2 (.bool b)=.bool b:=rfl
@[simp]def qtd{b}:plain (.bool b)=.bool b:=rfl
@[simp]def qu8{b H}:ky H (.bool b)=.bool b:=rfl
@[simp]def qu2{b H}:vG H (.bool b)=.bool b:=rfl
@[simp]def qwH{b H}:fin H (.bool b)=.bool b:=rfl
@[simp]def qwZ{k n}:AV.atom (.int k n)=true:=rfl
@[simp]def qsU{k n}:qV (.int k n)=some [.int k n]:=rfl
@[simp]def qxI{k n}:pl1 (.int k n)=.int k n:=rfl
@[simp]def qxC{k n}:pl2 (.int k n)=.int k n:=rfl
@[simp]def quj{k n}:plain (.int k n)=.int k n:=rfl
@[simp]def qwR{k n H}:ky H (.int k n)=.int k n:=rfl
@[simp]def qwL{k n H}:vG H (.int k n)=.int k n:=rfl
@[simp]def qym{k n H}:fin H (.int k n)=.int k n:=rfl
@[simp]def qwW{s:List UInt8}:AV.atom (.str s)=true:=rfl
@[simp]def qsR{s:List UInt8}:qV (.str s)=some [.str s]:=rfl
@[simp]def qxF{s:List UInt8}:pl1 (.str s)=.str s:=rfl
@[simp]def qxz{s:List UInt8}:pl2 (.str s)=.str s:=rfl
@[simp]def qug{s:List UInt8}:plain (.str s)=.str s:=rfl
@[simp]def qwO{s:List UInt8}{H}:ky H (.str s)=.str s:=rfl
@[simp]def qwI{s:List UInt8}{H}:vG H (.str s)=.str s:=rfl
@[simp]def qyj{s:List UInt8}{H}:fin H (.str s)=.str s:=rfl
@[simp]def qvs  : AV.atom (.nilp)=true:=rfl
@[simp]def qp9  : qV (.nilp)=some [.nilp]:=rfl
@[simp]def qv8  : pl1 (.nilp)=.nilp:=rfl
@[simp]def qv2  : pl2 (.nilp)=.nilp:=rfl
@[simp]def qs9  : plain (.nilp)=.nilp:=rfl
@[simp]def qu4  {H}:ky H (.nilp)=.nilp:=rfl
@[simp]def quY  {H}:vG H (.nilp)=.nilp:=rfl
@[simp]def qwD  {H}:fin H (.nilp)=.nilp:=rfl
@[simp]def qwX{b o}:AV.atom (.ptr b o)=true:=rfl
@[simp]def qsS{b o}:qV (.ptr b o)=some [.ptr b o]:=rfl
@[simp]def qxG{b o}:pl1 (.ptr b o)=.ptr b o:=rfl
@[simp]def qxA{b o}:pl2 (.ptr b o)=.ptr b o:=rfl
@[simp]def quh{b o}:plain (.ptr b o)=.ptr b o:=rfl
@[simp]def qwP{b o H}:ky H (.ptr b o)=.ptr b o:=rfl
@[simp]def qwJ{b o H}:vG H (.ptr b o)=.ptr b o:=rfl
@[simp]def qyk{b o H}:fin H (.ptr b o)=.ptr b o:=rfl
@[simp]def qvr{c}:AV.atom (.rptr c)=true:=rfl
@[simp]def qp8{c}:qV (.rptr c)=some [.rptr c]:=rfl
@[simp]def qv7{c}:pl1 (.rptr c)=.rptr c:=rfl
@[simp]def qv1{c}:pl2 (.rptr c)=.rptr c:=rfl
@[simp]def qs8{c}:plain (.rptr c)=.rptr c:=rfl
@[simp]def qu3{c H}:ky H (.rptr c)=.rptr c:=rfl
@[simp]def quW{c H}:vG H (.rptr c)=.rptr c:=rfl
@[simp]def qwB{c H}:fin H (.rptr c)=.rptr c:=rfl
@[simp]def qvt  : AV.atom (.nilm)=true:=rfl
@[simp]def qqa  : qV (.nilm)=some [.nilm]:=rfl
@[simp]def qv9  : pl1 (.nilm)=.nilm:=rfl
@[simp]def qv3  : pl2 (.nilm)=.nilm:=rfl
@[simp]def qta  : plain (.nilm)=.nilm:=rfl
@[simp]def qu5  {H}:ky H (.nilm)=.nilm:=rfl
@[simp]def quZ  {H}:vG H (.nilm)=.nilm:=rfl
@[simp]def qwE  {H}:fin H (.nilm)=.nilm:=rfl
@[simp]def qwY{b}:AV.atom (.map b)=true:=rfl
@[simp]def qsT{b}:qV (.map b)=some [.map b]:=rfl
@[simp]def qxH{b}:pl1 (.map b)=.map b:=rfl
@[simp]def qxB{b}:pl2 (.map b)=.map b:=rfl
@[simp]def qui{b}:plain (.map b)=.map b:=rfl
@[simp]def qwQ{b H}:ky H (.map b)=.map b:=rfl
@[simp]def qwK{b H}:vG H (.map b)=.map b:=rfl
@[simp]def qyl{b H}:fin H (.map b)=.map b:=rfl
@[simp]def qvv{b}:AV.atom (.iter b)=true:=rfl
@[simp]def qqc{b}:qV (.iter b)=some [.iter b]:=rfl
@[simp]def qwb{b}:pl1 (.iter b)=.iter b:=rfl
@[simp]def qv5{b}:pl2 (.iter b)=.iter b:=rfl
@[simp]def qtc{b}:plain (.iter b)=.iter b:=rfl
@[simp]def qu7{b H}:ky H (.iter b)=.iter b:=rfl
@[simp]def qu1{b H}:vG H (.iter b)=.iter b:=rfl
@[simp]def qwG{b H}:fin H (.iter b)=.iter b:=rfl
@[simp]def qyx{f a c}:AV.atom (.fn f a c)=true:=rfl
@[simp]def qtx{f a c}:qV (.fn f a c)=some [.fn f a c]:=rfl
@[simp]def qyL{f a c}:pl1 (.fn f a c)=.fn f a c:=rfl
@[simp]def qyJ{f a c}:pl2 (.fn f a c)=.fn f a c:=rfl
@[simp]def qv0{f a c}:plain (.fn f a c)=.fn f a c:=rfl
@[simp]def qyq{f a c H}:ky H (.fn f a c)=.fn f a c:=rfl
@[simp]def qyp{f a c H}:vG H (.fn f a c)=.fn f a c:=rfl
@[simp]def qy8{f a c H}:fin H (.fn f a c)=.fn f a c:=rfl
@[simp]def qvu  : AV.atom (.nilf)=true:=rfl
@[simp]def qqb  : qV (.nilf)=some [.nilf]:=rfl
@[simp]def qwa  : pl1 (.nilf)=.nilf:=rfl
@[simp]def qv4  : pl2 (.nilf)=.nilf:=rfl
@[simp]def qtb  : plain (.nilf)=.nilf:=rfl
@[simp]def qu6  {H}:ky H (.nilf)=.nilf:=rfl
@[simp]def qu0  {H}:vG H (.nilf)=.nilf:=rfl
@[simp]def qwF  {H}:fin H (.nilf)=.nilf:=rfl
@[simp]def qyv{sz rows tok}:AV.atom (.sl sz rows tok)=true:=rfl
@[simp]def qtv{sz rows tok}:qV (.sl sz rows tok)=some [.sl sz rows tok]:=rfl
@[simp]def qro{sz rows}  : pl1 (.sl sz rows .none)=.sl sz rows .none:=rfl
@[simp]def qrn{sz rows}  : pl2 (.sl sz rows .none)=.sl sz rows .none:=rfl
@[simp]def qnk{sz rows}  : plain (.sl sz rows .none)=.sl sz rows .none:=rfl
@[simp]def qpO{sz rows H}:ky H (.sl sz rows .none)=.sl sz rows .none:=rfl
@[simp]def qpN{sz rows H}:vG H (.sl sz rows .none)=.sl sz rows .none:=rfl
@[simp]def qsl{sz rows H}:fin H (.sl sz rows .none)=.sl sz rows .none:=rfl
@[simp]def qtf{sz rows}  : pl1 (.sl sz rows .nil)=.sl sz rows .nil:=rfl
@[simp]def qte{sz rows}  : pl2 (.sl sz rows .nil)=.sl sz rows .nil:=rfl
@[simp]def qpk{sz rows}  : plain (.sl sz rows .nil)=.sl sz rows .nil:=rfl
@[simp]def qso{sz rows H}:ky H (.sl sz rows .nil)=.sl sz rows .nil:=rfl
@[simp]def qsn{sz rows H}:vG H (.sl sz rows .nil)=.sl sz rows .nil:=rfl
@[simp]def qtq{sz rows H}:fin H (.sl sz rows .nil)=.sl sz rows .nil:=rfl
@[simp]def qpn{sz rows}  : pl1 (.sl sz rows .tight)=.sl sz rows .tight:=rfl
@[simp]def qpl{sz rows}  : pl2 (.sl sz rows .tight)=.sl sz rows .tight:=rfl
@[simp]def ql2{sz rows}  : plain (.sl sz rows .tight)=.sl sz rows .tight:=rfl
@[simp]def qn4{sz rows H}:ky H (.sl sz rows .tight)=.sl sz rows .tight:=rfl
@[simp]def qn2{sz rows H}:vG H (.sl sz rows .tight)=.sl sz rows .tight:=rfl
@[simp]def qpL{sz rows H}:fin H (.sl sz rows .tight)=.sl sz rows .tight:=rfl
@[simp]def qpo{sz rows t k}:pl1 (.sl sz rows (.chain t k))=.sl sz rows .none:=rfl
@[simp]def qpm{sz rows t k}:pl2 (.sl sz rows (.chain t k))=.sl sz rows .none:=rfl
@[simp]def ql3{sz rows t k}:plain (.sl sz rows (.chain t k))=.sl sz rows .none:=rfl
@[simp]def qn5{sz rows t k H}:ky H (.sl sz rows (.chain t k))=.sl sz rows .none:=rfl
@[simp]def qn3{sz rows t k H}:vG H (.sl sz rows (.chain t k))=.sl sz rows .none:=rfl
@[simp]def qpM{sz rows t k H}:fin H (.sl sz rows (.chain t k))=.sl sz rows .none:=rfl
@[simp]def qyw{b o l z}:AV.atom (.ms b o l z)=true:=rfl
@[simp]def qtw{b o l z}:qV (.ms b o l z)=some [.ms b o l z]:=rfl
@[simp]def qyK{b o l z}:pl1 (.ms b o l z)=.ms b o l z:=rfl
@[simp]def qyI{b o l z}:pl2 (.ms b o l z)=.ms b o l z:=rfl
@[simp]def qvZ{b o l z}:plain (.ms b o l z)=.ms b o l z:=rfl
@[simp]def qw1{c}:AV.atom (.agg c)=false:=rfl
@[simp]def qwV{c}:AV.atom (.tup c)=false:=rfl
@[simp]def qsW{c}:qV (.agg c)=if c.all AV.atom=true then some c else none:=rfl
@[simp]def qtu{c}:qV (.tup c)=none:=rfl
@[simp]def qxE{c}:pl2 (.agg c)=.agg (c.map pl1):=rfl
@[simp]def qul{c}:plain (.agg c)=.agg (c.map pl1):=rfl
@[simp]def qwN{c H}:vG H (.agg c)=.agg (c.map (ky H)):=rfl
@[simp]def qyo{c H}:fin H (.agg c)=.agg (c.map (ky H)):=rfl
@[simp]def quf{c}:plain (.tup c)=.tup (c.map pl2):=rfl
@[simp]def qyi{c H}:fin H (.tup c)=.tup (c.map (vG H)):=rfl
end
attribute [simp] qD7 qCR
attribute [simp] zs zW qM qf qm qY Jn qQ TD.isSl TD.isPtr TD.isMap TD.isFn
section
variable {A t:List Blk}{k:Nat}{x:Blk}
@[simp]def qyz:(A++t)[A.length]?=t[0]? := by rw[qAw (qAy _),qBm]
@[simp]def qyy:(A++t)[A.length+k]?=t[k]? := by rw[qAw (by omega)];congr 1;try omega
def qd(h:A[k]?=some x)(t):(A++t)[k]?=some x:=by rw[qAB (qAm.1 h).1,h]
def ku{b}(h:A[b]?=some x)(t y):(A++t).set b y=A.set b y++t:=List.set_append_left _ _ (qAm.1 h).1
end
section
variable {P:Program}{G:Glo}{U:St}{f:FuncId}{args:List AV}{r:AV}
def Pure.kO {G : Nat → AV} {fn : Func} {c : Code} (o : Opts) (deep : Bool) (hm : P.follows .mixedOrders = true) (hf : P.funcs[f]? = some fn) (hb : fn.body = some c) (hk : (jT fn.ntmps o c && decide (args.length ≤ fn.ntmps) && fn.name != "runtime.NumGoroutine") = true)
 (h:kC P G o c (JA args) ⟨[],[]⟩ [] (qcZ P deep fn.results.toList r)):Pure P G f args r:=Pure.vcO o deep hm hf hb hk h
def qEF:=@Pure.kO
def Pure.k {G : Nat → AV} {fn : Func} {c : Code} (hm : P.follows .mixedOrders = true) (hf : P.funcs[f]? = some fn) (hb : fn.body = some c) (hk : (jT fn.ntmps o0 c && decide (args.length ≤ fn.ntmps) && fn.name != "runtime.NumGoroutine") = true)
 (h:kC P G o0 c (JA args) ⟨[],[]⟩ [] (qcZ P false fn.results.toList r)):Pure P G f args r:=qE9 hm hf hb hk h
def qEG:=@Pure.k
def qg.kO {fn c Q} (o) (hm : P.follows .mixedOrders = true) (hf : P.funcs[f]? = some fn) (hb : fn.body = some c) (hk : (jT fn.ntmps o c && decide (args.length ≤ fn.ntmps) && fn.name != "runtime.NumGoroutine") = true)
 (h:kC P G o c (JA args) U [] (qds P fn.results.toList Q)):qg P G f args U Q:=qg.vcO o hm hf hb hk h
def qEH:=@qg.kO
def qg.k {fn c Q} (hm : P.follows .mixedOrders = true) (hf : P.funcs[f]? = some fn) (hb : fn.body = some c) (hk : (jT fn.ntmps o0 c && decide (args.length ≤ fn.ntmps) && fn.name != "runtime.NumGoroutine") = true)
 (h:kC P G o0 c (JA args) U [] (qds P fn.results.toList Q)):qg P G f args U Q:=qg.vc hm hf hb hk h
def qEI:=@qg.k
end
section
variable {P:Program}{G:Glo}{o:Opts}{ops:Array Oper}{d:Bool}{g:FuncId}{args args':List AV}{env:Env}{U:St}{ks:List Fr}{Q:Exit->Env->St->Prop}{dst:Option Nat}{ct:Ct}{r:AV}
def qb.call(h:Pure P G g args r)(hno:qz args=true)(hq:kT P G o ops ct (upd env dst r) U ks Q):qb P G o ops d g args U dst ct env ks Q:=qET h hno hq
def qEJ:=@qb.call
def qb.less(h:Pure P G g args' r)(hno:qz args=true)(ha:zn args args')(hq:kT P G o ops ct (upd env dst r) U ks Q):qb P G o ops d g args U dst ct env ks Q:=qEU h hno ha hq
def qb.pure(h:Pure P G g args' r)(hno:qz (args.map plain)=true)(ha:zn (args.map plain) args')(hq:kT P G o ops ct (upd env dst r) U ks Q):qb P G o ops d g args U dst ct env ks Q:=qE8 h hno ha hq
def qEK:=@qb.pure
def qb.lent(h:Pure P G g args' r)(hb:qtt r=true)(ha:zn (args.map (frz U.H 8)) args')(hq:kT P G o ops ct (upd env dst r) U ks Q):qb P G o ops d g args U dst ct env ks Q:=qa.lent h hb ha hq
def qEL:=@qb.lent
def qb.acall{R}(h:qg P G g args U R)(hq:∀v U',R v U'->kT P G o ops ct (upd env dst v) U' ks Q):qb P G o ops false g args U dst ct env ks Q:=qEX h hq
def qEM:=@qb.acall
def qL.list{α:Type}(l:List α)(J:List α->Env->St->Prop){c:Code}(h0:J [] env U)
 (hs:∀d v r env U,l=d++v::r->l[d.length]?=some v->d.length<l.length->J d env U->kC P G o c env U (.loop (J (d++[v]))::ks) Q)
 (he:∀env U,J l env U->kC P G o c env U (.loop (fun _ _=>False)::ks) Q) (hp:yc c=true:=by rfl):qL P G o c env U ks Q:=qB.list l J h0 hs he hp
def qEN:=@qL.list
def qL.count(n)(J:Nat->Env->St->Prop){c}(h0:J 0 env U)
 (hs:∀i env U,i<n->J i env U->kC P G o c env U (.loop (J (i+1))::ks) Q)
 (he:∀env U,J n env U->kC P G o c env U (.loop (fun _ _=>False)::ks) Q) (hp:yc c=true:=by rfl):qL P G o c env U ks Q:=qB.count n J h0 hs he hp
def qL.gen{c}(I:Nat->Env->St->Prop)(n)(h:I n env U)(hr:∀n env U (R:Env->St->Prop),(∀m env U,m<n->I m env U->R env U)->I n env U->kC P G o c env U (.loop R::ks) Q):qL P G o c env U ks Q :=
 qE6 I n h fun n env U hI=>hr n env U _ (fun m env U hm hI=>⟨m,hm,hI⟩) hI
def qEO:=@qL.gen
end
