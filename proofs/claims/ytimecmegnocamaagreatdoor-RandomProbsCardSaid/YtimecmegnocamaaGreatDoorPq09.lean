import Derived.Test.YtimecmegnocamaaGreatDoorProg
import Derived.KernelRfl
import Derived.Test.YtimecmegnocamaaGreatDoorPq08
import Derived.Laws.RangeAny
import Derived.Shelf.Lay
import Derived.Shelf.Strings.Search1
import Derived.WalkKit
set_option maxRecDepth 100000
set_option linter.all false
set_option linter.defProp false
namespace Go.Proofs.YtimecmegnocamaaGreatDoor
open Go Go.Abs Tryz Go.RowKit
@[simp]def D1:Dof prog 1=some ⟨1,8,[.nilf],.nilf,.fn,true⟩:=by kernel_rfl
@[simp]def D2:Dof prog 2=some ⟨1,8,[.int .i64 0],.int .i64 0,.int .i64,true⟩:=by kernel_rfl
@[simp]def D3:Dof prog 3=some ⟨1,8,[.int .i64 0],.int .i64 0,.int .i64,true⟩:=by kernel_rfl
@[simp]def D4:Dof prog 4=some ⟨1,1,[.bool false],.bool false,.bool,true⟩:=by kernel_rfl
@[simp]def D5:Dof prog 5=some ⟨1,1,[.int .u8 0],.int .u8 0,.int .u8,true⟩:=by kernel_rfl
@[simp]def D9:Dof prog 9=some ⟨1,16,[.str []],.str [],.str,true⟩:=by kernel_rfl
@[simp]def D22:Dof prog 22=some ⟨1,24,[.sl 0 [] .nil],.sl 0 [] .nil,.sl 47,true⟩:=by kernel_rfl
@[simp]def D23:Dof prog 23=some ⟨1,24,[.sl 0 [] .nil],.sl 0 [] .nil,.sl 63,true⟩:=by kernel_rfl
@[simp]def D24:Dof prog 24=some ⟨1,24,[.sl 0 [] .nil],.sl 0 [] .nil,.sl 66,true⟩:=by kernel_rfl
@[simp]def D25:Dof prog 25=some ⟨1,24,[.sl 0 [] .nil],.sl 0 [] .nil,.sl 28,true⟩:=by kernel_rfl
@[simp]def D27:Dof prog 27=some ⟨5,120,[.sl 0 [] .nil,.sl 0 [] .nil,.sl 0 [] .nil,.sl 0 [] .nil,.sl 0 [] .nil],.agg [.sl 0 [] .nil,.sl 0 [] .nil,.sl 0 [] .nil,.sl 0 [] .nil,.sl 0 [] .nil],.st [(0,22),(1,23),(2,23),(3,24),(4,25)],true⟩:=by kernel_rfl
@[simp]def D28:Dof prog 28=some ⟨1,24,[.sl 0 [] .nil],.sl 0 [] .nil,.sl 3,true⟩:=by kernel_rfl
@[simp]def D33:Dof prog 33=some ⟨2,16,[.int .i64 0,.int .i64 0],.agg [.int .i64 0,.int .i64 0],.st [(0,3),(1,3)],true⟩:=by kernel_rfl
@[simp]def D34:Dof prog 34=some ⟨1,8,[.int .i64 0],.int .i64 0,.int .i64,true⟩:=by kernel_rfl
@[simp]def D47:Dof prog 47=some ⟨4,40,[.str [],.int .i64 0,.int .i64 0,.int .i64 0],.agg [.str [],.int .i64 0,.int .i64 0,.int .i64 0],.st [(0,9),(1,3),(2,3),(3,3)],true⟩:=by kernel_rfl
@[simp]def D48:Dof prog 48=some ⟨1,8,[.nilp],.nilp,.ptr 73,true⟩:=by kernel_rfl
@[simp]def D63:Dof prog 63=some ⟨4,56,[.int .i64 0,.int .i64 0,.str [],.sl 0 [] .nil],.agg [.int .i64 0,.int .i64 0,.str [],.sl 0 [] .nil],.st [(0,3),(1,3),(2,9),(3,23)],true⟩:=by kernel_rfl
@[simp]def D64:Dof prog 64=some ⟨1,24,[.sl 0 [] .nil],.sl 0 [] .nil,.sl 150,true⟩:=by kernel_rfl
@[simp]def D66:Dof prog 66=some ⟨2,32,[.int .i64 0,.sl 0 [] .nil],.agg [.int .i64 0,.sl 0 [] .nil],.st [(0,3),(1,64)],true⟩:=by kernel_rfl
@[simp]def D68:Dof prog 68=some ⟨1,24,[.sl 0 [] .nil],.sl 0 [] .nil,.sl 159,true⟩:=by kernel_rfl
@[simp]def D70:Dof prog 70=some ⟨1,24,[.sl 0 [] .nil],.agg [.sl 0 [] .nil],.st [(0,68)],true⟩:=by kernel_rfl
@[simp]def D71:Dof prog 71=some ⟨1,8,[.nilf],.nilf,.fn,true⟩:=by kernel_rfl
@[simp]def D73:Dof prog 73=some ⟨11,216,[.sl 0 [] .nil,.sl 0 [] .nil,.sl 0 [] .nil,.sl 0 [] .nil,.sl 0 [] .nil,.sl 0 [] .nil,.sl 0 [] .nil,.sl 0 [] .nil,.int .i64 0,.bool false,.nilf],.agg [.sl 0 [] .nil,.sl 0 [] .nil,.sl 0 [] .nil,.sl 0 [] .nil,.sl 0 [] .nil,.sl 0 [] .nil,.sl 0 [] .nil,.sl 0 [] .nil,.int .i64 0,.bool false,.nilf],.st [(0,27),(5,23),(6,28),(7,70),(8,3),(9,4),(10,71)],true⟩:=by kernel_rfl
@[simp]def D84:Dof prog 84=some ⟨1,8,[.nilf],.nilf,.fn,true⟩:=by kernel_rfl
@[simp]def D86:Dof prog 86=some ⟨1,8,[.int .u64 0],.int .u64 0,.int .u64,true⟩:=by kernel_rfl
@[simp]def D88:Dof prog 88=some ⟨3,24,[.bool false,.int .u64 0,.int .u64 0],.agg [.bool false,.int .u64 0,.int .u64 0],.st [(0,4),(1,86),(2,86)],true⟩:=by kernel_rfl
@[simp]def qAT:Dof prog 106=some ⟨2,32,[.sl 0 [] .nil,.int .i64 0],.agg [.sl 0 [] .nil,.int .i64 0],.st [(0,70),(1,3)],true⟩:=by kernel_rfl
@[simp]def qAS:Dof prog 107=some ⟨1,8,[.nilf],.nilf,.fn,true⟩:=by kernel_rfl
@[simp]def qAR:Dof prog 109=some ⟨1,8,[.nilm],.nilm,.map 3 3,true⟩:=by kernel_rfl
@[simp]def qAQ:Dof prog 117=some ⟨1,24,[.sl 0 [] .nil],.sl 0 [] .nil,.sl 64,true⟩:=by kernel_rfl
@[simp]def qAd:Dof prog 123=some ⟨1,24,[.sl 0 [] .nil],.sl 0 [] .nil,.sl 188,true⟩:=by kernel_rfl
@[simp]def qxG:Dof prog 127=some ⟨1,8,[.nilm],.nilm,.map 129 3,true⟩:=by kernel_rfl
@[simp]def qAP:Dof prog 129=some ⟨2,16,[.int .i64 0,.int .i64 0],.agg [.int .i64 0,.int .i64 0],.st [(0,3),(1,3)],true⟩:=by kernel_rfl
@[simp]def qAO:Dof prog 150=some ⟨4,32,[.int .i64 0,.int .i64 0,.int .i64 0,.bool false],.agg [.int .i64 0,.int .i64 0,.int .i64 0,.bool false],.st [(0,3),(1,3),(2,3),(3,4)],true⟩:=by kernel_rfl
@[simp]def qAN:Dof prog 157=some ⟨2,16,[.int .i64 0,.int .i64 0],.agg [.int .i64 0,.int .i64 0],.arr 2 3,true⟩:=by kernel_rfl
@[simp]def qAM:Dof prog 159=some ⟨3,24,[.int .i64 0,.int .i64 0,.int .i64 0],.agg [.int .i64 0,.int .i64 0,.int .i64 0],.st [(0,3),(1,3),(2,3)],true⟩:=by kernel_rfl
@[simp]def qAL:Dof prog 160=some ⟨1,8,[.nilf],.nilf,.fn,true⟩:=by kernel_rfl
@[simp]def qAK:Dof prog 161=some ⟨1,8,[.nilf],.nilf,.fn,true⟩:=by kernel_rfl
@[simp]def qAJ:Dof prog 166=some ⟨1,8,[.nilf],.nilf,.fn,true⟩:=by kernel_rfl
@[simp]def qAI:Dof prog 168=some ⟨1,8,[.nilp],.nilp,.ptr 178,true⟩:=by kernel_rfl
@[simp]def qAH:Dof prog 174=some ⟨16,128,[.int .i64 0,.int .i64 0,.int .i64 0,.int .i64 0,.int .i64 0,.int .i64 0,.int .i64 0,.int .i64 0,.int .i64 0,.int .i64 0,.int .i64 0,.int .i64 0,.int .i64 0,.int .i64 0,.int .i64 0,.int .i64 0],.agg [.int .i64 0,.int .i64 0,.int .i64 0,.int .i64 0,.int .i64 0,.int .i64 0,.int .i64 0,.int .i64 0,.int .i64 0,.int .i64 0,.int .i64 0,.int .i64 0,.int .i64 0,.int .i64 0,.int .i64 0,.int .i64 0],.arr 16 3,true⟩:=by kernel_rfl
@[simp]def qAG:Dof prog 176=some ⟨1,8,[.nilm],.nilm,.map 9 3,true⟩:=by kernel_rfl
@[simp]def qAF:Dof prog 178=some ⟨8,176,[.sl 0 [] .nil,.sl 0 [] .nil,.sl 0 [] .nil,.sl 0 [] .nil,.sl 0 [] .nil,.sl 0 [] .nil,.sl 0 [] .nil,.nilm],.agg [.sl 0 [] .nil,.sl 0 [] .nil,.sl 0 [] .nil,.sl 0 [] .nil,.sl 0 [] .nil,.sl 0 [] .nil,.sl 0 [] .nil,.nilm],.st [(0,70),(1,27),(6,28),(7,176)],true⟩:=by kernel_rfl
@[simp]def qAE:Dof prog 181=some ⟨3,24,[.int .i64 0,.int .i64 0,.int .i64 0],.agg [.int .i64 0,.int .i64 0,.int .i64 0],.st [(0,3),(1,3),(2,3)],true⟩:=by kernel_rfl
@[simp]def qAD:Dof prog 182=some ⟨1,8,[.nilf],.nilf,.fn,true⟩:=by kernel_rfl
@[simp]def qAC:Dof prog 184=some ⟨1,24,[.sl 0 [] .nil],.agg [.sl 0 [] .nil],.st [(0,123)],true⟩:=by kernel_rfl
@[simp]def qAc:Dof prog 188=some ⟨2,24,[.str [],.int .i64 0],.agg [.str [],.int .i64 0],.st [(0,9),(1,3)],true⟩:=by kernel_rfl
@[simp]def qAB:Dof prog 192=some ⟨1,8,[.int .u64 0],.int .u64 0,.int .u64,true⟩:=by kernel_rfl
@[simp]def qzQ:Dof prog 205=some ⟨1,8,[.nilm],.nilm,.map 159 4,true⟩:=by kernel_rfl
@[simp]def qAA:Dof prog 207=some ⟨1,24,[.sl 0 [] .nil],.sl 0 [] .nil,.sl 4,true⟩:=by kernel_rfl
@[simp]def qAz:Dof prog 212=some ⟨1,24,[.sl 0 [] .nil],.sl 0 [] .nil,.sl 166,true⟩:=by kernel_rfl
@[simp]def qAy:Dof prog 218=some ⟨1,24,[.sl 0 [] .nil],.sl 0 [] .nil,.sl 9,true⟩:=by kernel_rfl
@[simp]def qAx:Dof prog 232=some ⟨1,24,[.sl 0 [] .nil],.sl 0 [] .nil,.sl 174,true⟩:=by kernel_rfl
@[simp]def qAw:Dof prog 242=some ⟨1,8,[.nilp],.nilp,.ptr 305,true⟩:=by kernel_rfl
@[simp]def qxF:Dof prog 244=some ⟨1,8,[.nilm],.nilm,.map 181 3,true⟩:=by kernel_rfl
@[simp]def qAv:Dof prog 246=some ⟨3,24,[.nilp,.nilf,.nilm],.agg [.nilp,.nilf,.nilm],.st [(0,242),(1,182),(2,244)],true⟩:=by kernel_rfl
@[simp]def qAu:Dof prog 261=some ⟨5,72,[.int .i64 0,.int .i64 0,.int .i64 0,.sl 0 [] .nil,.sl 0 [] .nil],.agg [.int .i64 0,.int .i64 0,.int .i64 0,.sl 0 [] .nil,.sl 0 [] .nil],.st [(0,3),(1,3),(2,34),(3,218),(4,218)],true⟩:=by kernel_rfl
@[simp]def qAt:Dof prog 280=some ⟨9,184,[.sl 0 [] .nil,.sl 0 [] .nil,.sl 0 [] .nil,.sl 0 [] .nil,.sl 0 [] .nil,.sl 0 [] .nil,.sl 0 [] .nil,.bool false,.int .i64 0],.agg [.sl 0 [] .nil,.sl 0 [] .nil,.sl 0 [] .nil,.sl 0 [] .nil,.sl 0 [] .nil,.sl 0 [] .nil,.sl 0 [] .nil,.bool false,.int .i64 0],.st [(0,27),(5,23),(6,28),(7,4),(8,3)],true⟩:=by kernel_rfl
@[simp]def qzP:Dof prog 285=some ⟨1,24,[.sl 0 [] .nil],.sl 0 [] .nil,.sl 321,true⟩:=by kernel_rfl
@[simp]def qAs:Dof prog 290=some ⟨1,24,[.sl 0 [] .nil],.sl 0 [] .nil,.sl 23,true⟩:=by kernel_rfl
@[simp]def qxE:Dof prog 303=some ⟨1,8,[.nilm],.nilm,.map 159 3,true⟩:=by kernel_rfl
@[simp]def qAr:Dof prog 305=some ⟨3,40,[.sl 0 [] .nil,.nilm,.bool false],.agg [.sl 0 [] .nil,.nilm,.bool false],.st [(0,68),(1,303),(2,4)],true⟩:=by kernel_rfl
@[simp]def qAq:Dof prog 307=some ⟨1,24,[.sl 0 [] .nil],.sl 0 [] .nil,.sl 5,true⟩:=by kernel_rfl
@[simp]def qAp:Dof prog 308=some ⟨1,8,[.nilm],.nilm,.map 9 4,true⟩:=by kernel_rfl
@[simp]def qzO:Dof prog 321=some ⟨2,16,[.int .i64 0,.int .i64 0],.agg [.int .i64 0,.int .i64 0],.st [(0,3),(1,3)],true⟩:=by kernel_rfl
@[simp]def qAo:Dof prog 327=some ⟨1,2,[.int .u16 0],.int .u16 0,.int .u16,true⟩:=by kernel_rfl
@[simp]def qAn:Dof prog 351=some ⟨24,24,[.int .u8 0,.int .u8 0,.int .u8 0,.int .u8 0,.int .u8 0,.int .u8 0,.int .u8 0,.int .u8 0,.int .u8 0,.int .u8 0,.int .u8 0,.int .u8 0,.int .u8 0,.int .u8 0,.int .u8 0,.int .u8 0,.int .u8 0,.int .u8 0,.int .u8 0,.int .u8 0,.int .u8 0,.int .u8 0,.int .u8 0,.int .u8 0],.agg [.int .u8 0,.int .u8 0,.int .u8 0,.int .u8 0,.int .u8 0,.int .u8 0,.int .u8 0,.int .u8 0,.int .u8 0,.int .u8 0,.int .u8 0,.int .u8 0,.int .u8 0,.int .u8 0,.int .u8 0,.int .u8 0,.int .u8 0,.int .u8 0,.int .u8 0,.int .u8 0,.int .u8 0,.int .u8 0,.int .u8 0,.int .u8 0],.arr 24 5,true⟩:=by kernel_rfl
abbrev Str:=List UInt8
structure Var where
 name:Str
 width:Int
 mode:Int
 value:Int
structure Weight where
 lo:Int
 hi:Int
 weight:Int
 each:Bool
structure Dist where
 var:Int
 weights:List Weight
inductive Ex where
 |mk (op n:Int) (name:Str) (args:List Ex)
structure Problem where
 vars:List Var
 hard:List Ex
 soft:List Ex
 dists:List Dist
 groups:List (List Int)
structure Signal where
 name:Str
 value:Int
def Ex.op:Ex->Int|.mk o _ _ _=>o
def Ex.n:Ex->Int|.mk _ n _ _=>n
def Ex.name:Ex->Str|.mk _ _ s _=>s
def Ex.args:Ex->List Ex|.mk _ _ _ a=>a
@[simp]def Ex.op_mk{o n s a}:(Ex.mk o n s a).op=o:=rfl
def qFi:=@Ex.op_mk
@[simp]def Ex.n_mk{o n s a}:(Ex.mk o n s a).n=n:=rfl
@[simp]def Ex.name_mk{o n s a}:(Ex.mk o n s a).name=s:=rfl
def qFj:=@Ex.name_mk
@[simp]def Ex.args_mk{o n s a}:(Ex.mk o n s a).args=a:=rfl
def qFk:=@Ex.args_mk
@[simp]def qM(v:Var):List AV:=[.str v.name,.int .i64 v.width,.int .i64 v.mode,.int .i64 v.value]
@[simp]def qz(w:Weight):List AV:=[.int .i64 w.lo,.int .i64 w.hi,.int .i64 w.weight,.bool w.each]
@[simp]def zs(d:Dist):List AV:=[.int .i64 d.var,.sl 4 (d.weights.map qz) .none]
@[simp]def qh(n:Int):List AV:=[.int .i64 n]
@[simp]def jm(s:Str):List AV:=[.str s]
@[simp]def qK(s:Signal):List AV:=[.str s.name,.int .i64 s.value]
mutual
def qt:Ex->List AV
 |.mk o n s a=>[.int .i64 o,.int .i64 n,.str s,.sl 4 (qih a) .none]
def qih:List Ex->List (List AV)
 |[]=>[]
 |a::r=>qt a::qih r
end
@[simp]def qoz:∀l,qih l=l.map qt
 |[]=>rfl
 |a::r=>by simp[qih,qoz r]
def qc(e):qt e=[.int .i64 e.op,.int .i64 e.n,.str e.name,.sl 4 (e.args.map qt) .none]:=by cases e;simp[qt]
@[simp]def qD(l:List Int):List AV:=[.sl 1 (l.map qh) .none]
@[simp]def qA(p:Problem):List AV:=[.sl 4 (p.vars.map qM) .none,.sl 4 (p.hard.map qt) .none,.sl 4 (p.soft.map qt) .none,.sl 2 (p.dists.map zs) .none,.sl 1 (p.groups.map qD) .none]
@[simp]def qyl(l:List Var):qX (l.map qM)=true:=zn (fun x=>by simp) l
@[simp]def qwM(l:List Weight):qX (l.map qz)=true:=zn (fun x=>by simp) l
@[simp]def qzm(l:List Dist):qX (l.map zs)=true:=zn (fun x=>by simp) l
@[simp]def qzY(l:List Int):qX (l.map qh)=true:=zn (fun x=>by simp) l
@[simp]def qzX(l:List Str):qX (l.map jm)=true:=zn (fun x=>by simp) l
@[simp]def qwN(l:List Signal):qX (l.map qK)=true:=zn (fun x=>by simp) l
@[simp]def qzl(l:List (List Int)):qX (l.map qD)=true:=zn (fun x=>by simp) l
mutual
def qwO:∀e,qw (qt e)=true
 | .mk o n s a=>by
  have:=quT a;simp[qt,this];simpa using this
def quT:∀l,qX (qih l)=true
 |[]=>rfl
 |a::r=>by simp only[qih,qX,qwO a,quT r,qFb]
end
@[simp]def nrE(e):qw (qt e)=true:=qwO e
@[simp]def quU(l:List Ex):qX (l.map qt)=true:=zn (fun x=>nrE x) l
def qg:Tryz.prog.follows .mixedOrders=true:=by kernel_rfl
abbrev Fits{α:Type}(l:List α):Prop:=l.length<9223372036854775808
def zq{α:Type}(p:α->Bool):List α->Int->Int
 |[],_=>-1
 |v::r,i=>if p v then i else zq p r (i+1)
def qaW{α p}:∀{l:List α}{i:Int},0<=i->(0<=zq p l i↔l.any p=true)
 |[],i,_=>by simp[zq]
 | v::r,i,h=>by
  simp only[zq,qC1];split
  . rename_i hp;simp[hp,h]
  rename_i hp;simp[hp,qaW (l:=r) (i:=i+1) (by omega)]
@[simp]def qk5{α:Type}(p:α->Bool)(l:List α):decide (0<=zq p l 0)=l.any p:=by
 rw[qBP,decide_eq_true_iff];exact qaW (by omega)
def qdI:List Str:=[[99,108,97,115,115],[101,120,116,101,110,100,115],[114,97,110,100],[114,97,110,100,99],[115,116,97,116,101],[99,111,110,115,116,114,97,105,110,116],[115,111,102,116],[100,105,115,116],[105,102],[101,108,115,101],[101,97,99,104],[105,110],[115,111,108,118,101],[98,101,102,111,114,101],[105,110,115,105,100,101],[112,114,111,112,101,114,116,121],[115,101,113],[97,110,100],[111,114],[110,111,116],[115,101,116],[104,111,108,100],[112,108,97,105,110],[114,101,112,101,97,116]]
def wB(n:Int):Bool:=decide (97<=n)&&decide (n<=122)
def J9(n:Int):Bool:=decide (48<=n)&&decide (n<=57)
def kW(n:Int):Bool:=wB n||J9 n||(decide (65<=n)&&decide (n<=90))||decide (n=95)
def ZZ(c:UInt8):Bool:=kW c.toNat
def QY:Str->Bool
 |[]=>false
 |c::r=>wB c.toNat&&(c::r).all ZZ
def z8(s:Str):Bool:=QY s&&decide (s.length<=16)&&!qdI.contains s
def qet{s}(h:z8 s=true):∀c∈s,ZZ c=true:=by
 simp only[z8,qA1]at h;obtain⟨⟨h,_⟩,_⟩:=h
 cases s with
 |nil=>simp
 | cons c r=>
  simp only[QY,qA1]at h;exact fun x hx=>qA3.1 h.2 x hx
def wU{s}(h:z8 s=true):∀c∈s,c≠91:=by
 intro c hc e;have:=qet h c hc;subst e
 revert this
 decide
def qaH{s}(h:z8 s=true):s≠[]:=by
 rintro rfl;simp[z8,QY]at h
def zX(a:Str)(i:Nat):Str:=a++[91,UInt8.ofNat (48+i),93]
@[simp]def qqf{a i}:(zX a i).length=a.length+3:=by simp[zX]
def Wq{a b i j}(hi:i<8)(hj:j<8)(h:zX a i=zX b j):a=b/\i=j:=by
 obtain⟨h1,h2⟩:=List.append_inj' h rfl;refine⟨h1,?_⟩;simp at h2;have:=congrArg UInt8.toNat h2;simp at this;omega
def jA(s a:Str)(i:Nat):Prop:=i<8/\z8 a=true/\s=zX a i
def jA.unique{s a b i j}(h:jA s a i)(h':jA s b j):a=b/\i=j:=Wq h.1 h'.1 (h.2.2.symm.trans h'.2.2)
open Classical in
noncomputable def wb(s:Str):Option (Str×Nat):=if h:∃p:Str×Nat,jA s p.1 p.2 then some h.choose else none
def vF{s a i}(h:jA s a i):wb s=some (a,i):=by
 have hex:∃p:Str×Nat,jA s p.1 p.2:=⟨(a,i),h⟩;unfold wb;rw[dif_pos hex];obtain⟨h1,h2⟩:=hex.choose_spec.unique h;rw[<- h1,<- h2]
def kN{s a i}:wb s=some (a,i)↔jA s a i:=by
 constructor
 . intro h;unfold wb at h;split at h
   . rename_i hex;have:=hex.choose_spec
     rwa[Option.some.inj h]at this
   cases h
 exact vF
def y8{s}:wb s=none↔∀a i,¬jA s a i:=by
 constructor
 . intro h a i hi;rw[vF hi]at h;cases h
 intro h
 cases e:wb s with
 |none=>rfl
 |some p=>exact absurd (kN.1 (show wb s=some (p.1,p.2) from e)) (h _ _)
noncomputable def wg(s:Str):Bool:=z8 s||(wb s).isSome
def yf(s:Str):Str:=s.takeWhile (· != 91)
def Y9(s:Str):Str:=(s.dropWhile (· != 91)).tail
def qqi{s}(h:s.contains 91=true):s=yf s++91::Y9 s:=by
 unfold yf Y9
 induction s with
 |nil=>simp at h
 | cons c r ih=>
  by_cases hc:c=91
  . subst hc;simp
  have:r.contains 91=true:=by
   simp only[List.contains_cons,qC7,beq_iff_eq]at h;rcases h with h|h
   . exact absurd h.symm hc
   exact h
  have hb:(c != 91)=true:=by simpa using hc
  rw[qEk,List.dropWhile_cons,if_pos hb,if_pos hb,qBl,<- ih this]
def qh8{a:Str}{t:Str}(h:∀c∈a,c≠91):yf (a++91::t)=a:=by
 unfold yf
 induction a with
 |nil=>simp
 | cons c r ih=>
  have hb:(c != 91)=true:=by simpa using h c (by simp)
  rw[qBl,qEk,if_pos hb,ih fun x hx=>h x (by simp[hx])]
def qhm{a:Str}{t:Str}(h:∀c∈a,c≠91):Y9 (a++91::t)=t:=by
 unfold Y9
 induction a with
 |nil=>simp
 | cons c r ih=>
  have hb:(c != 91)=true:=by simpa using h c (by simp)
  rw[qBl,List.dropWhile_cons,if_pos hb,ih fun x hx=>h x (by simp[hx])]
def qoA{a i}:(zX a i).contains 91=true:=by simp[zX]
def jA.has{s a i}(h:jA s a i):s.contains 91=true/\yf s=a/\Y9 s=[UInt8.ofNat (48+i),93]:=by
 obtain⟨h1,h2,rfl⟩:=h;exact⟨qoA,qh8 (wU h2),qhm (wU h2)⟩
def KJ{s}(h:s.contains 91=false):wb s=none:=by
 rw[y8];intro a i hi;rw[hi.has.1]at h;cases h
def qY{α:Type}(f:α->Int):List α->Int
 |[]=>0
 |a::r=>if f a=0 then qY f r else f a
def yg{α f}:∀{l m:List α},qY f (l++m)=if qY f l=0 then qY f m else qY f l
 |[],m=>by simp[qY]
 | a::r,m=>by
  simp only[qBl,qY];split
  . exact yg
  rename_i h;simp
def zF{α f}:∀{l:List α},qY f l=0↔∀a∈l,f a=0
 |[]=>by simp[qY]
 | a::r=>by
  simp only[qY,qBt,forall_eq_or_imp];split
  . rename_i h;simp[h,zF]
  rename_i h;simp[h]
noncomputable def j4(v:Var):Int :=
 if wg v.name=false then 7
 else if v.width<1\/8<v.width\/v.mode<0\/2<v.mode\/v.value<0\/(2:Int)^v.width.toNat<=v.value\/(v.mode≠0/\v.value≠0) then 1
 else 0
def Qn(l:List Var)(name:Str):Bool:=l.any fun v=>v.name==name
def Qu(l:List Var)(i:Nat):Bool:=match l[i]? with
 |some v=>Qn (l.take i) v.name
 |none=>false
def qqg(l:List Var):Bool:=(List.range l.length).any (Qu l)
open Classical in
noncomputable def WN(l:List Var)(name:Str):Bool:=match wb name with
 |some (a,i+1)=>!Qn l (zX a i)
 |_=>false
def yE:List Var->Int
 |[]=>0
 |v::r=>(if v.mode≠0 then v.width else 0)+yE r
noncomputable def jg(l:List Var):Int :=
 if 16<l.length then 2
 else if qY j4 l≠0 then qY j4 l
 else if qqg l=true then 8
 else if l.any (fun v=>WN l v.name)=true then 10
 else if 20<yE l then 2
 else 0
mutual
def Ex.ind{p:Ex->Prop}(h:∀e,(∀a∈e.args,p a)->p e):∀e,p e
 |.mk o n s a=>h _ (by simpa using Ex.indL h a)
def Ex.indL{p:Ex->Prop}(h:∀e,(∀a∈e.args,p a)->p e):∀(l:List Ex),∀a∈l,p a
 |[],_,hm=>by cases hm
 | e::r,a,hm=>by
  rcases qBt.1 hm with hm|hm
  . rw[hm];exact Ex.ind h e
  exact Ex.indL h r a hm
end
def qFN:=@Ex.ind
mutual
def pre:Ex->List Ex
 |.mk o n s a=>.mk o n s a::wv a
def wv:List Ex->List Ex
 |[]=>[]
 |e::r=>pre e++wv r
end
def jC(e):pre e=e::wv e.args:=by cases e;simp[pre]
@[simp]def qww:wv []=[]:=by simp[wv]
@[simp]def kh{e r}:wv (e::r)=pre e++wv r:=by simp[wv]
def vo:∀{l m:List Ex},wv (l++m)=wv l++wv m
 |[],m=>by simp
 |e::r,m=>by simp[vo (l:=r),qBE]
mutual
def hgt:Ex->Nat
 |.mk _ _ _ a=>Jh a+1
def Jh:List Ex->Nat
 |[]=>0
 |e::r=>max (hgt e) (Jh r)
end
def wC(e):hgt e=Jh e.args+1:=by cases e;simp[hgt]
@[simp]def qoh:Jh []=0:=by simp[Jh]
@[simp]def K8{e r}:Jh (e::r)=max (hgt e) (Jh r):=by simp[Jh]
def qgq{l e}(h:e∈l):hgt e<=Jh l:=by
 induction l with
 |nil=>cases h
 | cons a r ih=>
  rcases qBt.1 h with rfl|h
  . simp;omega
  have:=ih h;simp;omega
def qkK{e a}(h:a∈e.args):hgt a<hgt e:=by
 have:=qgq h;rw[wC e];omega
def ZU{l x}:x∈wv l↔∃a∈l,x∈pre a:=by
 induction l with
 |nil=>simp
 |cons e r ih=>simp[ih]
def zE(op:Int):Int :=
 if op=1\/op=2\/op=24 then 0
 else if op=3\/op=4\/op=5\/op=6\/op=25 then 1
 else if op=22 then 3
 else if op=23 then -1
 else if op<1\/25<op then -1
 else 2
def qm(e:Ex):Bool :=
 if e.op=23 then decide (e.args.length%2=1/\3<=e.args.length/\e.args.length<=33)
 else decide ((e.args.length:Int)=zE e.op)
noncomputable def qv(e:Ex):Int :=
 if e.op<1\/25<e.op then 1
 else if(e.op=1/\(e.n<0\/65535<e.n))\/(e.op≠1/\e.n≠0) then 1
 else if(¬(e.op=2\/e.op=3\/e.op=24)/\e.name≠[])\/qm e=false then 1
 else if(e.op=2/\wg e.name=false)\/((e.op=3\/e.op=24)/\z8 e.name=false) then 7
 else 0
def WU(e:Ex):Int:=IntKind.i64.wrap (pre e).length
noncomputable def zp(e:Ex):Int :=
 if qY qv (pre e)=0/\(24<hgt e\/400<WU e) then 2 else qY qv (pre e)
def WJ(ops:List Int)(out:List Str)(e:Ex):List Str:=if ops.contains e.op&&!out.contains e.name then out++[e.name] else out
def zQ(ops:List Int)(e:Ex):List Str:=(pre e).foldl (WJ ops) []
def qpf{ops out e s}:s∈WJ ops out e↔s∈out\/(ops.contains e.op=true/\s=e.name):=by
 unfold WJ;by_cases h1:e.op∈ops
 . by_cases h2:e.name∈out
   . simp only[qE7.2 h1,qE7.2 h2,qFc,qDG,qBz,if_false,true_and];constructor
     . exact .inl
     rintro(h|rfl)
     . exact h
     exact h2
   . simp[*]
 simp[h1]
def qc4{ops s}:∀{l:List Ex}{out:List Str},s∈l.foldl (WJ ops) out↔s∈out\/∃e∈l,ops.contains e.op=true/\s=e.name
 |[],out=>by simp
 | e::r,out=>by
  rw[qBw,qc4,qpf];simp only[qBt,exists_eq_or_imp];constructor
  . rintro((h|h)|h)
    . exact .inl h
    . exact .inr (.inl h)
    . exact .inr (.inr h)
  rintro(h|h|h)
  . exact .inl (.inl h)
  . exact .inl (.inr h)
  exact .inr h
def yd{ops e s}:s∈zQ ops e↔∃x∈pre e,ops.contains x.op=true/\s=x.name:=by
 unfold zQ;rw[qc4];simp
def Ye(e:Ex):Bool:=(pre e).any fun x=>decide (x.op=3\/x.op=24)
def Zm(l:List Var)(e:Ex):Bool:=(pre e).any fun x=>decide (x.op=2)&&!Qn l x.name
def QW{e}:decide (0<(zQ [3,24] e).length)=Ye e:=by
 rw[qBP,decide_eq_true_iff,List.length_pos_iff_exists_mem,Ye,qBr];constructor
 . rintro⟨s,hs⟩;obtain⟨x,h1,h2,_⟩:=yd.1 hs;exact⟨x,h1,by simpa using h2⟩
 rintro⟨x,h1,h2⟩;exact⟨x.name,yd.2 ⟨x,h1,by simpa using h2,rfl⟩⟩
def QN{l e}:(zQ [2] e).any (fun s=>!Qn l s)=Zm l e:=by
 rw[qBP,Zm,qBr,qBr];constructor
 . rintro⟨s,hs,h⟩;obtain⟨x,h1,h2,rfl⟩:=yd.1 hs;exact⟨x,h1,by simp only[qA1,decide_eq_true_eq];exact⟨by simpa using h2,h⟩⟩
 rintro⟨x,h1,h2⟩;simp only[qA1,decide_eq_true_eq]at h2;exact⟨x.name,yd.2 ⟨x,h1,by simpa using h2.1,rfl⟩,h2.2⟩
noncomputable def zB(l:List Var)(e:Ex):Int :=
 if zp e≠0 then zp e else if Ye e=true then 9 else if Zm l e=true then 7 else 0
def yO(l:List Var)(i:Int):Bool:=decide (0<=i)&&(l[i.toNat]?).any fun v=>v.mode != 0
def zY(w:Weight):Bool:=decide (w.lo<0)||decide (w.hi<w.lo)||decide (65535<w.hi)||decide (w.weight<0)||decide (1000<w.weight)
def jT(l:List Var)(d:List Dist)(i:Nat):Int:=match d[i]? with
 |some x=>if yO l x.var=false then 1 else if(d.take i).any (fun y=>y.var==x.var)=true then 8 else if 16<x.weights.length then 2 else if x.weights.any zY=true then 1 else 0
 |none=>0
def yB(l:List Var)(d:List Dist):Int:=qY (jT l d) (List.range d.length)
def yh(l:List Var)(g:List (List Int)):Prop:=(∀x∈g,x≠[])/\(∀i∈g.flatten,yO l i=true)/\g.flatten.Nodup/\∀i:Nat,i<l.length->yO l i=true->(i:Int)∈g.flatten
open Classical in
noncomputable def zK(l:List Var)(g:List (List Int)):Int:=if yh l g then 0 else 1
noncomputable def qo(p:Problem):Int :=
 if jg p.vars≠0 then jg p.vars
 else if qY (zB p.vars) (p.hard++p.soft)≠0 then qY (zB p.vars) (p.hard++p.soft)
 else if yB p.vars p.dists≠0 then yB p.vars p.dists
 else zK p.vars p.groups
def zP(l:List Var)(i:Nat):Int:=match l[i]? with
 |some v=>v.width
 |none=>0
end Go.Proofs.YtimecmegnocamaaGreatDoor
namespace Go.Abs
open Go Go.RowKit
def qmb(P:Program)(rs:List ResultVar)(Q:AV->St->Prop)(env:Env)(U:St):Prop :=
 match qfF (Dof P) rs env U with
 |some l=>Q (Vf l) U
 |none=>False
def qdC(P:Program)(rs:List ResultVar)(Q:AV->St->Prop):Exit->Env->St->Prop
 |.ret,env,U=>qmb P rs Q env U
 |.normal,env,U=>qmb P rs Q env U
 |_,_,_=>False
attribute [simp] qmb qdC
section
variable {P:Program}{G:Glo}{U:St}{f:FuncId}{args:List AV}{Q:AV->St->Prop}
def qj.vcO {fn c} (o) (hm : P.follows .mixedOrders = true) (hf : P.funcs[f]? = some fn) (hb : fn.body = some c) (hk : (jX fn.ntmps o c && decide (args.length ≤ fn.ntmps) && fn.name != "runtime.NumGoroutine") = true)
 (h:vcC P G o c (JD args) U (qdC P fn.results.toList Q)):qj P G f args U Q:=by
 simp at hk;refine qj.of_body hf hb hk.2 hk.1.2 (AWp.mono (yF hm c hk.1.1 h) fun e env U hq=>?_);have key:qmb P fn.results.toList Q env U->∃l,qfF (Dof P) fn.results.toList env U=some l/\Q (Vf l) U:=fun h=>by
  unfold qmb at h;split at h
  . rename_i l hl;exact⟨l,hl,h⟩
  exact h.elim
 cases e with
 |ret=>exact⟨.inl rfl,key hq⟩
 |normal=>exact⟨.inr rfl,key hq⟩
 |_=>exact hq.elim
def qj.vc {fn c} (hm : P.follows .mixedOrders = true) (hf : P.funcs[f]? = some fn) (hb : fn.body = some c) (hk : (jX fn.ntmps o0 c && decide (args.length ≤ fn.ntmps) && fn.name != "runtime.NumGoroutine") = true)
 (h:vcC P G o0 c (JD args) U (qdC P fn.results.toList Q)):qj P G f args U Q:=qj.vcO o0 hm hf hb hk h
end
end Go.Abs
namespace Go.Proofs.YtimecmegnocamaaGreatDoor
open Go Go.Abs Tryz Go.RowKit
def ZI{S:Type}(stp:S->Ex->S×Bool):S->List Ex->S×Bool
 |s,[]=>(s,true)
 |s,e::r=>if(stp s e).2=true then ZI stp (stp s e).1 r else((stp s e).1,false)
def Kl{S}{stp:S->Ex->S×Bool}:∀{s:S}{l m:List Ex},ZI stp s (l++m)=if(ZI stp s l).2=true then ZI stp (ZI stp s l).1 m else ZI stp s l
 |s,[],m=>by simp[ZI]
 | s,e::r,m=>by
  simp only[qBl,ZI];split
  . exact Kl
  simp
def Kk{S}{stp:S->Ex->S×Bool}(h:∀s e,(stp s e).2=true):∀(s:S) (l),ZI stp s l=(l.foldl (fun s e=>(stp s e).1) s,true)
 |s,[]=>rfl
 |s,e::r=>by simp only[ZI,h,if_true,qBw];exact Kk h _ r
def Vq{f}:∀(s) (l),(ZI (fun _ e=>(f e,f e==0)) s l).1=if l=[] then s else qY f l
 |s,[]=>rfl
 | s,e::r=>by
  simp only[ZI,qY,beq_iff_eq,reduceCtorEq,if_false];by_cases h:f e=0
  . rw[if_pos h,if_pos h,Vq];split
    . rename_i hr;subst hr;simp[qY,h]
    rfl
  rw[if_neg h,if_neg h]
def qfd{m n}:IntKind.i64.wrap (IntKind.i64.wrap m+n)=IntKind.i64.wrap (m+n):=by
 simp[IntKind.wrap,IntKind.bits,IntKind.signed];omega
def VS{n}:∀(l:List Ex),l.foldl (fun s _=>IntKind.i64.wrap (s+1)) (IntKind.i64.wrap n)=IntKind.i64.wrap (n+l.length)
 |[]=>by simp
 | e::r=>by
  rw[qBw,qfd,VS r];congr 1;simp;omega
def wD{l g}(h:[]∈g):¬yh l g:=fun⟨h1,_⟩=>h1 _ h rfl
def VR{l g i}(h:i∈g.flatten)(hr:yO l i=false):¬yh l g:=fun⟨_,h2,_⟩=>by
 have:=h2 i h;rw[hr]at this;cases this
def qh9{l g i done rest}(h:g.flatten=done++i::rest)(hi:i∈done):¬yh l g:=fun⟨_,_,h3,_⟩=>by
 rw[h,qCu]at h3;exact h3.2.2 i hi i (by simp) rfl
def qeB{l:List Var}{g:List (List Int)}{i:Nat}(hi:i<l.length)(hr:yO l i=true)(h:(i:Int)∉g.flatten):¬yh l g:=fun⟨_,_,_,h4⟩=>h (h4 i hi hr)
def Jp{l i}(h:yO l i=true):0<=i/\i<l.length:=by
 simp only[yO,qA1,decide_eq_true_eq]at h;obtain⟨h0,h1⟩:=h;refine⟨h0,?_⟩;apply Classical.byContradiction;intro hn;rw[qBs (by omega)]at h1;simp at h1
def qcW{l g}(h1:∀x∈g,x≠[])(h2:∀i∈g.flatten,0<=i/\i<(l.length:Int)):
 yh l g↔∀i:Nat,i<l.length->g.flatten.count (i:Int)=if yO l i=true then 1 else 0:=by
 constructor
 . rintro⟨_,k2,k3,k4⟩ i hi;split
   . rename_i hr;have:=List.nodup_iff_count.1 k3 (i:Int);have:=qEs.2 (k4 i hi hr);omega
   rename_i hr;apply List.count_eq_zero.2;intro hm;exact hr (k2 _ hm)
 intro h;have cnt:∀i∈g.flatten,g.flatten.count i=1/\yO l i=true:=by
  intro i hi;obtain⟨a,b⟩:=h2 i hi;have hc:=h i.toNat (by omega);rw[show((i.toNat:Nat):Int)=i by omega]at hc;have:=qEs.2 hi;split at hc
  . rename_i hr;exact⟨hc,hr⟩
  omega
 refine⟨h1,fun i hi=>(cnt i hi).2,?_,?_⟩
 . rw[List.nodup_iff_count];intro i;by_cases hi:i∈g.flatten
   . rw[(cnt i hi).1];exact qA5 _
   rw[List.count_eq_zero.2 hi];omega
 intro i hi hr;have hc:=h i hi;rw[if_pos hr]at hc;exact qEs.1 (by omega)
mutual
def yU:Ex->Int->Int
 |.mk _ _ _ a,d=>wz a d 1
def wz:List Ex->Int->Int->Int
 |[],_,n=>n
 |x::r,d,n=>if n<100/\d<30 then wz r d (IntKind.i64.wrap (n+yU x (IntKind.i64.wrap (d+1)))) else n
end
def qcw(e d):yU e d=wz e.args d 1:=by cases e;simp[yU]
@[simp]def qhQ{d n}:wz [] d n=n:=by simp[wz]
@[simp]def KH{x r d n}:wz (x::r) d n=if n<100/\d<30 then wz r d (IntKind.i64.wrap (n+yU x (IntKind.i64.wrap (d+1)))) else n:=by simp[wz]
mutual
def jq:Ex->Nat->Bool
 |.mk o n s a,d=>if 25<d\/(d=0/\60<yU (.mk o n s a) 0) then false else Jb a (d+1)
def Jb:List Ex->Nat->Bool
 |[],_=>true
 |x::r,d=>jq x d&&Jb r d
end
def WA(e d):jq e d=if 25<d\/(d=0/\60<yU e 0) then false else Jb e.args (d+1):=by cases e;simp[jq]
@[simp]def qtR{d}:Jb [] d=true:=by simp[Jb]
@[simp]def qs5{x r d}:Jb (x::r) d=(jq x d&&Jb r d):=by simp[Jb]
def JN{l d}:Jb l d=l.all fun x=>jq x d:=by
 induction l with
 |nil=>simp
 |cons x r ih=>simp[ih]
def qdq:∀(e) (d),jq e d=true->hgt e+d<=26:=by
 refine qFN fun e ih d h=>?_
 rw[WA]at h;split at h
 . cases h
 rename_i hd;rw[wC];have:∀(l:List Ex),(∀x∈l,jq x (d+1)=true)->(∀x∈l,x∈e.args)->Jh l+(d+1)<=26:=by
  intro l
  induction l with
  |nil=>intro _ _;simp;omega
  | cons x r ihl=>
   intro h1 h2;have a1:=ih x (h2 x (by simp)) (d+1) (h1 x (by simp));have a2:=ihl (fun y hy=>h1 y (by simp[hy])) (fun y hy=>h2 y (by simp[hy]));simp;omega
 rw[JN,qA3]at h;have:=this e.args h (fun _ h=>h);omega
def jU(p:Problem):Bool :=
 !(decide (20<p.vars.length)||decide (20<p.hard.length)||decide (20<p.soft.length)||decide (20<p.dists.length)||decide (20<p.groups.length)) &&
 p.hard.all (jq · 0)&&p.soft.all (jq · 0)&&p.dists.all (fun d=>decide (d.weights.length<=20))&&p.groups.all (fun g=>decide (g.length<=20))
def GG(g:Nat):AV:=match g with
 |0=>.rptr [.sl 1 (qdI.map jm) .none]
 |_=>.any
section
variable (G:Nat->AV)
def qvk(l:List Str)(s:Str)(hl:Fits l):Pure prog G 379 [.sl 1 (l.map jm) .none,.str s] (.bool (l.any (· == s))):=by
 refine qFP qg func379 rfl (by kernel_rfl) ?_;simp;refine qFM (fun n env U=>∃i,i<=l.length/\n=l.length-i/\env 0=.sl 1 (l.map jm) .none/\env 1=.str s/\env 5=.int .i64 i/\U=⟨[],[]⟩/\l.any (· == s)=(l.drop i).any (· == s)) l.length ⟨0,by simp⟩ ?_;rintro n env U ⟨i,hi,rfl,h0,h1,h5,rfl,hf⟩
 cases hv:l[i]? with
 | some v=>
  obtain⟨hc,hv'⟩:=qAU.1 hv;rw[zf hv]at hf;by_cases he:v=s
  . subst he;simp[h0,h1,h5,hc,hv',hf]
  have he':(v==s)=false:=by simpa using he
  simp[h0,h1,h5,hc,hv',he];refine⟨_,by omega,i+1,by omega,rfl,wr (by omega) (by omega),?_⟩;rw[hf,qC1,he',qDz]
 | none=>
  have hc:¬i<l.length:=by simp at hv;omega
  have hd:l.drop i=[]:=by simp;omega
  have hz:∀x∈l,¬x=s:=by
   intro x hx e;have:l.any (· == s)=true:=qBr.2 ⟨x,hx,by simp[e]⟩;rw[hf,hd]at this;cases this
  simp[h0,h5,hc];exact hz
def qgr(l:List Str)(s:Str)(hl:Fits l):Pure prog G 346 [.sl 1 (l.map jm) .none,.str s] (.bool (l.any (· == s))):=by
 refine qFP qg func346 rfl (by kernel_rfl) ?_;simp;refine qFM (fun n env U=>∃i,i<=l.length/\n=l.length-i/\env 0=.sl 1 (l.map jm) .none/\env 1=.str s/\env 5=.int .i64 i/\U=⟨[],[]⟩/\l.any (· == s)=(l.drop i).any (· == s)) l.length ⟨0,by simp⟩ ?_;rintro n env U ⟨i,hi,rfl,h0,h1,h5,rfl,hf⟩
 cases hv:l[i]? with
 | some v=>
  obtain⟨hc,hv'⟩:=qAU.1 hv;rw[zf hv]at hf;by_cases he:v=s
  . subst he;simp[h0,h1,h5,hc,hv',hf]
  have he':(v==s)=false:=by simpa using he
  simp[h0,h1,h5,hc,hv',he];refine⟨_,by omega,i+1,by omega,rfl,wr (by omega) (by omega),?_⟩;rw[hf,qC1,he',qDz]
 | none=>
  have hc:¬i<l.length:=by simp at hv;omega
  have hd:l.drop i=[]:=by simp;omega
  have hz:∀x∈l,¬x=s:=by
   intro x hx e;have:l.any (· == s)=true:=qBr.2 ⟨x,hx,by simp[e]⟩;rw[hf,hd]at this;cases this
  simp[h0,h5,hc];exact hz
def qoe(l:List Str)(s:Str)(hl:Fits l):Pure prog G 354 [.sl 1 (l.map jm) .none,.str s] (.int .i64 (zq (fun v=>s==v) l 0)):=by
 refine qFP qg func354 rfl (by kernel_rfl) ?_;simp;refine qFM (fun n env U=>∃i,i<=l.length/\n=l.length-i/\env 0=.sl 1 (l.map jm) .none/\env 1=.str s/\env 7=.int .i64 l.length/\env 8=.int .i64 i/\U=⟨[],[]⟩/\zq (fun v=>s==v) l 0=zq (fun v=>s==v) (l.drop i) i) l.length ⟨0,by simp⟩ ?_;rintro n env U ⟨i,hi,rfl,h0,h1,h7,h8,rfl,hf⟩
 cases hv:l[i]? with
 | some v=>
  obtain⟨hc,hv'⟩:=qAU.1 hv;rw[zf hv]at hf;by_cases he:s=v
  . subst he;simp[h0,h1,h7,h8,hc,hv',hf,zq]
  have he':(s==v)=false:=by simpa using he
  simp[h0,h1,h7,h8,hc,hv',he];refine⟨_,by omega,i+1,by omega,rfl,wr (by omega) (by omega),?_⟩;rw[hf,zq,he'];simp
 | none=>
  have hc:¬i<l.length:=by simp at hv;omega
  have hd:l.drop i=[]:=by simp;omega
  simp[h0,h7,h8,hc,hf,hd,zq]
def Zq(l:List Str)(s:Str)(hl:Fits l):Pure prog G 313 [.sl 1 (l.map jm) .none,.str s] (.bool (l.any (fun v=>s==v))):=by
 refine qFP qg func313 rfl (by kernel_rfl) ?_;simp;refine qFz (qoe G l s hl) (by simp) ?_;simp
def qoc(l s)(hl:Fits l):Pure prog G 353 [.sl 1 (l.map qh) .none,.int .i64 s] (.int .i64 (zq (fun v=>s==v) l 0)):=by
 refine qFP qg func353 rfl (by kernel_rfl) ?_;simp;refine qFM (fun n env U=>∃i,i<=l.length/\n=l.length-i/\env 0=.sl 1 (l.map qh) .none/\env 1=.int .i64 s/\env 7=.int .i64 l.length/\env 8=.int .i64 i/\U=⟨[],[]⟩/\zq (fun v=>s==v) l 0=zq (fun v=>s==v) (l.drop i) i) l.length ⟨0,by simp⟩ ?_;rintro n env U ⟨i,hi,rfl,h0,h1,h7,h8,rfl,hf⟩
 cases hv:l[i]? with
 | some v=>
  obtain⟨hc,hv'⟩:=qAU.1 hv;rw[zf hv]at hf;by_cases he:s=v
  . subst he;simp[h0,h1,h7,h8,hc,hv',hf,zq]
  have he':(s==v)=false:=by simpa using he
  simp[h0,h1,h7,h8,hc,hv',he];refine⟨_,by omega,i+1,by omega,rfl,wr (by omega) (by omega),?_⟩;rw[hf,zq,he'];simp
 | none=>
  have hc:¬i<l.length:=by simp at hv;omega
  have hd:l.drop i=[]:=by simp;omega
  simp[h0,h7,h8,hc,hf,hd,zq]
def qeP(l s)(hl:Fits l):Pure prog G 312 [.sl 1 (l.map qh) .none,.int .i64 s] (.bool (l.any (fun v=>s==v))):=by
 refine qFP qg func312 rfl (by kernel_rfl) ?_;simp;refine qFz (qoc G l s hl) (by simp) ?_;simp
def qeH(l:List Var)(s:Str)(hl:Fits l):Pure prog G 147 [.sl 4 (l.map qM) .none,.str s] (.int .i64 (zq (fun v=>v.name==s) l 0)):=by
 refine qFP qg func147 rfl (by kernel_rfl) ?_;simp;refine qFM (fun n env U=>∃i,i<=l.length/\n=l.length-i/\env 0=.sl 4 (l.map qM) .none/\env 1=.str s/\env 5=.int .i64 i/\U=⟨[],[]⟩/\zq (fun v=>v.name==s) l 0=zq (fun v=>v.name==s) (l.drop i) i) l.length ⟨0,by simp⟩ ?_;rintro n env U ⟨i,hi,rfl,h0,h1,h5,rfl,hf⟩
 cases hv:l[i]? with
 | some v=>
  obtain⟨hc,hv'⟩:=qAU.1 hv;rw[zf hv]at hf;by_cases he:v.name=s
  . subst he;simp[h0,h1,h5,hc,hv',hf,zq]
  have he':(v.name==s)=false:=by simpa using he
  simp[h0,h1,h5,hc,hv',he];refine⟨_,by omega,i+1,by omega,rfl,wr (by omega) (by omega),?_⟩;rw[hf,zq,he'];simp
 | none=>
  have hc:¬i<l.length:=by simp at hv;omega
  have hd:l.drop i=[]:=by simp;omega
  simp[h0,h5,hc,hf,hd,zq]
end
def J5(G l p f first cap)(hl:Fits l)(h1:qw first=true)(h2:qw cap=true)
 (hp:∀v∈l,Pure prog G f (first++[.agg (qM v)]++cap) (.bool (p v))):Pure prog G 254 [.sl 4 (l.map qM) .none,.fn f first cap] (.int .i64 (zq p l 0)):=by
 refine qFP qg func254 rfl (by kernel_rfl) ?_;simp;refine qFM (fun n env U=>∃i,i<=l.length/\n=l.length-i/\env 0=.sl 4 (l.map qM) .none/\env 1=.fn f first cap/\env 7=.int .i64 l.length/\env 8=.int .i64 i/\U=⟨[],[]⟩/\zq p l 0=zq p (l.drop i) i) l.length ⟨0,by simp⟩ ?_;rintro n env U ⟨i,hi,rfl,h0,h1',h7,h8,rfl,hf⟩
 cases hv:l[i]? with
 | some v=>
  obtain⟨hc,hv'⟩:=qAU.1 hv;rw[zf hv]at hf;simp[h0,h1',h7,h8,hc,hv',hf];refine qFz (r:=.bool (p v)) (by simpa using hp v (qAV hv)) (by simp[yJ,h1,h2]) ?_;simp[h0,h1',h7,h8,zq];refine⟨fun e=>by simp[e],fun e=>⟨_,by omega,i+1,by omega,rfl,wr (by omega) (by omega),by simp[e]⟩⟩
 | none=>
  have hc:¬i<l.length:=by simp at hv;omega
  have hd:l.drop i=[]:=by simp;omega
  simp[h0,h7,h8,hc,hf,hd,zq]
def Qv(G l p f first cap)(hl:Fits l)(h1:qw first=true)(h2:qw cap=true)
 (hp:∀v∈l,Pure prog G f (first++[.agg (qM v)]++cap) (.bool (p v))):Pure prog G 172 [.sl 4 (l.map qM) .none,.fn f first cap] (.bool (l.any p)):=by
 refine qFP qg func172 rfl (by kernel_rfl) ?_;simp;refine qFz (J5 G l p f first cap hl h1 h2 hp) (by simp[h1,h2]) ?_;simp
def qaP(G l p f first cap)(hl:Fits l)(h1:qw first=true)(h2:qw cap=true)
 (hp:∀v∈l,Pure prog G f (first++[.agg (zs v)]++cap) (.bool (p v))):Pure prog G 259 [.sl 2 (l.map zs) .none,.fn f first cap] (.int .i64 (zq p l 0)):=by
 refine qFP qg func259 rfl (by kernel_rfl) ?_;simp;refine qFM (fun n env U=>∃i,i<=l.length/\n=l.length-i/\env 0=.sl 2 (l.map zs) .none/\env 1=.fn f first cap/\env 7=.int .i64 l.length/\env 8=.int .i64 i/\U=⟨[],[]⟩/\zq p l 0=zq p (l.drop i) i) l.length ⟨0,by simp⟩ ?_;rintro n env U ⟨i,hi,rfl,h0,h1',h7,h8,rfl,hf⟩
 cases hv:l[i]? with
 | some v=>
  obtain⟨hc,hv'⟩:=qAU.1 hv;rw[zf hv]at hf;simp[h0,h1',h7,h8,hc,hv',hf];refine qFz (r:=.bool (p v)) (by simpa using hp v (qAV hv)) (by simp[yJ,h1,h2]) ?_;simp[h0,h1',h7,h8,zq];refine⟨fun e=>by simp[e],fun e=>⟨_,by omega,i+1,by omega,rfl,wr (by omega) (by omega),by simp[e]⟩⟩
 | none=>
  have hc:¬i<l.length:=by simp at hv;omega
  have hd:l.drop i=[]:=by simp;omega
  simp[h0,h7,h8,hc,hf,hd,zq]
def Yp(G l p f first cap)(hl:Fits l)(h1:qw first=true)(h2:qw cap=true)
 (hp:∀v∈l,Pure prog G f (first++[.agg (zs v)]++cap) (.bool (p v))):Pure prog G 180 [.sl 2 (l.map zs) .none,.fn f first cap] (.bool (l.any p)):=by
 refine qFP qg func180 rfl (by kernel_rfl) ?_;simp;refine qFz (qaP G l p f first cap hl h1 h2 hp) (by simp[h1,h2]) ?_;simp
def qcT(G l p f first cap)(hl:Fits l)(h1:qw first=true)(h2:qw cap=true)
 (hp:∀v∈l,Pure prog G f (first++[.str v]++cap) (.bool (p v))):Pure prog G 258 [.sl 1 (l.map jm) .none,.fn f first cap] (.int .i64 (zq p l 0)):=by
 refine qFP qg func258 rfl (by kernel_rfl) ?_;simp;refine qFM (fun n env U=>∃i,i<=l.length/\n=l.length-i/\env 0=.sl 1 (l.map jm) .none/\env 1=.fn f first cap/\env 7=.int .i64 l.length/\env 8=.int .i64 i/\U=⟨[],[]⟩/\zq p l 0=zq p (l.drop i) i) l.length ⟨0,by simp⟩ ?_;rintro n env U ⟨i,hi,rfl,h0,h1',h7,h8,rfl,hf⟩
 cases hv:l[i]? with
 | some v=>
  obtain⟨hc,hv'⟩:=qAU.1 hv;rw[zf hv]at hf;simp[h0,h1',h7,h8,hc,hv',hf];refine qFz (r:=.bool (p v)) (by simpa using hp v (qAV hv)) (by simp[yJ,h1,h2]) ?_;simp[h0,h1',h7,h8,zq];refine⟨fun e=>by simp[e],fun e=>⟨_,by omega,i+1,by omega,rfl,wr (by omega) (by omega),by simp[e]⟩⟩
 | none=>
  have hc:¬i<l.length:=by simp at hv;omega
  have hd:l.drop i=[]:=by simp;omega
  simp[h0,h7,h8,hc,hf,hd,zq]
def Ww(G l p f first cap)(hl:Fits l)(h1:qw first=true)(h2:qw cap=true)
 (hp:∀v∈l,Pure prog G f (first++[.str v]++cap) (.bool (p v))):Pure prog G 177 [.sl 1 (l.map jm) .none,.fn f first cap] (.bool (l.any p)):=by
 refine qFP qg func177 rfl (by kernel_rfl) ?_;simp;refine qFz (qcT G l p f first cap hl h1 h2 hp) (by simp[h1,h2]) ?_;simp
def Qm(G l p f first cap)(hl:Fits l)(h1:qw first=true)(h2:qw cap=true)
 (hp:∀v∈l,Pure prog G f (first++[.agg (qz v)]++cap) (.bool (p v))):Pure prog G 247 [.sl 4 (l.map qz) .none,.fn f first cap] (.int .i64 (zq p l 0)):=by
 refine qFP qg func247 rfl (by kernel_rfl) ?_;simp;refine qFM (fun n env U=>∃i,i<=l.length/\n=l.length-i/\env 0=.sl 4 (l.map qz) .none/\env 1=.fn f first cap/\env 7=.int .i64 l.length/\env 8=.int .i64 i/\U=⟨[],[]⟩/\zq p l 0=zq p (l.drop i) i) l.length ⟨0,by simp⟩ ?_;rintro n env U ⟨i,hi,rfl,h0,h1',h7,h8,rfl,hf⟩
 cases hv:l[i]? with
 | some v=>
  obtain⟨hc,hv'⟩:=qAU.1 hv;rw[zf hv]at hf;simp[h0,h1',h7,h8,hc,hv',hf];refine qFz (r:=.bool (p v)) (by simpa using hp v (qAV hv)) (by simp[yJ,h1,h2]) ?_;simp[h0,h1',h7,h8,zq];refine⟨fun e=>by simp[e],fun e=>⟨_,by omega,i+1,by omega,rfl,wr (by omega) (by omega),by simp[e]⟩⟩
 | none=>
  have hc:¬i<l.length:=by simp at hv;omega
  have hd:l.drop i=[]:=by simp;omega
  simp[h0,h7,h8,hc,hf,hd,zq]
def Z8(G l p f first cap)(hl:Fits l)(h1:qw first=true)(h2:qw cap=true)
 (hp:∀v∈l,Pure prog G f (first++[.agg (qz v)]++cap) (.bool (p v))):Pure prog G 260 [.sl 4 (l.map qz) .none,.fn f first cap] (.bool (l.any p)):=by
 refine qFP qg func260 rfl (by kernel_rfl) ?_;simp;refine qFz (Qm G l p f first cap hl h1 h2 hp) (by simp[h1,h2]) ?_;simp
section
variable (G:Nat->AV)
def qaJ(n):Pure prog G 349 [.int .i32 n] (.bool (wB n)):=by
 refine qFP qg func349 rfl (by kernel_rfl) ?_;by_cases h1:97<=n<;>by_cases h2:n<=122<;>simp[wB,h1,h2]
def qoE(n):Pure prog G 384 [.int .i32 n] (.bool (J9 n)):=by
 refine qFP qg func384 rfl (by kernel_rfl) ?_;by_cases h1:48<=n<;>by_cases h2:n<=57<;>simp[J9,h1,h2]
def qfz(n):Pure prog G 342 [.int .u8 n] (.bool (wB n)):=by
 refine qFP qg func342 rfl (by kernel_rfl) ?_;by_cases h1:97<=n<;>by_cases h2:n<=122<;>simp[wB,h1,h2]
def qoF(n):Pure prog G 381 [.int .u8 n] (.bool (J9 n)):=by
 refine qFP qg func381 rfl (by kernel_rfl) ?_;by_cases h1:48<=n<;>by_cases h2:n<=57<;>simp[J9,h1,h2]
def Jz(n):Pure prog G 350 [.int .i32 n] (.bool (kW n)):=by
 refine qFP qg func350 rfl (by kernel_rfl) ?_;simp;refine qFz (qaJ G n) rfl ?_;cases hl:wB n
 . simp;refine qFz (qoE G n) rfl ?_;cases hd:J9 n
   . by_cases h1:65<=n<;>by_cases h2:n<=90<;>by_cases h3:n=95<;>simp[kW,hl,hd,h1,h2,h3]
   simp[kW,hl,hd]
 simp[kW,hl]
def qob(n):Pure prog G 344 [.int .u8 n] (.bool (kW n)):=by
 refine qFP qg func344 rfl (by kernel_rfl) ?_;simp;refine qFz (qfz G n) rfl ?_;cases hl:wB n
 . simp;refine qFz (qoF G n) rfl ?_;cases hd:J9 n
   . by_cases h1:65<=n<;>by_cases h2:n<=90<;>by_cases h3:n=95<;>simp[kW,hl,hd,h1,h2,h3]
   simp[kW,hl,hd]
 simp[kW,hl]
end
section
variable (G:Nat->AV)
def qvN{s:Str}{pos}(h:pos<s.length)(hl:(s[pos]).toNat<128):Utf8.decode ⟨s.toArray⟩ pos=((s[pos]).toNat,1):=by
 have:=Go.decode_ascii ⟨s.toArray⟩ pos (by simpa[ByteArray.size] using h) hl;exact this
def qvO{s:Str}{pos}(h:pos<s.length)(hl:128<=(s[pos]).toNat):128<=(Utf8.decode ⟨s.toArray⟩ pos).1:=by
 have:=Go.decode_high ⟨s.toArray⟩ pos (by simpa[ByteArray.size] using h) hl;exact this.1
def qcS{n}(h:128<=n):kW n=false:=by
 simp[kW,wB,J9];omega
def Zw{s}{c:UInt8}(h:c∈s)(hc:ZZ c=false):QY s=false:=by
 cases s with
 |nil=>cases h
 | cons a r=>
  have:(a::r).all ZZ=false:=by
   rw[qCe];intro e;rw[qA3.1 e c h]at hc;cases hc
  simp only[QY,this,qDG]
def qg0{c:UInt8}{r:Str}(h:wB c.toNat=false):QY (c::r)=false:=by simp[QY,h]
def qqH(s:Str):Pure prog G 307 [.str s] (.bool (QY s)):=by
 refine qFP qg func307 rfl (by kernel_rfl) ?_;simp;refine qFM (fun n env U=>∃pos,pos<=s.length/\n=s.length-pos/\env 0=.str s/\env 6=.iter 0/\U=⟨[.siter s pos],[]⟩/\(∀c∈s.take pos,ZZ c=true)/\(0<pos->∀c r,s=c::r->wB c.toNat=true)) s.length ⟨0,by simp⟩ ?_;rintro n env U ⟨pos,hp,rfl,h0,h6,rfl,hall,hlow⟩;by_cases hlt:pos<s.length
 . have hmem:=qDh hlt;by_cases hc:(s[pos]).toNat<128
   . have hd:=qvN hlt hc;have more:ZZ s[pos]=true->∀c∈s.take (pos+1),ZZ c=true:=by
      intro hi c hcm;rw[show s.take (pos+1)=s.take pos++[s[pos]] by rw[qBi,qAW hlt];rfl,qBb]at hcm;rcases hcm with hcm|hcm
      . exact hall c hcm
      rwa[qBD.1 hcm]
     rcases qCh pos with rfl|hpos
     . simp[h0,h6,qaE,hlt,hd];refine qFz (qaJ G _) rfl ?_;cases hl:wB (s[0].toNat:Int)
       . cases s with
         |nil=>simp at hlt
         |cons c r=>simpa using qg0 hl
       simp;refine qFz (Jz G _) rfl ?_;cases hi:kW (s[0].toNat:Int)
       . simpa using Zw hmem hi
       simp[h0,h6];refine⟨_,by omega,1,by omega,rfl,rfl,more hi,fun _ c r e=>by subst e;exact hl⟩
     have hne:¬pos=0:=(by omega);simp[h0,h6,qaE,hlt,hd,hne];refine qFz (Jz G _) rfl ?_;cases hi:kW (s[pos].toNat:Int)
     . simpa using Zw hmem hi
     simp[h0,h6];refine⟨_,by omega,pos+1,by omega,rfl,rfl,more hi,fun _=>hlow hpos⟩
   have hd:=qvO hlt (by omega);have hi:=qcS (n:=((Utf8.decode ⟨s.toArray⟩ pos).1:Int)) (by omega);have hl:wB ((Utf8.decode ⟨s.toArray⟩ pos).1:Int)=false:=by
    simp only[kW,qDp]at hi;exact hi.1.1.1
   have hb:=Zw hmem (qcS (n:=(s[pos].toNat:Int)) (by omega));rcases qCh pos with rfl|hpos
   . simp[h0,h6,qaE,hlt];refine qFz (qaJ G _) rfl ?_;simpa[hl] using hb
   have hne:¬pos=0:=(by omega);simp[h0,h6,qaE,hlt,hne];refine qFz (Jz G _) rfl ?_;simpa[hi] using hb
 have he:pos=s.length:=by omega
 subst he
 cases s with
 |nil=>simp[h0,h6,qaE,QY]
 | cons c r=>
  have h1:QY (c::r)=true:=by
   simp only[QY,qA1];exact⟨hlow (by simp) c r rfl,qA3.2 fun x hx=>hall x (by simpa using hx)⟩
  simp[h0,h6,qaE,h1]
end
def qoW(s c w):
 Calls prog 385 #[.string s,.int .u8 c] w fun e w'=>e=.returned (.int .i64 (Lib.indexByte s.data.toList c.toNat.toUInt8))/\w'=w:=by
 have t3:=underlying3;have t5:=underlying5;have t9:=underlying9
 go_enter func385,Tryz.ntmps385
 go_wp2
 rw[run_callFunc_extern func394 (by kernel_rfl) (by kernel_rfl) (by kernel_rfl) (e:=Extern.BytealgIndexByte.indexByte) (by kernel_rfl),Lib.run_indexByteString];simp only[Result.andThen];rw[Oper.upon_value]
 go_wp2
 go_ret
 exact⟨rfl,rfl⟩
def qcU(G:Nat->AV)(s:Str)(c:Int):Pure prog G 385 [.str s,.int .u8 c] (.int .i64 (Lib.indexByte s c.toNat.toUInt8)):=by
 refine⟨by kernel_rfl,fun w0 ro vs hg hro hvs=>?_⟩;simp only[ql,qk]at hvs;obtain⟨v,vr,e1,rfl,v2,vr2,rfl,rfl,rfl⟩:=hvs;have:vs = #[.string ⟨s.toArray⟩,.int .u8 c]:=by rw[<- qC9 (xs:=vs),e1]
 subst this;refine(qoW _ _ _).mono ?_;rintro e w' ⟨rfl,rfl⟩;exact⟨_,ro,rfl,.refl _ _,fun _ _ _ h=>h,hro,fun _ _ _ h _=>h,by simp[qk]⟩
def qnY(s):qdI.any (fun v=>s==v)=qdI.contains s:=by
 rw[List.any_beq]
def qky(s):qdI.any (fun v=>v==s)=qdI.contains s:=by
 rw[List.any_beq']
def qsi(s:Str):Pure prog GG 308 [.str s] (.bool (qdI.contains s)):=by
 refine qFP qg func308 rfl (by kernel_rfl) ?_;simp[GG];refine qFz (Zq GG qdI s (by decide)) rfl ?_;rw[qnY];simp
def Qk(s:Str):Pure prog GG 251 [.str s] (.bool (z8 s)):=by
 refine qFP qg func251 rfl (by kernel_rfl) ?_;simp;refine qFz (qqH GG s) rfl ?_;cases h1:QY s
 . simp[z8,h1]
 by_cases h2:s.length<=16
 . have h2':(s.length:Int)<=16:=(by omega);simp[h2'];refine qFz (qsi s) rfl ?_;simp[z8,h1,h2]
 have h2':¬(s.length:Int)<=16:=by omega
 simp[z8,h1,h2,h2']
def qev:Pure prog GG 380 [] (.sl 1 (qdI.map jm) .none):=by
 refine qFP qg func380 rfl (by kernel_rfl) ?_;simp[qi,qp,qdI]
def qsh(s:Str):Pure prog GG 343 [.str s] (.bool (qdI.contains s)):=by
 refine qFP qg func343 rfl (by kernel_rfl) ?_;simp;refine qFz qev rfl ?_;refine qFz (qvk GG qdI s (by decide)) rfl ?_;rw[qky];simp
def Qj(s:Str)(hs:Fits s):Pure prog GG 294 [.str s] (.bool (z8 s)):=by
 refine qFP qg func294 rfl (by kernel_rfl) ?_
 cases s with
 |nil=>simp[z8,QY]
 | cons c r=>
  by_cases h16:(c::r).length<=16
  . have h16':¬(16:Int)<(r.length:Int)+1:=(by simp at h16;omega);simp[h16'];refine qFz (qfz GG c.toNat) rfl ?_;cases hl:wB (c.toNat:Int)
    . simp[z8,QY,hl]
    simp;refine qFz (qsh (c::r)) rfl ?_;cases hk:qdI.contains (c::r)
    . simp;refine qFM (fun n env U=>∃i,i<=(c::r).length/\n=(c::r).length-i/\env 0=.str (c::r)/\env 3=.int .i64 i/\U=⟨[],[]⟩/\∀x∈(c::r).take i,ZZ x=true) (c::r).length ⟨0,by simp⟩ ?_;rintro n env U ⟨i,hi,rfl,h0,h3,rfl,hall⟩
      cases hv:(c::r)[i]? with
      | some v=>
       obtain⟨hc,hv'⟩:=qAU.1 hv;simp[h0,h3,show(i:Int)<r.length+1 by simp at hc;omega,hv];refine qFz (qob GG v.toNat) rfl ?_;cases hin:kW (v.toNat:Int)
       . have:=Zw (qAV hv) (show ZZ v=false from hin);simp[z8,this]
       simp[h0,h3];refine⟨_,by simp at hc;omega,i+1,by simp at hc;omega,rfl,wr (by omega) (by simp at hc hs;omega),?_⟩;intro x hx;rw[show(c::r).take (i+1)=(c::r).take i++[v] by rw[qBi,hv];rfl,qBb]at hx;rcases hx with hx|hx
       . exact hall x hx
       rwa[qBD.1 hx]
      | none=>
       have he:i=(c::r).length:=(by simp at hv hi;simp;omega);subst he;have h1:QY (c::r)=true:=by
        simp only[QY,qA1];exact⟨hl,qA3.2 fun x hx=>hall x (by simpa using hx)⟩
       have hn:z8 (c::r)=true:=(by simp only[z8,h1,hk,decide_eq_true h16];rfl);simp[h0,h3,hn]
    have hn:z8 (c::r)=false:=(by simp only[z8,hk,qFc,qDG]);simp[hn]
  have h16':(16:Int)<(r.length:Int)+1:=by simp at h16;omega
  have:z8 (c::r)=false:=by
   have:decide ((c::r).length<=16)=false:=by simpa using h16
   simp only[z8,this,qDG,qDf]
  simp[h16',this]
def Za{s:Str}:Lib.indexByte s 91=if s.contains 91=true then((yf s).length:Int) else -1:=by
 unfold yf
 induction s with
 |nil=>simp[Lib.indexByte]
 | cons c r ih=>
  by_cases hc:c=91
  . subst hc;simp[Lib.indexByte]
  have h1:(c==91)=false:=by simpa using hc
  simp only[Lib.indexByte,h1,qBz,if_false,ih,List.contains_cons];have h3:((91:UInt8)==c)=false:=by simpa using fun e=>hc e.symm
  have h4:(c != 91)=true:=by simpa using hc
  rw[h3,qDz,qEk,if_pos h4];by_cases h5:r.contains 91=true
  . rw[if_pos h5,if_pos h5];have:¬(((r.takeWhile (· != 91)).length:Int) == -1)=true:=by simp
    rw[if_neg this];simp
  rw[if_neg h5,if_neg h5];simp
def qgn(G:Nat->AV)(s:Str):Pure prog G 351 [.str s,.str [91]] (.int .i64 (Lib.indexByte s 91)):=by
 refine qFP qg func351 rfl (by kernel_rfl) ?_;by_cases h:[91]=s
 . subst h;simp[Lib.indexByte]
 simp[h];refine qFz (qcU G s 91) rfl ?_;simp
def qvP(G:Nat->AV)(s:Str)(hs:Fits s)(h:s.contains 91=true):Pure prog G 309 [.str s,.str [91]] (.tup [.str (yf s),.str (Y9 s),.bool true]):=by
 refine qFP qg func309 rfl (by kernel_rfl) ?_;simp;refine qFz (qgn G s) rfl ?_;have e:=qqi h;have hl:s.length=(yf s).length+1+(Y9 s).length:=by
  have:=congrArg List.length e;rw[qAY,qBc]at this;omega
 have t1:s.take (yf s).length=yf s:=by
  conv=>lhs;arg 2;rw[e]
  simp
 have t2:s.drop ((yf s).length+1)=Y9 s:=by
  conv=>lhs;arg 2;rw[e]
  simp
 rw[Za,if_pos h];simp[zk,zR,show IntKind.i64.wrap (((yf s).length:Int)+1)=(yf s).length+1 from wr (by omega) (by omega),show((yf s).length:Int)+1<=s.length by omega,show(0:Int)<=(yf s).length+1 by omega,show(((yf s).length:Int)+1).toNat=(yf s).length+1 by omega,show(yf s).length<=s.length by omega,t1,t2]
def qsY(G:Nat->AV)(s:Str)(hs:Fits s)(h:s.contains 91=false):Pure prog G 309 [.str s,.str [91]] (.tup [.str s,.str [],.bool false]):=by
 refine qFP qg func309 rfl (by kernel_rfl) ?_;simp;refine qFz (qgn G s) rfl ?_;rw[Za,if_neg (by rw[h];decide)];simp
def qlp(G:Nat->AV)(s:Str)(hs:Fits s)(h:s.contains 91=true):Pure prog G 252 [.str s,.str [91]] (.tup [.str (yf s),.str (Y9 s),.bool true]):=by
 refine qFP qg func252 rfl (by kernel_rfl) ?_;simp;refine qFz (qvP G s hs h) rfl ?_;simp
def qeO(G:Nat->AV)(s:Str)(hs:Fits s)(h:s.contains 91=false):Pure prog G 252 [.str s,.str [91]] (.tup [.str s,.str [],.bool false]):=by
 refine qFP qg func252 rfl (by kernel_rfl) ?_;simp;refine qFz (qsY G s hs h) rfl ?_;simp
def qmW(i:Nat)(h:i<9):Pure prog GG 396 [.int .i64 i] (.str [UInt8.ofNat (48+i)]):=by
 refine qFP qg func396 rfl (by kernel_rfl) ?_;have h11:i<10:=by omega
 have h37:(0:Int)<=(i:Int)+1:=by omega
 simp[show(i:Int)<10 by omega,show IntKind.i64.wrap ((i:Int)+1)=(i:Int)+1 from wr (by omega) (by omega),zk,zR,show(i:Int)+1<=36 by omega,show(i:Int)<=(i:Int)+1 by omega];have:i=0\/i=1\/i=2\/i=3\/i=4\/i=5\/i=6\/i=7\/i=8:=by omega
 rcases this with rfl|rfl|rfl|rfl|rfl|rfl|rfl|rfl|rfl<;>rfl
def qyJ(i:Nat)(h:i<9):Pure prog GG 310 [.int .i64 i] (.str [UInt8.ofNat (48+i)]):=by
 refine qFP qg func310 rfl (by kernel_rfl) ?_;simp;refine qFz (r:=.str [UInt8.ofNat (48+i)]) ?_ rfl ?_
 . refine qFP qg func352 rfl (by kernel_rfl) ?_;simp;refine qFz (r:=.str [UInt8.ofNat (48+i)]) ?_ rfl ?_
   . refine qFP qg func389 rfl (by kernel_rfl) ?_;have h3:i<100:=(by omega);simp[show(0:Int)<=i by omega,show(i:Int)<100 by omega];exact qFz (qmW i h) rfl (by simp)
   simp
 simp
def qsg(i:Nat)(h:i<8):Pure prog GG 310 [.int .i64 i] (.str [UInt8.ofNat (48+i)]):=qyJ i (by omega)
def JF(a:Str)(i:Nat)(hi:i<8)(ha:a.length<=1000):Pure prog GG 253 [.str a,.int .i64 i] (.str (zX a i)):=by
 refine qFP qg func253 rfl (by kernel_rfl) ?_;have h4:a.length+1+1<=4611686018427387904:=by omega
 simp[show a.length+1<=4611686018427387904 by omega];refine qFz (qsg i hi) rfl ?_;simp[show a.length+(1+1)<=4611686018427387904 by omega,show a.length+(1+(1+1))<=4611686018427387904 by omega,zX]
def wA{s}(h:z8 s=true):s.length<=16:=by
 simp only[z8,qA1,decide_eq_true_eq]at h;exact h.1.2
def qoB{s i}(hi:i<8)(hn:z8 (yf s)=true)(h:s=zX (yf s) i):(wb s).isSome=true:=by
 rw[vF (a:=yf s) (i:=i) ⟨hi,hn,h⟩];rfl
def qoC{s}(h:∀i,i<8->s≠zX (yf s) i):wb s=none:=by
 rw[y8];rintro a i hi;have:=hi.has.2.1;exact h i hi.1 (by rw[this];exact hi.2.2)
def qdd{s}(h:z8 (yf s)=false):wb s=none:=by
 rw[y8];rintro a i hi;have:=hi.has.2.1;rw[this,hi.2.1]at h;cases h
def qnQ(s:Str)(hs:Fits s):Pure prog GG 170 [.str s] (.bool (wg s)):=by
 refine qFP qg func170 rfl (by kernel_rfl) ?_;simp;refine qFz (Qk s) rfl ?_;cases hn:z8 s
 . simp;by_cases hc:s.contains 91=true
   . refine qFz (qlp GG s hs hc) rfl ?_;simp;refine qFz (Qk (yf s)) rfl ?_;cases hh:z8 (yf s)
     . simp[wg,hn,qdd hh]
     simp;refine qFM (fun n env U=>∃i:Nat,i<=8/\n=8-i/\env 0=.str s/\env 3=.str (yf s)/\env 22=.int .i64 i/\U=⟨[],[]⟩/\∀j,j<i->s≠zX (yf s) j) 8 ⟨0,by simp⟩ ?_;rintro n env U ⟨i,hi,rfl,h0,h3,h22,rfl,hall⟩;by_cases h8:i<8
     . have h8':(i:Int)<8:=(by omega);simp[h0,h3,h22,h8'];refine qFz (JF (yf s) i h8 (by have:=wA hh;omega)) rfl ?_;by_cases he:s=zX (yf s) i
       . have hv:wg s=true:=(by simp[wg,qoB h8 hh he]);rw[<- he];simp[h0,hv]
       simp[h0,h3,h22,he];refine⟨_,by omega,i+1,by omega,rfl,wr (by omega) (by omega),?_⟩;intro j hj e;rcases qB5.1 hj with hj|rfl
       . exact hall j hj e
       exact he e
     have h8':¬(i:Int)<8:=(by omega);have hv:wg s=false:=by
      have:=qoC fun j hj=>hall j (by omega)
      simp[wg,hn,this]
     simp[h0,h3,h22,h8',hv]
   have hc':s.contains 91=false:=(by simpa using hc);refine qFz (qeO GG s hs hc') rfl ?_;simp[wg,hn,KJ hc']
 simp[wg,hn]
def qkV:∀(i:Nat),i<8->Pure prog GG 295 [.int .i64 i] (.str [UInt8.ofNat (48+i)]):=by
 have key:∀(i:Nat),i<8->IntKind.i64.wrap (-(i:Int)) = -i/\(-(i:Int)).tmod 10 = -i/\IntKind.i64.wrap (48+(i:Int))=48+i/\IntKind.u8.wrap (48+(i:Int))=48+i/\IntKind.i64.wrap (-((i:Int)/10))=0/\(48+(i:Int)).toNat=48+i:=by decide
 intro i hi;obtain⟨k1,k2,k3,k4,k5,k6⟩:=key i hi;refine qFP qg func295 rfl (by kernel_rfl) ?_;simp;have below:Pure prog GG 230 [.int .i64 i] (.int .i64 (-i)):=by
  refine qFP qg func230 rfl (by kernel_rfl) ?_;by_cases h0:i=0
  . subst h0;simp
  have:0<i:=by omega
  simp[this,k1]
 refine qFz below rfl ?_;refine qFM (fun n env U=>n=1/\env 0=.int .i64 i/\env 3=.str []/\env 4=.int .i64 (-i)/\U=⟨[],[]⟩) 1 ⟨rfl,by simp⟩ ?_;rintro n env U ⟨rfl,h0,h3,h4,rfl⟩;simp[h0,h3,h4,k2,k3,k4,k5,k6,qi,qp,wK,bytesOf]
def JE(a:Str)(i:Nat)(hi:i<8)(ha:a.length<=1000):Pure prog GG 225 [.str a,.int .i64 i] (.str (zX a i)):=by
 refine qFP qg func225 rfl (by kernel_rfl) ?_;have h4:a.length+1+1<=4611686018427387904:=by omega
 simp[show a.length+1<=4611686018427387904 by omega];refine qFz (qkV i hi) rfl ?_;simp[show a.length+(1+1)<=4611686018427387904 by omega,show a.length+(1+(1+1))<=4611686018427387904 by omega,zX]
