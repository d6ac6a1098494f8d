import Derived.Test.YtfmdnopgncbmoaaGreatDoorProg
import Derived.KernelRfl
import Derived.Test.YtfmdnopgncbmoaaGreatDoorPs07
import Derived.Laws.RangeAny
import Derived.Shelf.Lay
import Derived.Shelf.Strings.Search1
import Derived.WalkKit
import Derived.ChangeArms
import Derived.DataReads
set_option maxRecDepth 100000
set_option maxHeartbeats 16000000
set_option linter.all false
set_option linter.defProp false
namespace Go.Proofs.YtfmdnopgncbmoaaGreatDoor
open Go Go.Abs Tryz Go.RowKit
@[simp]def D1:Dof prog 1=some ⟨1,8,[.nilf],.nilf,.fn,true⟩:=by kernel_rfl
@[simp]def D2:Dof prog 2=some ⟨1,8,[.int .i64 0],.int .i64 0,.int .i64,true⟩:=by kernel_rfl
@[simp]def D3:Dof prog 3=some ⟨1,8,[.int .i64 0],.int .i64 0,.int .i64,true⟩:=by kernel_rfl
@[simp]def D4:Dof prog 4=some ⟨1,1,[.bool false],.bool false,.bool,true⟩:=by kernel_rfl
@[simp]def D5:Dof prog 5=some ⟨1,1,[.int .u8 0],.int .u8 0,.int .u8,true⟩:=by kernel_rfl
@[simp]def D9:Dof prog 9=some ⟨1,16,[.str []],.str [],.str,true⟩:=by kernel_rfl
@[simp]def D22:Dof prog 22=some ⟨1,24,[.sl 0 [] .nil],.sl 0 [] .nil,.sl 62,true⟩:=by kernel_rfl
@[simp]def D23:Dof prog 23=some ⟨1,24,[.sl 0 [] .nil],.sl 0 [] .nil,.sl 71,true⟩:=by kernel_rfl
@[simp]def D24:Dof prog 24=some ⟨1,24,[.sl 0 [] .nil],.sl 0 [] .nil,.sl 116,true⟩:=by kernel_rfl
@[simp]def D25:Dof prog 25=some ⟨1,24,[.sl 0 [] .nil],.sl 0 [] .nil,.sl 35,true⟩:=by kernel_rfl
@[simp]def D27:Dof prog 27=some ⟨5,120,[.sl 0 [] .nil,.sl 0 [] .nil,.sl 0 [] .nil,.sl 0 [] .nil,.sl 0 [] .nil],.agg [.sl 0 [] .nil,.sl 0 [] .nil,.sl 0 [] .nil,.sl 0 [] .nil,.sl 0 [] .nil],.st [(0,22),(1,23),(2,23),(3,24),(4,25)],true⟩:=by kernel_rfl
@[simp]def D30:Dof prog 30=some ⟨1,8,[.int .i64 0],.int .i64 0,.int .i64,true⟩:=by kernel_rfl
@[simp]def D34:Dof prog 34=some ⟨2,16,[.int .i64 0,.int .i64 0],.agg [.int .i64 0,.int .i64 0],.st [(0,3),(1,3)],true⟩:=by kernel_rfl
@[simp]def D35:Dof prog 35=some ⟨1,24,[.sl 0 [] .nil],.sl 0 [] .nil,.sl 3,true⟩:=by kernel_rfl
@[simp]def D49:Dof prog 49=some ⟨1,8,[.nilp],.nilp,.ptr 57,true⟩:=by kernel_rfl
@[simp]def D52:Dof prog 52=some ⟨1,24,[.sl 0 [] .nil],.sl 0 [] .nil,.sl 139,true⟩:=by kernel_rfl
@[simp]def D54:Dof prog 54=some ⟨1,24,[.sl 0 [] .nil],.agg [.sl 0 [] .nil],.st [(0,52)],true⟩:=by kernel_rfl
@[simp]def D55:Dof prog 55=some ⟨1,8,[.nilf],.nilf,.fn,true⟩:=by kernel_rfl
@[simp]def D57:Dof prog 57=some ⟨11,216,[.sl 0 [] .nil,.sl 0 [] .nil,.sl 0 [] .nil,.sl 0 [] .nil,.sl 0 [] .nil,.sl 0 [] .nil,.sl 0 [] .nil,.sl 0 [] .nil,.int .i64 0,.bool false,.nilf],.agg [.sl 0 [] .nil,.sl 0 [] .nil,.sl 0 [] .nil,.sl 0 [] .nil,.sl 0 [] .nil,.sl 0 [] .nil,.sl 0 [] .nil,.sl 0 [] .nil,.int .i64 0,.bool false,.nilf],.st [(0,27),(5,23),(6,35),(7,54),(8,3),(9,4),(10,55)],true⟩:=by kernel_rfl
@[simp]def D62:Dof prog 62=some ⟨4,40,[.str [],.int .i64 0,.int .i64 0,.int .i64 0],.agg [.str [],.int .i64 0,.int .i64 0,.int .i64 0],.st [(0,9),(1,3),(2,3),(3,3)],true⟩:=by kernel_rfl
@[simp]def D71:Dof prog 71=some ⟨4,56,[.int .i64 0,.int .i64 0,.str [],.sl 0 [] .nil],.agg [.int .i64 0,.int .i64 0,.str [],.sl 0 [] .nil],.st [(0,3),(1,3),(2,9),(3,23)],true⟩:=by kernel_rfl
@[simp]def D85:Dof prog 85=some ⟨2,32,[.sl 0 [] .nil,.int .i64 0],.agg [.sl 0 [] .nil,.int .i64 0],.st [(0,54),(1,3)],true⟩:=by kernel_rfl
@[simp]def D86:Dof prog 86=some ⟨1,8,[.nilf],.nilf,.fn,true⟩:=by kernel_rfl
@[simp]def D88:Dof prog 88=some ⟨1,8,[.nilf],.nilf,.fn,true⟩:=by kernel_rfl
@[simp]def D90:Dof prog 90=some ⟨1,8,[.int .u64 0],.int .u64 0,.int .u64,true⟩:=by kernel_rfl
@[simp]def D92:Dof prog 92=some ⟨3,24,[.bool false,.int .u64 0,.int .u64 0],.agg [.bool false,.int .u64 0,.int .u64 0],.st [(0,4),(1,90),(2,90)],true⟩:=by kernel_rfl
@[simp]def qxY:Dof prog 101=some ⟨1,24,[.sl 0 [] .nil],.sl 0 [] .nil,.sl 159,true⟩:=by kernel_rfl
@[simp]def qyD:Dof prog 114=some ⟨1,24,[.sl 0 [] .nil],.sl 0 [] .nil,.sl 123,true⟩:=by kernel_rfl
@[simp]def qyC:Dof prog 116=some ⟨2,32,[.int .i64 0,.sl 0 [] .nil],.agg [.int .i64 0,.sl 0 [] .nil],.st [(0,3),(1,114)],true⟩:=by kernel_rfl
@[simp]def qyB:Dof prog 123=some ⟨4,32,[.int .i64 0,.int .i64 0,.int .i64 0,.bool false],.agg [.int .i64 0,.int .i64 0,.int .i64 0,.bool false],.st [(0,3),(1,3),(2,3),(3,4)],true⟩:=by kernel_rfl
@[simp]def qyA:Dof prog 125=some ⟨1,8,[.nilm],.nilm,.map 3 3,true⟩:=by kernel_rfl
@[simp]def qyz:Dof prog 130=some ⟨1,24,[.sl 0 [] .nil],.sl 0 [] .nil,.sl 114,true⟩:=by kernel_rfl
@[simp]def qyy:Dof prog 137=some ⟨2,16,[.int .i64 0,.int .i64 0],.agg [.int .i64 0,.int .i64 0],.arr 2 3,true⟩:=by kernel_rfl
@[simp]def qyx:Dof prog 139=some ⟨3,24,[.int .i64 0,.int .i64 0,.int .i64 0],.agg [.int .i64 0,.int .i64 0,.int .i64 0],.st [(0,3),(1,3),(2,3)],true⟩:=by kernel_rfl
@[simp]def qyw:Dof prog 140=some ⟨1,8,[.nilf],.nilf,.fn,true⟩:=by kernel_rfl
@[simp]def qyv:Dof prog 141=some ⟨1,8,[.nilf],.nilf,.fn,true⟩:=by kernel_rfl
@[simp]def qu5:Dof prog 145=some ⟨1,8,[.nilm],.nilm,.map 147 3,true⟩:=by kernel_rfl
@[simp]def qyu:Dof prog 147=some ⟨2,16,[.int .i64 0,.int .i64 0],.agg [.int .i64 0,.int .i64 0],.st [(0,3),(1,3)],true⟩:=by kernel_rfl
@[simp]def qyt:Dof prog 154=some ⟨1,8,[.nilf],.nilf,.fn,true⟩:=by kernel_rfl
@[simp]def qys:Dof prog 156=some ⟨1,24,[.sl 0 [] .nil],.agg [.sl 0 [] .nil],.st [(0,101)],true⟩:=by kernel_rfl
@[simp]def qxX:Dof prog 159=some ⟨2,24,[.str [],.int .i64 0],.agg [.str [],.int .i64 0],.st [(0,9),(1,3)],true⟩:=by kernel_rfl
@[simp]def qyr:Dof prog 162=some ⟨1,8,[.int .u64 0],.int .u64 0,.int .u64,true⟩:=by kernel_rfl
@[simp]def qyq:Dof prog 168=some ⟨1,24,[.sl 0 [] .nil],.sl 0 [] .nil,.sl 9,true⟩:=by kernel_rfl
@[simp]def qyp:Dof prog 170=some ⟨5,72,[.int .i64 0,.int .i64 0,.int .i64 0,.sl 0 [] .nil,.sl 0 [] .nil],.agg [.int .i64 0,.int .i64 0,.int .i64 0,.sl 0 [] .nil,.sl 0 [] .nil],.st [(0,3),(1,3),(2,30),(3,168),(4,168)],true⟩:=by kernel_rfl
@[simp]def qyo:Dof prog 176=some ⟨1,8,[.nilp],.nilp,.ptr 186,true⟩:=by kernel_rfl
@[simp]def qyn:Dof prog 182=some ⟨16,128,[.int .i64 0,.int .i64 0,.int .i64 0,.int .i64 0,.int .i64 0,.int .i64 0,.int .i64 0,.int .i64 0,.int .i64 0,.int .i64 0,.int .i64 0,.int .i64 0,.int .i64 0,.int .i64 0,.int .i64 0,.int .i64 0],.agg [.int .i64 0,.int .i64 0,.int .i64 0,.int .i64 0,.int .i64 0,.int .i64 0,.int .i64 0,.int .i64 0,.int .i64 0,.int .i64 0,.int .i64 0,.int .i64 0,.int .i64 0,.int .i64 0,.int .i64 0,.int .i64 0],.arr 16 3,true⟩:=by kernel_rfl
@[simp]def qym:Dof prog 184=some ⟨1,8,[.nilm],.nilm,.map 9 3,true⟩:=by kernel_rfl
@[simp]def qyl:Dof prog 186=some ⟨8,176,[.sl 0 [] .nil,.sl 0 [] .nil,.sl 0 [] .nil,.sl 0 [] .nil,.sl 0 [] .nil,.sl 0 [] .nil,.sl 0 [] .nil,.nilm],.agg [.sl 0 [] .nil,.sl 0 [] .nil,.sl 0 [] .nil,.sl 0 [] .nil,.sl 0 [] .nil,.sl 0 [] .nil,.sl 0 [] .nil,.nilm],.st [(0,54),(1,27),(6,35),(7,184)],true⟩:=by kernel_rfl
@[simp]def qyk:Dof prog 189=some ⟨3,24,[.int .i64 0,.int .i64 0,.int .i64 0],.agg [.int .i64 0,.int .i64 0,.int .i64 0],.st [(0,3),(1,3),(2,3)],true⟩:=by kernel_rfl
@[simp]def qyj:Dof prog 190=some ⟨1,8,[.nilf],.nilf,.fn,true⟩:=by kernel_rfl
@[simp]def qxz:Dof prog 192=some ⟨1,8,[.nilm],.nilm,.map 139 4,true⟩:=by kernel_rfl
@[simp]def qyi:Dof prog 194=some ⟨1,24,[.sl 0 [] .nil],.sl 0 [] .nil,.sl 4,true⟩:=by kernel_rfl
@[simp]def qyh:Dof prog 201=some ⟨1,24,[.sl 0 [] .nil],.sl 0 [] .nil,.sl 154,true⟩:=by kernel_rfl
@[simp]def qyg:Dof prog 233=some ⟨1,24,[.sl 0 [] .nil],.sl 0 [] .nil,.sl 182,true⟩:=by kernel_rfl
@[simp]def qyf:Dof prog 243=some ⟨1,8,[.nilp],.nilp,.ptr 295,true⟩:=by kernel_rfl
@[simp]def qu4:Dof prog 245=some ⟨1,8,[.nilm],.nilm,.map 189 3,true⟩:=by kernel_rfl
@[simp]def qye:Dof prog 247=some ⟨3,24,[.nilp,.nilf,.nilm],.agg [.nilp,.nilf,.nilm],.st [(0,243),(1,190),(2,245)],true⟩:=by kernel_rfl
@[simp]def qyd:Dof prog 257=some ⟨9,184,[.sl 0 [] .nil,.sl 0 [] .nil,.sl 0 [] .nil,.sl 0 [] .nil,.sl 0 [] .nil,.sl 0 [] .nil,.sl 0 [] .nil,.bool false,.int .i64 0],.agg [.sl 0 [] .nil,.sl 0 [] .nil,.sl 0 [] .nil,.sl 0 [] .nil,.sl 0 [] .nil,.sl 0 [] .nil,.sl 0 [] .nil,.bool false,.int .i64 0],.st [(0,27),(5,23),(6,35),(7,4),(8,3)],true⟩:=by kernel_rfl
@[simp]def qxy:Dof prog 262=some ⟨1,24,[.sl 0 [] .nil],.sl 0 [] .nil,.sl 301,true⟩:=by kernel_rfl
@[simp]def qyc:Dof prog 267=some ⟨1,24,[.sl 0 [] .nil],.sl 0 [] .nil,.sl 23,true⟩:=by kernel_rfl
@[simp]def qyb:Dof prog 273=some ⟨1,24,[.sl 0 [] .nil],.sl 0 [] .nil,.sl 5,true⟩:=by kernel_rfl
@[simp]def qu3:Dof prog 293=some ⟨1,8,[.nilm],.nilm,.map 139 3,true⟩:=by kernel_rfl
@[simp]def qya:Dof prog 295=some ⟨3,40,[.sl 0 [] .nil,.nilm,.bool false],.agg [.sl 0 [] .nil,.nilm,.bool false],.st [(0,52),(1,293),(2,4)],true⟩:=by kernel_rfl
@[simp]def qx9:Dof prog 297=some ⟨1,8,[.nilm],.nilm,.map 9 4,true⟩:=by kernel_rfl
@[simp]def qxx:Dof prog 301=some ⟨2,16,[.int .i64 0,.int .i64 0],.agg [.int .i64 0,.int .i64 0],.st [(0,3),(1,3)],true⟩:=by kernel_rfl
@[simp]def qx8:Dof prog 306=some ⟨1,2,[.int .u16 0],.int .u16 0,.int .u16,true⟩:=by kernel_rfl
@[simp]def qx7:Dof prog 333=some ⟨24,24,[.int .u8 0,.int .u8 0,.int .u8 0,.int .u8 0,.int .u8 0,.int .u8 0,.int .u8 0,.int .u8 0,.int .u8 0,.int .u8 0,.int .u8 0,.int .u8 0,.int .u8 0,.int .u8 0,.int .u8 0,.int .u8 0,.int .u8 0,.int .u8 0,.int .u8 0,.int .u8 0,.int .u8 0,.int .u8 0,.int .u8 0,.int .u8 0],.agg [.int .u8 0,.int .u8 0,.int .u8 0,.int .u8 0,.int .u8 0,.int .u8 0,.int .u8 0,.int .u8 0,.int .u8 0,.int .u8 0,.int .u8 0,.int .u8 0,.int .u8 0,.int .u8 0,.int .u8 0,.int .u8 0,.int .u8 0,.int .u8 0,.int .u8 0,.int .u8 0,.int .u8 0,.int .u8 0,.int .u8 0,.int .u8 0],.arr 24 5,true⟩:=by kernel_rfl
abbrev Str:=List UInt8
structure Var where
 name:Str
 width:Int
 mode:Int
 value:Int
structure Weight where
 lo:Int
 hi:Int
 weight:Int
 each:Bool
structure Dist where
 var:Int
 weights:List Weight
inductive Ex where
 |mk (op n:Int) (name:Str) (args:List Ex)
structure Problem where
 vars:List Var
 hard:List Ex
 soft:List Ex
 dists:List Dist
 groups:List (List Int)
structure Signal where
 name:Str
 value:Int
def Ex.op:Ex->Int|.mk o _ _ _=>o
def Ex.n:Ex->Int|.mk _ n _ _=>n
def Ex.name:Ex->Str|.mk _ _ s _=>s
def Ex.args:Ex->List Ex|.mk _ _ _ a=>a
@[simp]def Ex.op_mk{o n s a}:(Ex.mk o n s a).op=o:=rfl
def qCH:=@Ex.op_mk
@[simp]def Ex.n_mk{o n s a}:(Ex.mk o n s a).n=n:=rfl
@[simp]def Ex.name_mk{o n s a}:(Ex.mk o n s a).name=s:=rfl
def qCI:=@Ex.name_mk
@[simp]def Ex.args_mk{o n s a}:(Ex.mk o n s a).args=a:=rfl
def qCJ:=@Ex.args_mk
@[simp]def qD(v:Var):List AV:=[.str v.name,.int .i64 v.width,.int .i64 v.mode,.int .i64 v.value]
@[simp]def qC(w:Weight):List AV:=[.int .i64 w.lo,.int .i64 w.hi,.int .i64 w.weight,.bool w.each]
@[simp]def zF(d:Dist):List AV:=[.int .i64 d.var,.sl 4 (d.weights.map qC) .none]
@[simp]def qq(n:Int):List AV:=[.int .i64 n]
@[simp]def z8(s:Str):List AV:=[.str s]
@[simp]def qV(s:Signal):List AV:=[.str s.name,.int .i64 s.value]
mutual
def qt:Ex->List AV
 |.mk o n s a=>[.int .i64 o,.int .i64 n,.str s,.sl 4 (qgg a) .none]
def qgg:List Ex->List (List AV)
 |[]=>[]
 |a::r=>qt a::qgg r
end
@[simp]def qms:∀l,qgg l=l.map qt
 |[]=>rfl
 |a::r=>by simp[qgg,qms r]
def qd(e):qt e=[.int .i64 e.op,.int .i64 e.n,.str e.name,.sl 4 (e.args.map qt) .none]:=by cases e;simp[qt]
@[simp]def zJ(l:List Int):List AV:=[.sl 1 (l.map qq) .none]
@[simp]def qA(p:Problem):List AV:=[.sl 4 (p.vars.map qD) .none,.sl 4 (p.hard.map qt) .none,.sl 4 (p.soft.map qt) .none,.sl 2 (p.dists.map zF) .none,.sl 1 (p.groups.map zJ) .none]
@[simp]def qvW(l:List Var):zk (l.map qD)=true:=zx (fun x=>by simp) l
@[simp]def qub(l:List Weight):zk (l.map qC)=true:=zx (fun x=>by simp) l
@[simp]def qw5(l:List Dist):zk (l.map zF)=true:=zx (fun x=>by simp) l
@[simp]def qxK(l:List Int):zk (l.map qq)=true:=zx (fun x=>by simp) l
@[simp]def qxJ(l:List Str):zk (l.map z8)=true:=zx (fun x=>by simp) l
@[simp]def quc(l:List Signal):zk (l.map qV)=true:=zx (fun x=>by simp) l
@[simp]def qw4(l:List (List Int)):zk (l.map zJ)=true:=zx (fun x=>by simp) l
mutual
def qvY:∀e,qx (qt e)=true
 | .mk o n s a=>by
  have:=qst a;simp[qt,this];simpa using this
def qst:∀l,zk (qgg l)=true
 |[]=>rfl
 |a::r=>by simp only[qgg,zk,qvY a,qst r,Bool.and_self]
end
@[simp]def nrE(e):qx (qt e)=true:=qvY e
@[simp]def qvX(l:List Ex):zk (l.map qt)=true:=zx (fun x=>nrE x) l
def qe:Tryz.prog.follows .mixedOrders=true:=by kernel_rfl
abbrev Fits{α:Type}(l:List α):Prop:=l.length<9223372036854775808
def zu{α:Type}(p:α->Bool):List α->Int->Int
 |[],_=>-1
 |v::r,i=>if p v then i else zu p r (i+1)
def Vx{α p}:∀{l:List α}{i:Int},0<=i->(0<=zu p l i↔l.any p=true)
 |[],i,_=>by simp[zu]
 | v::r,i,h=>by
  simp only[zu,qAS];split
  . rename_i hp;simp[hp,h]
  rename_i hp;simp[hp,Vx (l:=r) (i:=i+1) (by omega)]
@[simp]def qiY{α:Type}(p:α->Bool)(l:List α):decide (0<=zu p l 0)=l.any p:=by
 rw[qzz,decide_eq_true_iff];exact Vx (by omega)
def qcd:List Str:=[[99,108,97,115,115],[101,120,116,101,110,100,115],[114,97,110,100],[114,97,110,100,99],[115,116,97,116,101],[99,111,110,115,116,114,97,105,110,116],[115,111,102,116],[100,105,115,116],[105,102],[101,108,115,101],[101,97,99,104],[105,110],[115,111,108,118,101],[98,101,102,111,114,101],[105,110,115,105,100,101],[112,114,111,112,101,114,116,121],[115,101,113],[97,110,100],[111,114],[110,111,116],[115,101,116],[104,111,108,100],[112,108,97,105,110],[114,101,112,101,97,116]]
def kQ(n:Int):Bool:=decide (97<=n)&&decide (n<=122)
def Jm(n:Int):Bool:=decide (48<=n)&&decide (n<=57)
def ke(n:Int):Bool:=kQ n||Jm n||(decide (65<=n)&&decide (n<=90))||decide (n=95)
def Za(c:UInt8):Bool:=ke c.toNat
def Qg:Str->Bool
 |[]=>false
 |c::r=>kQ c.toNat&&(c::r).all Za
def zQ(s:Str):Bool:=Qg s&&decide (s.length<=16)&&!qcd.contains s
def qcR{s}(h:zQ s=true):∀c∈s,Za c=true:=by
 simp only[zQ,qyJ]at h;obtain⟨⟨h,_⟩,_⟩:=h
 cases s with
 |nil=>simp
 | cons c r=>
  simp only[Qg,qyJ]at h;exact fun x hx=>qyP.1 h.2 x hx
def ww{s}(h:zQ s=true):∀c∈s,c≠91:=by
 intro c hc e;have:=qcR h c hc;subst e
 revert this
 decide
def Vj{s}(h:zQ s=true):s≠[]:=by
 rintro rfl;simp[zQ,Qg]at h
def zV(a:Str)(i:Nat):Str:=a++[91,UInt8.ofNat (48+i),93]
@[simp]def qn6{a i}:(zV a i).length=a.length+3:=by simp[zV]
def Kc{a b i j}(hi:i<8)(hj:j<8)(h:zV a i=zV b j):a=b/\i=j:=by
 obtain⟨h1,h2⟩:=List.append_inj' h rfl;refine⟨h1,?_⟩;simp only[qA3,true_and,and_true]at h2;have:=congrArg UInt8.toNat h2;simp only[UInt8.toNat_ofNat']at this;omega
def jm(s a:Str)(i:Nat):Prop:=i<8/\zQ a=true/\s=zV a i
def jm.unique{s a b i j}(h:jm s a i)(h':jm s b j):a=b/\i=j:=Kc h.1 h'.1 (h.2.2.symm.trans h'.2.2)
open Classical in
noncomputable def kj(s:Str):Option (Str×Nat):=if h:∃p:Str×Nat,jm s p.1 p.2 then some h.choose else none
def wU{s a i}(h:jm s a i):kj s=some (a,i):=by
 have hex:∃p:Str×Nat,jm s p.1 p.2:=⟨(a,i),h⟩;unfold kj;rw[dif_pos hex];obtain⟨h1,h2⟩:=hex.choose_spec.unique h;rw[<- h1,<- h2]
def yY{s a i}:kj s=some (a,i)↔jm s a i:=by
 constructor
 . intro h;unfold kj at h;split at h
   . rename_i hex;have:=hex.choose_spec
     rwa[Option.some.inj h]at this
   cases h
 exact wU
def yv{s}:kj s=none↔∀a i,¬jm s a i:=by
 constructor
 . intro h a i hi;rw[wU hi]at h;cases h
 intro h
 cases e:kj s with
 |none=>rfl
 |some p=>exact absurd (yY.1 (show kj s=some (p.1,p.2) from e)) (h _ _)
noncomputable def kq(s:Str):Bool:=zQ s||(kj s).isSome
def jP(s:Str):Str:=s.takeWhile (· != 91)
def Yc(s:Str):Str:=(s.dropWhile (· != 91)).tail
def qob{s}(h:s.contains 91=true):s=jP s++91::Yc s:=by
 unfold jP Yc
 induction s with
 |nil=>simp at h
 | cons c r ih=>
  by_cases hc:c=91
  . subst hc;simp
  have:r.contains 91=true:=by
   simp only[List.contains_cons,qA1,beq_iff_eq]at h;rcases h with h|h
   . exact absurd h.symm hc
   exact h
  have hb:(c != 91)=true:=by simpa using hc
  rw[qBT,List.dropWhile_cons,if_pos hb,if_pos hb,qy3,<- ih this]
def qf7{a:Str}{t:Str}(h:∀c∈a,c≠91):jP (a++91::t)=a:=by
 unfold jP
 induction a with
 |nil=>simp
 | cons c r ih=>
  have hb:(c != 91)=true:=by simpa using h c (by simp)
  rw[qy3,qBT,if_pos hb,ih fun x hx=>h x (by simp[hx])]
def qfq{a:Str}{t:Str}(h:∀c∈a,c≠91):Yc (a++91::t)=t:=by
 unfold Yc
 induction a with
 |nil=>simp
 | cons c r ih=>
  have hb:(c != 91)=true:=by simpa using h c (by simp)
  rw[qy3,List.dropWhile_cons,if_pos hb,ih fun x hx=>h x (by simp[hx])]
def qmt{a i}:(zV a i).contains 91=true:=by simp[zV]
def jm.has{s a i}(h:jm s a i):s.contains 91=true/\jP s=a/\Yc s=[UInt8.ofNat (48+i),93]:=by
 obtain⟨h1,h2,rfl⟩:=h;exact⟨qmt,qf7 (ww h2),qfq (ww h2)⟩
def YE{s}(h:s.contains 91=false):kj s=none:=by
 rw[yv];intro a i hi;rw[hi.has.1]at h;cases h
def qO{α:Type}(f:α->Int):List α->Int
 |[]=>0
 |a::r=>if f a=0 then qO f r else f a
def jQ{α f}:∀{l m:List α},qO f (l++m)=if qO f l=0 then qO f m else qO f l
 |[],m=>by simp[qO]
 | a::r,m=>by
  simp only[qy3,qO];split
  . exact jQ
  rename_i h;simp
def zz{α f}:∀{l:List α},qO f l=0↔∀a∈l,f a=0
 |[]=>by simp[qO]
 | a::r=>by
  simp only[qO,qy9,forall_eq_or_imp];split
  . rename_i h;simp[h,zz]
  rename_i h;simp[h]
noncomputable def jK(v:Var):Int :=
 if kq v.name=false then 7
 else if v.width<1\/8<v.width\/v.mode<0\/2<v.mode\/v.value<0\/(2:Int)^v.width.toNat<=v.value\/(v.mode≠0/\v.value≠0) then 1
 else 0
def vK(l:List Var)(name:Str):Bool:=l.any fun v=>v.name==name
def vO(l:List Var)(i:Nat):Bool:=match l[i]? with
 |some v=>vK (l.take i) v.name
 |none=>false
def qn8(l:List Var):Bool:=(List.range l.length).any (vO l)
open Classical in
noncomputable def Kv(l:List Var)(name:Str):Bool:=match kj name with
 |some (a,i+1)=>!vK l (zV a i)
 |_=>false
def j5:List Var->Int
 |[]=>0
 |v::r=>(if v.mode≠0 then v.width else 0)+j5 r
noncomputable def zW(l:List Var):Int :=
 if 16<l.length then 2
 else if qO jK l≠0 then qO jK l
 else if qn8 l=true then 8
 else if l.any (fun v=>Kv l v.name)=true then 10
 else if 20<j5 l then 2
 else 0
mutual
def Ex.ind{p:Ex->Prop}(h:∀e,(∀a∈e.args,p a)->p e):∀e,p e
 |.mk o n s a=>h _ (by simpa using Ex.indL h a)
def Ex.indL{p:Ex->Prop}(h:∀e,(∀a∈e.args,p a)->p e):∀(l:List Ex),∀a∈l,p a
 |[],_,hm=>by cases hm
 | e::r,a,hm=>by
  rcases qy9.1 hm with hm|hm
  . rw[hm];exact Ex.ind h e
  exact Ex.indL h r a hm
end
def qDa:=@Ex.ind
mutual
def pre:Ex->List Ex
 |.mk o n s a=>.mk o n s a::kK a
def kK:List Ex->List Ex
 |[]=>[]
 |e::r=>pre e++kK r
end
def ju(e):pre e=e::kK e.args:=by cases e;simp[pre]
@[simp]def qtV:kK []=[]:=by simp[kK]
@[simp]def ya{e r}:kK (e::r)=pre e++kK r:=by simp[kK]
def wL:∀{l m:List Ex},kK (l++m)=kK l++kK m
 |[],m=>by simp
 |e::r,m=>by simp[wL (l:=r),qze]
mutual
def hgt:Ex->Nat
 |.mk _ _ _ a=>Zr a+1
def Zr:List Ex->Nat
 |[]=>0
 |e::r=>max (hgt e) (Zr r)
end
def kR(e):hgt e=Zr e.args+1:=by cases e;simp[hgt]
@[simp]def ql9:Zr []=0:=by simp[Zr]
@[simp]def Zb{e r}:Zr (e::r)=max (hgt e) (Zr r):=by simp[Zr]
def qez{l e}(h:e∈l):hgt e<=Zr l:=by
 induction l with
 |nil=>cases h
 | cons a r ih=>
  rcases qy9.1 h with rfl|h
  . simp;omega
  have:=ih h;simp;omega
def qiz{e a}(h:a∈e.args):hgt a<hgt e:=by
 have:=qez h;rw[kR e];omega
def Q6{l x}:x∈kK l↔∃a∈l,x∈pre a:=by
 induction l with
 |nil=>simp
 |cons e r ih=>simp[ih]
def zm(op:Int):Int :=
 if op=1\/op=2\/op=24 then 0
 else if op=3\/op=4\/op=5\/op=6\/op=25 then 1
 else if op=22 then 3
 else if op=23 then -1
 else if op<1\/25<op then -1
 else 2
def qi(e:Ex):Bool :=
 if e.op=23 then decide (e.args.length%2=1/\3<=e.args.length/\e.args.length<=33)
 else decide ((e.args.length:Int)=zm e.op)
noncomputable def qp(e:Ex):Int :=
 if e.op<1\/25<e.op then 1
 else if(e.op=1/\(e.n<0\/65535<e.n))\/(e.op≠1/\e.n≠0) then 1
 else if(¬(e.op=2\/e.op=3\/e.op=24)/\e.name≠[])\/qi e=false then 1
 else if(e.op=2/\kq e.name=false)\/((e.op=3\/e.op=24)/\zQ e.name=false) then 7
 else 0
def KB(e:Ex):Int:=IntKind.i64.wrap (pre e).length
noncomputable def ze(e:Ex):Int :=
 if qO qp (pre e)=0/\(24<hgt e\/400<KB e) then 2 else qO qp (pre e)
def Kr(ops:List Int)(out:List Str)(e:Ex):List Str:=if ops.contains e.op&&!out.contains e.name then out++[e.name] else out
def zH(ops:List Int)(e:Ex):List Str:=(pre e).foldl (Kr ops) []
def qm9{ops out e s}:s∈Kr ops out e↔s∈out\/(ops.contains e.op=true/\s=e.name):=by
 unfold Kr;by_cases h1:e.op∈ops
 . by_cases h2:e.name∈out
   . simp only[qCs.2 h1,qCs.2 h2,qCz,qBE,qy4,if_false,true_and];constructor
     . exact .inl
     rintro(h|rfl)
     . exact h
     exact h2
   . simp[h1,h2]
 simp[h1]
def qbD{ops s}:∀{l:List Ex}{out:List Str},s∈l.foldl (Kr ops) out↔s∈out\/∃e∈l,ops.contains e.op=true/\s=e.name
 |[],out=>by simp
 | e::r,out=>by
  rw[qzm,qbD,qm9];simp only[qy9,exists_eq_or_imp];constructor
  . rintro((h|h)|h)
    . exact .inl h
    . exact .inr (.inl h)
    . exact .inr (.inr h)
  rintro(h|h|h)
  . exact .inl (.inl h)
  . exact .inl (.inr h)
  exact .inr h
def jO{ops e s}:s∈zH ops e↔∃x∈pre e,ops.contains x.op=true/\s=x.name:=by
 unfold zH;rw[qbD];simp
def Jq(e:Ex):Bool:=(pre e).any fun x=>decide (x.op=3\/x.op=24)
def QD(l:List Var)(e:Ex):Bool:=(pre e).any fun x=>decide (x.op=2)&&!vK l x.name
def Qe{e}:decide (0<(zH [3,24] e).length)=Jq e:=by
 rw[qzz,decide_eq_true_iff,List.length_pos_iff_exists_mem,Jq,qy8];constructor
 . rintro⟨s,hs⟩;obtain⟨x,h1,h2,_⟩:=jO.1 hs;exact⟨x,h1,by simpa using h2⟩
 rintro⟨x,h1,h2⟩;exact⟨x.name,jO.2 ⟨x,h1,by simpa using h2,rfl⟩⟩
def v8{l e}:(zH [2] e).any (fun s=>!vK l s)=QD l e:=by
 rw[qzz,QD,qy8,qy8];constructor
 . rintro⟨s,hs,h⟩;obtain⟨x,h1,h2,rfl⟩:=jO.1 hs;exact⟨x,h1,by simp only[qyJ,decide_eq_true_eq];exact⟨by simpa using h2,h⟩⟩
 rintro⟨x,h1,h2⟩;simp only[qyJ,decide_eq_true_eq]at h2;exact⟨x.name,jO.2 ⟨x,h1,by simpa using h2.1,rfl⟩,h2.2⟩
noncomputable def zi(l:List Var)(e:Ex):Int :=
 if ze e≠0 then ze e else if Jq e=true then 9 else if QD l e=true then 7 else 0
def yo(l:List Var)(i:Int):Bool:=decide (0<=i)&&(l[i.toNat]?).any fun v=>v.mode != 0
def zM(w:Weight):Bool:=decide (w.lo<0)||decide (w.hi<w.lo)||decide (65535<w.hi)||decide (w.weight<0)||decide (1000<w.weight)
def jE(l:List Var)(d:List Dist)(i:Nat):Int:=match d[i]? with
 |some x=>if yo l x.var=false then 1 else if(d.take i).any (fun y=>y.var==x.var)=true then 8 else if 16<x.weights.length then 2 else if x.weights.any zM=true then 1 else 0
 |none=>0
def yi(l:List Var)(d:List Dist):Int:=qO (jE l d) (List.range d.length)
def jR(l:List Var)(g:List (List Int)):Prop:=(∀x∈g,x≠[])/\(∀i∈g.flatten,yo l i=true)/\g.flatten.Nodup/\∀i:Nat,i<l.length->yo l i=true->(i:Int)∈g.flatten
open Classical in
noncomputable def zy(l:List Var)(g:List (List Int)):Int:=if jR l g then 0 else 1
noncomputable def qk(p:Problem):Int :=
 if zW p.vars≠0 then zW p.vars
 else if qO (zi p.vars) (p.hard++p.soft)≠0 then qO (zi p.vars) (p.hard++p.soft)
 else if yi p.vars p.dists≠0 then yi p.vars p.dists
 else zy p.vars p.groups
def zE(l:List Var)(i:Nat):Int:=match l[i]? with
 |some v=>v.width
 |none=>0
end Go.Proofs.YtfmdnopgncbmoaaGreatDoor
namespace Go.Abs
open Go Go.RowKit
def qj2(P:Program)(rs:List ResultVar)(Q:AV->St->Prop)(env:Env)(U:St):Prop :=
 match qdX (Dof P) rs env U with
 |some l=>Q (KT l) U
 |none=>False
def qb6(P:Program)(rs:List ResultVar)(Q:AV->St->Prop):Exit->Env->St->Prop
 |.ret,env,U=>qj2 P rs Q env U
 |.normal,env,U=>qj2 P rs Q env U
 |_,_,_=>False
attribute [simp] qj2 qb6
section
variable {P:Program}{G:Glo}{U:St}{f:FuncId}{args:List AV}{Q:AV->St->Prop}
def qf.vcO {fn c} (o) (hm : P.follows .mixedOrders = true) (hf : P.funcs[f]? = some fn) (hb : fn.body = some c) (hk : (jC fn.ntmps o c && decide (args.length ≤ fn.ntmps) && fn.name != "runtime.NumGoroutine") = true)
 (h:vcC P G o c (ZQ args) U (qb6 P fn.results.toList Q)):qf P G f args U Q:=by
 simp only[qyJ,decide_eq_true_eq,bne_iff_ne,ne_eq]at hk;refine qf.of_body hf hb hk.2 hk.1.2 (AWp.mono (j7 hm c hk.1.1 h) fun e env U hq=>?_);have key:qj2 P fn.results.toList Q env U->∃l,qdX (Dof P) fn.results.toList env U=some l/\Q (KT l) U:=fun h=>by
  unfold qj2 at h;split at h
  . rename_i l hl;exact⟨l,hl,h⟩
  exact h.elim
 cases e with
 |ret=>exact⟨.inl rfl,key hq⟩
 |normal=>exact⟨.inr rfl,key hq⟩
 |_=>exact hq.elim
def qf.vc {fn c} (hm : P.follows .mixedOrders = true) (hf : P.funcs[f]? = some fn) (hb : fn.body = some c) (hk : (jC fn.ntmps o0 c && decide (args.length ≤ fn.ntmps) && fn.name != "runtime.NumGoroutine") = true)
 (h:vcC P G o0 c (ZQ args) U (qb6 P fn.results.toList Q)):qf P G f args U Q:=qf.vcO o0 hm hf hb hk h
end
end Go.Abs
namespace Go.Proofs.YtfmdnopgncbmoaaGreatDoor
open Go Go.Abs Tryz Go.RowKit
def QU{S:Type}(stp:S->Ex->S×Bool):S->List Ex->S×Bool
 |s,[]=>(s,true)
 |s,e::r=>if(stp s e).2=true then QU stp (stp s e).1 r else((stp s e).1,false)
def Yk{S}{stp:S->Ex->S×Bool}:∀{s:S}{l m:List Ex},QU stp s (l++m)=if(QU stp s l).2=true then QU stp (QU stp s l).1 m else QU stp s l
 |s,[],m=>by simp[QU]
 | s,e::r,m=>by
  simp only[qy3,QU];split
  . exact Yk
  simp
def Yj{S}{stp:S->Ex->S×Bool}(h:∀s e,(stp s e).2=true):∀(s:S) (l),QU stp s l=(l.foldl (fun s e=>(stp s e).1) s,true)
 |s,[]=>rfl
 |s,e::r=>by simp only[QU,h,if_true,qzm];exact Yj h _ r
def K9{f}:∀(s) (l),(QU (fun _ e=>(f e,f e==0)) s l).1=if l=[] then s else qO f l
 |s,[]=>rfl
 | s,e::r=>by
  simp only[QU,qO,beq_iff_eq,reduceCtorEq,if_false];by_cases h:f e=0
  . rw[if_pos h,if_pos h,K9];split
    . rename_i hr;subst hr;simp[qO,h]
    rfl
  rw[if_neg h,if_neg h]
def qdv{m n}:IntKind.i64.wrap (IntKind.i64.wrap m+n)=IntKind.i64.wrap (m+n):=by
 simp[IntKind.wrap,IntKind.bits,IntKind.signed];omega
def Wx{n}:∀(l:List Ex),l.foldl (fun s _=>IntKind.i64.wrap (s+1)) (IntKind.i64.wrap n)=IntKind.i64.wrap (n+l.length)
 |[]=>by simp
 | e::r=>by
  rw[qzm,qdv,Wx r];congr 1;simp;omega
def kU{l g}(h:[]∈g):¬jR l g:=fun⟨h1,_⟩=>h1 _ h rfl
def Ww{l g i}(h:i∈g.flatten)(hr:yo l i=false):¬jR l g:=fun⟨_,h2,_⟩=>by
 have:=h2 i h;rw[hr]at this;cases this
def qf8{l g i done rest}(h:g.flatten=done++i::rest)(hi:i∈done):¬jR l g:=fun⟨_,_,h3,_⟩=>by
 rw[h,qz3]at h3;exact h3.2.2 i hi i (by simp) rfl
def qcZ{l:List Var}{g:List (List Int)}{i:Nat}(hi:i<l.length)(hr:yo l i=true)(h:(i:Int)∉g.flatten):¬jR l g:=fun⟨_,_,_,h4⟩=>h (h4 i hi hr)
def Zy{l i}(h:yo l i=true):0<=i/\i<l.length:=by
 simp only[yo,qyJ,decide_eq_true_eq]at h;obtain⟨h0,h1⟩:=h;refine⟨h0,?_⟩;apply Classical.byContradiction;intro hn;rw[qy6 (by omega)]at h1;simp at h1
def qbu{l g}(h1:∀x∈g,x≠[])(h2:∀i∈g.flatten,0<=i/\i<(l.length:Int)):
 jR l g↔∀i:Nat,i<l.length->g.flatten.count (i:Int)=if yo l i=true then 1 else 0:=by
 constructor
 . rintro⟨_,k2,k3,k4⟩ i hi;split
   . rename_i hr;have:=List.nodup_iff_count.1 k3 (i:Int);have:=qBZ.2 (k4 i hi hr);omega
   rename_i hr;apply List.count_eq_zero.2;intro hm;exact hr (k2 _ hm)
 intro h;have cnt:∀i∈g.flatten,g.flatten.count i=1/\yo l i=true:=by
  intro i hi;obtain⟨a,b⟩:=h2 i hi;have hc:=h i.toNat (by omega);rw[show((i.toNat:Nat):Int)=i by omega]at hc;have:=qBZ.2 hi;split at hc
  . rename_i hr;exact⟨hc,hr⟩
  omega
 refine⟨h1,fun i hi=>(cnt i hi).2,?_,?_⟩
 . rw[List.nodup_iff_count];intro i;by_cases hi:i∈g.flatten
   . rw[(cnt i hi).1];exact qyQ _
   rw[List.count_eq_zero.2 hi];omega
 intro i hi hr;have hc:=h i hi;rw[if_pos hr]at hc;exact qBZ.1 (by omega)
mutual
def yh:Ex->Int->Int
 |.mk _ _ _ a,d=>kN a d 1
def kN:List Ex->Int->Int->Int
 |[],_,n=>n
 |x::r,d,n=>if n<100/\d<30 then kN r d (IntKind.i64.wrap (n+yh x (IntKind.i64.wrap (d+1)))) else n
end
def qa9(e d):yh e d=kN e.args d 1:=by cases e;simp[yh]
@[simp]def qfQ{d n}:kN [] d n=n:=by simp[kN]
@[simp]def YD{x r d n}:kN (x::r) d n=if n<100/\d<30 then kN r d (IntKind.i64.wrap (n+yh x (IntKind.i64.wrap (d+1)))) else n:=by simp[kN]
mutual
def je:Ex->Nat->Bool
 |.mk o n s a,d=>if 25<d\/(d=0/\60<yh (.mk o n s a) 0) then false else Zo a (d+1)
def Zo:List Ex->Nat->Bool
 |[],_=>true
 |x::r,d=>je x d&&Zo r d
end
def Ki(e d):je e d=if 25<d\/(d=0/\60<yh e 0) then false else Zo e.args (d+1):=by cases e;simp[je]
@[simp]def qrs{d}:Zo [] d=true:=by simp[Zo]
@[simp]def qqG{x r d}:Zo (x::r) d=(je x d&&Zo r d):=by simp[Zo]
def ZZ{l d}:Zo l d=l.all fun x=>je x d:=by
 induction l with
 |nil=>simp
 |cons x r ih=>simp[ih]
def qbV:∀(e) (d),je e d=true->hgt e+d<=26:=by
 refine qDa fun e ih d h=>?_
 rw[Ki]at h;split at h
 . cases h
 rename_i hd;rw[kR];have:∀(l:List Ex),(∀x∈l,je x (d+1)=true)->(∀x∈l,x∈e.args)->Zr l+(d+1)<=26:=by
  intro l
  induction l with
  |nil=>intro _ _;simp;omega
  | cons x r ihl=>
   intro h1 h2;have a1:=ih x (h2 x (by simp)) (d+1) (h1 x (by simp));have a2:=ihl (fun y hy=>h1 y (by simp[hy])) (fun y hy=>h2 y (by simp[hy]));simp;omega
 rw[ZZ,qyP]at h;have:=this e.args h (fun _ h=>h);omega
def jA(p:Problem):Bool :=
 !(decide (20<p.vars.length)||decide (20<p.hard.length)||decide (20<p.soft.length)||decide (20<p.dists.length)||decide (20<p.groups.length)) &&
 p.hard.all (je · 0)&&p.soft.all (je · 0)&&p.dists.all (fun d=>decide (d.weights.length<=20))&&p.groups.all (fun g=>decide (g.length<=20))
def GG(g:Nat):AV:=match g with
 |2=>.rptr [.sl 1 (qcd.map z8) .none]
 |_=>.any
section
variable (G:Nat->AV)
def qsS(l:List Str)(s:Str)(hl:Fits l):Pure prog G 285 [.sl 1 (l.map z8) .none,.str s] (.bool (l.any (· == s))):=by
 refine qDb qe func285 rfl (by kernel_rfl) ?_;simp;refine qC9 (fun n env U=>∃i,i<=l.length/\n=l.length-i/\env 0=.sl 1 (l.map z8) .none/\env 1=.str s/\env 5=.int .i64 i/\U=⟨[],[]⟩/\l.any (· == s)=(l.drop i).any (· == s)) l.length ⟨0,by simp⟩ ?_;rintro n env U ⟨i,hi,rfl,h0,h1,h5,rfl,hf⟩
 cases hv:l[i]? with
 | some v=>
  obtain⟨hc,hv'⟩:=qyF.1 hv;rw[zA hv]at hf;by_cases he:v=s
  . subst he;simp[h0,h1,h5,hc,hv',hf]
  have he':(v==s)=false:=by simpa using he
  simp[h0,h1,h5,hc,hv',he];refine⟨_,by omega,i+1,by omega,rfl,wr (by omega) (by omega),?_⟩;rw[hf,qAS,he',qBf]
 | none=>
  have hc:¬i<l.length:=by simp at hv;omega
  have hd:l.drop i=[]:=by simp;omega
  have hz:∀x∈l,¬x=s:=by
   intro x hx e;have:l.any (· == s)=true:=qy8.2 ⟨x,hx,by simp[e]⟩;rw[hf,hd]at this;cases this
  simp[h0,h5,hc];exact hz
def qeA(l:List Str)(s:Str)(hl:Fits l):Pure prog G 229 [.sl 1 (l.map z8) .none,.str s] (.bool (l.any (· == s))):=by
 refine qDb qe func229 rfl (by kernel_rfl) ?_;simp;refine qC9 (fun n env U=>∃i,i<=l.length/\n=l.length-i/\env 0=.sl 1 (l.map z8) .none/\env 1=.str s/\env 5=.int .i64 i/\U=⟨[],[]⟩/\l.any (· == s)=(l.drop i).any (· == s)) l.length ⟨0,by simp⟩ ?_;rintro n env U ⟨i,hi,rfl,h0,h1,h5,rfl,hf⟩
 cases hv:l[i]? with
 | some v=>
  obtain⟨hc,hv'⟩:=qyF.1 hv;rw[zA hv]at hf;by_cases he:v=s
  . subst he;simp[h0,h1,h5,hc,hv',hf]
  have he':(v==s)=false:=by simpa using he
  simp[h0,h1,h5,hc,hv',he];refine⟨_,by omega,i+1,by omega,rfl,wr (by omega) (by omega),?_⟩;rw[hf,qAS,he',qBf]
 | none=>
  have hc:¬i<l.length:=by simp at hv;omega
  have hd:l.drop i=[]:=by simp;omega
  have hz:∀x∈l,¬x=s:=by
   intro x hx e;have:l.any (· == s)=true:=qy8.2 ⟨x,hx,by simp[e]⟩;rw[hf,hd]at this;cases this
  simp[h0,h5,hc];exact hz
def ql7(l:List Str)(s:Str)(hl:Fits l):Pure prog G 310 [.sl 1 (l.map z8) .none,.str s] (.int .i64 (zu (fun v=>s==v) l 0)):=by
 refine qDb qe func310 rfl (by kernel_rfl) ?_;simp;refine qC9 (fun n env U=>∃i,i<=l.length/\n=l.length-i/\env 0=.sl 1 (l.map z8) .none/\env 1=.str s/\env 7=.int .i64 l.length/\env 8=.int .i64 i/\U=⟨[],[]⟩/\zu (fun v=>s==v) l 0=zu (fun v=>s==v) (l.drop i) i) l.length ⟨0,by simp⟩ ?_;rintro n env U ⟨i,hi,rfl,h0,h1,h7,h8,rfl,hf⟩
 cases hv:l[i]? with
 | some v=>
  obtain⟨hc,hv'⟩:=qyF.1 hv;rw[zA hv]at hf;by_cases he:s=v
  . subst he;simp[h0,h1,h7,h8,hc,hv',hf,zu]
  have he':(s==v)=false:=by simpa using he
  simp[h0,h1,h7,h8,hc,hv',he];refine⟨_,by omega,i+1,by omega,rfl,wr (by omega) (by omega),?_⟩;rw[hf,zu,he'];simp
 | none=>
  have hc:¬i<l.length:=by simp at hv;omega
  have hd:l.drop i=[]:=by simp;omega
  simp[h0,h7,h8,hc,hf,hd,zu]
def QG(l:List Str)(s:Str)(hl:Fits l):Pure prog G 270 [.sl 1 (l.map z8) .none,.str s] (.bool (l.any (fun v=>s==v))):=by
 refine qDb qe func270 rfl (by kernel_rfl) ?_;simp;refine qCW (ql7 G l s hl) (by simp) ?_;simp
def ql5(l s)(hl:Fits l):Pure prog G 309 [.sl 1 (l.map qq) .none,.int .i64 s] (.int .i64 (zu (fun v=>s==v) l 0)):=by
 refine qDb qe func309 rfl (by kernel_rfl) ?_;simp;refine qC9 (fun n env U=>∃i,i<=l.length/\n=l.length-i/\env 0=.sl 1 (l.map qq) .none/\env 1=.int .i64 s/\env 7=.int .i64 l.length/\env 8=.int .i64 i/\U=⟨[],[]⟩/\zu (fun v=>s==v) l 0=zu (fun v=>s==v) (l.drop i) i) l.length ⟨0,by simp⟩ ?_;rintro n env U ⟨i,hi,rfl,h0,h1,h7,h8,rfl,hf⟩
 cases hv:l[i]? with
 | some v=>
  obtain⟨hc,hv'⟩:=qyF.1 hv;rw[zA hv]at hf;by_cases he:s=v
  . subst he;simp[h0,h1,h7,h8,hc,hv',hf,zu]
  have he':(s==v)=false:=by simpa using he
  simp[h0,h1,h7,h8,hc,hv',he];refine⟨_,by omega,i+1,by omega,rfl,wr (by omega) (by omega),?_⟩;rw[hf,zu,he'];simp
 | none=>
  have hc:¬i<l.length:=by simp at hv;omega
  have hd:l.drop i=[]:=by simp;omega
  simp[h0,h7,h8,hc,hf,hd,zu]
def qdc(l s)(hl:Fits l):Pure prog G 269 [.sl 1 (l.map qq) .none,.int .i64 s] (.bool (l.any (fun v=>s==v))):=by
 refine qDb qe func269 rfl (by kernel_rfl) ?_;simp;refine qCW (ql5 G l s hl) (by simp) ?_;simp
def qc4(l:List Var)(s:Str)(hl:Fits l):Pure prog G 69 [.sl 4 (l.map qD) .none,.str s] (.int .i64 (zu (fun v=>v.name==s) l 0)):=by
 refine qDb qe func69 rfl (by kernel_rfl) ?_;simp;refine qC9 (fun n env U=>∃i,i<=l.length/\n=l.length-i/\env 0=.sl 4 (l.map qD) .none/\env 1=.str s/\env 5=.int .i64 i/\U=⟨[],[]⟩/\zu (fun v=>v.name==s) l 0=zu (fun v=>v.name==s) (l.drop i) i) l.length ⟨0,by simp⟩ ?_;rintro n env U ⟨i,hi,rfl,h0,h1,h5,rfl,hf⟩
 cases hv:l[i]? with
 | some v=>
  obtain⟨hc,hv'⟩:=qyF.1 hv;rw[zA hv]at hf;by_cases he:v.name=s
  . subst he;simp[h0,h1,h5,hc,hv',hf,zu]
  have he':(v.name==s)=false:=by simpa using he
  simp[h0,h1,h5,hc,hv',he];refine⟨_,by omega,i+1,by omega,rfl,wr (by omega) (by omega),?_⟩;rw[hf,zu,he'];simp
 | none=>
  have hc:¬i<l.length:=by simp at hv;omega
  have hd:l.drop i=[]:=by simp;omega
  simp[h0,h5,hc,hf,hd,zu]
end
def Jj(G l p f first cap)(hl:Fits l)(h1:qx first=true)(h2:qx cap=true)
 (hp:∀v∈l,Pure prog G f (first++[.agg (qD v)]++cap) (.bool (p v))):Pure prog G 207 [.sl 4 (l.map qD) .none,.fn f first cap] (.int .i64 (zu p l 0)):=by
 refine qDb qe func207 rfl (by kernel_rfl) ?_;simp;refine qC9 (fun n env U=>∃i,i<=l.length/\n=l.length-i/\env 0=.sl 4 (l.map qD) .none/\env 1=.fn f first cap/\env 7=.int .i64 l.length/\env 8=.int .i64 i/\U=⟨[],[]⟩/\zu p l 0=zu p (l.drop i) i) l.length ⟨0,by simp⟩ ?_;rintro n env U ⟨i,hi,rfl,h0,h1',h7,h8,rfl,hf⟩
 cases hv:l[i]? with
 | some v=>
  obtain⟨hc,hv'⟩:=qyF.1 hv;rw[zA hv]at hf;simp[h0,h1',h7,h8,hc,hv',hf];refine qCW (r:=.bool (p v)) (by simpa using hp v (qyG hv)) (by simp[yb,h1,h2]) ?_;simp[h0,h1',h7,h8,zu];refine⟨fun e=>by simp[e],fun e=>⟨_,by omega,i+1,by omega,rfl,wr (by omega) (by omega),by simp[e]⟩⟩
 | none=>
  have hc:¬i<l.length:=by simp at hv;omega
  have hd:l.drop i=[]:=by simp;omega
  simp[h0,h7,h8,hc,hf,hd,zu]
def vP(G l p f first cap)(hl:Fits l)(h1:qx first=true)(h2:qx cap=true)
 (hp:∀v∈l,Pure prog G f (first++[.agg (qD v)]++cap) (.bool (p v))):Pure prog G 143 [.sl 4 (l.map qD) .none,.fn f first cap] (.bool (l.any p)):=by
 refine qDb qe func143 rfl (by kernel_rfl) ?_;simp;refine qCW (Jj G l p f first cap hl h1 h2 hp) (by simp[h1,h2]) ?_;simp
def Vr(G l p f first cap)(hl:Fits l)(h1:qx first=true)(h2:qx cap=true)
 (hp:∀v∈l,Pure prog G f (first++[.agg (zF v)]++cap) (.bool (p v))):Pure prog G 212 [.sl 2 (l.map zF) .none,.fn f first cap] (.int .i64 (zu p l 0)):=by
 refine qDb qe func212 rfl (by kernel_rfl) ?_;simp;refine qC9 (fun n env U=>∃i,i<=l.length/\n=l.length-i/\env 0=.sl 2 (l.map zF) .none/\env 1=.fn f first cap/\env 7=.int .i64 l.length/\env 8=.int .i64 i/\U=⟨[],[]⟩/\zu p l 0=zu p (l.drop i) i) l.length ⟨0,by simp⟩ ?_;rintro n env U ⟨i,hi,rfl,h0,h1',h7,h8,rfl,hf⟩
 cases hv:l[i]? with
 | some v=>
  obtain⟨hc,hv'⟩:=qyF.1 hv;rw[zA hv]at hf;simp[h0,h1',h7,h8,hc,hv',hf];refine qCW (r:=.bool (p v)) (by simpa using hp v (qyG hv)) (by simp[yb,h1,h2]) ?_;simp[h0,h1',h7,h8,zu];refine⟨fun e=>by simp[e],fun e=>⟨_,by omega,i+1,by omega,rfl,wr (by omega) (by omega),by simp[e]⟩⟩
 | none=>
  have hc:¬i<l.length:=by simp at hv;omega
  have hd:l.drop i=[]:=by simp;omega
  simp[h0,h7,h8,hc,hf,hd,zu]
def JC(G l p f first cap)(hl:Fits l)(h1:qx first=true)(h2:qx cap=true)
 (hp:∀v∈l,Pure prog G f (first++[.agg (zF v)]++cap) (.bool (p v))):Pure prog G 151 [.sl 2 (l.map zF) .none,.fn f first cap] (.bool (l.any p)):=by
 refine qDb qe func151 rfl (by kernel_rfl) ?_;simp;refine qCW (Vr G l p f first cap hl h1 h2 hp) (by simp[h1,h2]) ?_;simp
def qbr(G l p f first cap)(hl:Fits l)(h1:qx first=true)(h2:qx cap=true)
 (hp:∀v∈l,Pure prog G f (first++[.str v]++cap) (.bool (p v))):Pure prog G 211 [.sl 1 (l.map z8) .none,.fn f first cap] (.int .i64 (zu p l 0)):=by
 refine qDb qe func211 rfl (by kernel_rfl) ?_;simp;refine qC9 (fun n env U=>∃i,i<=l.length/\n=l.length-i/\env 0=.sl 1 (l.map z8) .none/\env 1=.fn f first cap/\env 7=.int .i64 l.length/\env 8=.int .i64 i/\U=⟨[],[]⟩/\zu p l 0=zu p (l.drop i) i) l.length ⟨0,by simp⟩ ?_;rintro n env U ⟨i,hi,rfl,h0,h1',h7,h8,rfl,hf⟩
 cases hv:l[i]? with
 | some v=>
  obtain⟨hc,hv'⟩:=qyF.1 hv;rw[zA hv]at hf;simp[h0,h1',h7,h8,hc,hv',hf];refine qCW (r:=.bool (p v)) (by simpa using hp v (qyG hv)) (by simp[yb,h1,h2]) ?_;simp[h0,h1',h7,h8,zu];refine⟨fun e=>by simp[e],fun e=>⟨_,by omega,i+1,by omega,rfl,wr (by omega) (by omega),by simp[e]⟩⟩
 | none=>
  have hc:¬i<l.length:=by simp at hv;omega
  have hd:l.drop i=[]:=by simp;omega
  simp[h0,h7,h8,hc,hf,hd,zu]
def Ke(G l p f first cap)(hl:Fits l)(h1:qx first=true)(h2:qx cap=true)
 (hp:∀v∈l,Pure prog G f (first++[.str v]++cap) (.bool (p v))):Pure prog G 148 [.sl 1 (l.map z8) .none,.fn f first cap] (.bool (l.any p)):=by
 refine qDb qe func148 rfl (by kernel_rfl) ?_;simp;refine qCW (qbr G l p f first cap hl h1 h2 hp) (by simp[h1,h2]) ?_;simp
def vJ(G l p f first cap)(hl:Fits l)(h1:qx first=true)(h2:qx cap=true)
 (hp:∀v∈l,Pure prog G f (first++[.agg (qC v)]++cap) (.bool (p v))):Pure prog G 200 [.sl 4 (l.map qC) .none,.fn f first cap] (.int .i64 (zu p l 0)):=by
 refine qDb qe func200 rfl (by kernel_rfl) ?_;simp;refine qC9 (fun n env U=>∃i,i<=l.length/\n=l.length-i/\env 0=.sl 4 (l.map qC) .none/\env 1=.fn f first cap/\env 7=.int .i64 l.length/\env 8=.int .i64 i/\U=⟨[],[]⟩/\zu p l 0=zu p (l.drop i) i) l.length ⟨0,by simp⟩ ?_;rintro n env U ⟨i,hi,rfl,h0,h1',h7,h8,rfl,hf⟩
 cases hv:l[i]? with
 | some v=>
  obtain⟨hc,hv'⟩:=qyF.1 hv;rw[zA hv]at hf;simp[h0,h1',h7,h8,hc,hv',hf];refine qCW (r:=.bool (p v)) (by simpa using hp v (qyG hv)) (by simp[yb,h1,h2]) ?_;simp[h0,h1',h7,h8,zu];refine⟨fun e=>by simp[e],fun e=>⟨_,by omega,i+1,by omega,rfl,wr (by omega) (by omega),by simp[e]⟩⟩
 | none=>
  have hc:¬i<l.length:=by simp at hv;omega
  have hd:l.drop i=[]:=by simp;omega
  simp[h0,h7,h8,hc,hf,hd,zu]
def Zk(G l p f first cap)(hl:Fits l)(h1:qx first=true)(h2:qx cap=true)
 (hp:∀v∈l,Pure prog G f (first++[.agg (qC v)]++cap) (.bool (p v))):Pure prog G 213 [.sl 4 (l.map qC) .none,.fn f first cap] (.bool (l.any p)):=by
 refine qDb qe func213 rfl (by kernel_rfl) ?_;simp;refine qCW (vJ G l p f first cap hl h1 h2 hp) (by simp[h1,h2]) ?_;simp
section
variable (G:Nat->AV)
def Vl(n):Pure prog G 305 [.int .i32 n] (.bool (kQ n)):=by
 refine qDb qe func305 rfl (by kernel_rfl) ?_;by_cases h1:97<=n<;>by_cases h2:n<=122<;>simp[kQ,h1,h2]
def qmz(n):Pure prog G 324 [.int .i32 n] (.bool (Jm n)):=by
 refine qDb qe func324 rfl (by kernel_rfl) ?_;by_cases h1:48<=n<;>by_cases h2:n<=57<;>simp[Jm,h1,h2]
def qdT(n):Pure prog G 224 [.int .u8 n] (.bool (kQ n)):=by
 refine qDb qe func224 rfl (by kernel_rfl) ?_;by_cases h1:97<=n<;>by_cases h2:n<=122<;>simp[kQ,h1,h2]
def qmA(n):Pure prog G 287 [.int .u8 n] (.bool (Jm n)):=by
 refine qDb qe func287 rfl (by kernel_rfl) ?_;by_cases h1:48<=n<;>by_cases h2:n<=57<;>simp[Jm,h1,h2]
def ZL(n):Pure prog G 306 [.int .i32 n] (.bool (ke n)):=by
 refine qDb qe func306 rfl (by kernel_rfl) ?_;simp;refine qCW (Vl G n) rfl ?_;cases hl:kQ n
 . simp;refine qCW (qmz G n) rfl ?_;cases hd:Jm n
   . by_cases h1:65<=n<;>by_cases h2:n<=90<;>by_cases h3:n=95<;>simp[ke,hl,hd,h1,h2,h3]
   simp[ke,hl,hd]
 simp[ke,hl]
def ql4(n):Pure prog G 226 [.int .u8 n] (.bool (ke n)):=by
 refine qDb qe func226 rfl (by kernel_rfl) ?_;simp;refine qCW (qdT G n) rfl ?_;cases hl:kQ n
 . simp;refine qCW (qmA G n) rfl ?_;cases hd:Jm n
   . by_cases h1:65<=n<;>by_cases h2:n<=90<;>by_cases h3:n=95<;>simp[ke,hl,hd,h1,h2,h3]
   simp[ke,hl,hd]
 simp[ke,hl]
end
section
variable (G:Nat->AV)
def qtl{s:Str}{pos}(h:pos<s.length)(hl:(s[pos]).toNat<128):Utf8.decode ⟨s.toArray⟩ pos=((s[pos]).toNat,1):=by
 have:=Go.decode_ascii ⟨s.toArray⟩ pos (by simpa[ByteArray.size] using h) hl;exact this
def qtm{s:Str}{pos}(h:pos<s.length)(hl:128<=(s[pos]).toNat):128<=(Utf8.decode ⟨s.toArray⟩ pos).1:=by
 have:=Go.decode_high ⟨s.toArray⟩ pos (by simpa[ByteArray.size] using h) hl;exact this.1
def qbq{n}(h:128<=n):ke n=false:=by
 simp[ke,kQ,Jm];omega
def QO{s}{c:UInt8}(h:c∈s)(hc:Za c=false):Qg s=false:=by
 cases s with
 |nil=>cases h
 | cons a r=>
  have:(a::r).all Za=false:=by
   rw[qzT];intro e;rw[qyP.1 e c h]at hc;cases hc
  simp only[Qg,this,qBE]
def qe6{c:UInt8}{r:Str}(h:kQ c.toNat=false):Qg (c::r)=false:=by simp[Qg,h]
def qoy(s:Str):Pure prog G 264 [.str s] (.bool (Qg s)):=by
 refine qDb qe func264 rfl (by kernel_rfl) ?_;simp;refine qC9 (fun n env U=>∃pos,pos<=s.length/\n=s.length-pos/\env 0=.str s/\env 6=.iter 0/\U=⟨[.siter s pos],[]⟩/\(∀c∈s.take pos,Za c=true)/\(0<pos->∀c r,s=c::r->kQ c.toNat=true)) s.length ⟨0,by simp⟩ ?_;rintro n env U ⟨pos,hp,rfl,h0,h6,rfl,hall,hlow⟩;by_cases hlt:pos<s.length
 . have hmem:=qAV hlt;by_cases hc:(s[pos]).toNat<128
   . have hd:=qtl hlt hc;have more:Za s[pos]=true->∀c∈s.take (pos+1),Za c=true:=by
      intro hi c hcm;rw[show s.take (pos+1)=s.take pos++[s[pos]] by rw[qzb,qyH hlt];rfl,qy0]at hcm;rcases hcm with hcm|hcm
      . exact hall c hcm
      rwa[qzh.1 hcm]
     rcases qzV pos with rfl|hpos
     . simp[h0,h6,Vg,hlt,hd];refine qCW (Vl G _) rfl ?_;cases hl:kQ (s[0].toNat:Int)
       . cases s with
         |nil=>simp at hlt
         |cons c r=>simpa using qe6 hl
       simp;refine qCW (ZL G _) rfl ?_;cases hi:ke (s[0].toNat:Int)
       . simpa using QO hmem hi
       simp[h0,h6];refine⟨_,by omega,1,by omega,rfl,rfl,more hi,fun _ c r e=>by subst e;exact hl⟩
     have hne:¬pos=0:=(by omega);simp[h0,h6,Vg,hlt,hd,hne];refine qCW (ZL G _) rfl ?_;cases hi:ke (s[pos].toNat:Int)
     . simpa using QO hmem hi
     simp[h0,h6];refine⟨_,by omega,pos+1,by omega,rfl,rfl,more hi,fun _=>hlow hpos⟩
   have hd:=qtm hlt (by omega);have hi:=qbq (n:=((Utf8.decode ⟨s.toArray⟩ pos).1:Int)) (by omega);have hl:kQ ((Utf8.decode ⟨s.toArray⟩ pos).1:Int)=false:=by
    simp only[ke,qBS]at hi;exact hi.1.1.1
   have hb:=QO hmem (qbq (n:=(s[pos].toNat:Int)) (by omega));rcases qzV pos with rfl|hpos
   . simp[h0,h6,Vg,hlt];refine qCW (Vl G _) rfl ?_;simpa[hl] using hb
   have hne:¬pos=0:=(by omega);simp[h0,h6,Vg,hlt,hne];refine qCW (ZL G _) rfl ?_;simpa[hi] using hb
 have he:pos=s.length:=by omega
 subst he
 cases s with
 |nil=>simp[h0,h6,Vg,Qg]
 | cons c r=>
  have h1:Qg (c::r)=true:=by
   simp only[Qg,qyJ];exact⟨hlow (by simp) c r rfl,qyP.2 fun x hx=>hall x (by simpa using hx)⟩
  simp[h0,h6,Vg,h1]
end
def qmQ(s c w):
 Calls prog 325 #[.string s,.int .u8 c] w fun e w'=>e=.returned (.int .i64 (Lib.indexByte s.data.toList c.toNat.toUInt8))/\w'=w:=by
 have t3:=underlying3;have t5:=underlying5;have t9:=underlying9
 go_enter func325,Tryz.ntmps325
 go_wp2
 rw[run_callFunc_extern func330 (by kernel_rfl) (by kernel_rfl) (by kernel_rfl) (e:=Extern.BytealgIndexByte.indexByte) (by kernel_rfl),Lib.run_indexByteString];simp only[Result.andThen];rw[Oper.upon_value]
 go_wp2
 go_ret
 exact⟨rfl,rfl⟩
def qbs(G:Nat->AV)(s:Str)(c:Int):Pure prog G 325 [.str s,.int .u8 c] (.int .i64 (Lib.indexByte s c.toNat.toUInt8)):=by
 refine⟨by kernel_rfl,fun w0 ro vs hg hro hvs=>?_⟩;simp only[qh,qg]at hvs;obtain⟨v,vr,e1,rfl,v2,vr2,rfl,rfl,rfl⟩:=hvs;have:vs = #[.string ⟨s.toArray⟩,.int .u8 c]:=by rw[<- qAO (xs:=vs),e1]
 subst this;refine(qmQ _ _ _).mono ?_;rintro e w' ⟨rfl,rfl⟩;exact⟨_,ro,rfl,.refl _ _,fun _ _ _ h=>h,hro,fun _ _ _ h _=>h,by simp[qg]⟩
def qlR(s):qcd.any (fun v=>s==v)=qcd.contains s:=by
 rw[List.any_beq]
def qim(s):qcd.any (fun v=>v==s)=qcd.contains s:=by
 rw[List.any_beq']
def qpZ(s:Str):Pure prog GG 265 [.str s] (.bool (qcd.contains s)):=by
 refine qDb qe func265 rfl (by kernel_rfl) ?_;simp[GG];refine qCW (QG GG qcd s (by decide)) rfl ?_;rw[qlR];simp
def vI(s:Str):Pure prog GG 204 [.str s] (.bool (zQ s)):=by
 refine qDb qe func204 rfl (by kernel_rfl) ?_;simp;refine qCW (qoy GG s) rfl ?_;cases h1:Qg s
 . simp[zQ,h1]
 by_cases h2:s.length<=16
 . have h2':(s.length:Int)<=16:=(by omega);simp[h2'];refine qCW (qpZ s) rfl ?_;simp[zQ,h1,h2]
 have h2':¬(s.length:Int)<=16:=by omega
 simp[zQ,h1,h2,h2']
def qcV:Pure prog GG 286 [] (.sl 1 (qcd.map z8) .none):=by
 refine qDb qe func286 rfl (by kernel_rfl) ?_;simp[qj,qs,qcd]
def qpY(s:Str):Pure prog GG 225 [.str s] (.bool (qcd.contains s)):=by
 refine qDb qe func225 rfl (by kernel_rfl) ?_;simp;refine qCW qcV rfl ?_;refine qCW (qsS GG qcd s (by decide)) rfl ?_;rw[qim];simp
def vH(s:Str)(hs:Fits s):Pure prog GG 164 [.str s] (.bool (zQ s)):=by
 refine qDb qe func164 rfl (by kernel_rfl) ?_
 cases s with
 |nil=>simp[zQ,Qg]
 | cons c r=>
  by_cases h16:(c::r).length<=16
  . have h16':¬(16:Int)<(r.length:Int)+1:=(by simp at h16;omega);simp[h16'];refine qCW (qdT GG c.toNat) rfl ?_;cases hl:kQ (c.toNat:Int)
    . simp[zQ,Qg,hl]
    simp;refine qCW (qpY (c::r)) rfl ?_;cases hk:qcd.contains (c::r)
    . simp;refine qC9 (fun n env U=>∃i,i<=(c::r).length/\n=(c::r).length-i/\env 0=.str (c::r)/\env 3=.int .i64 i/\U=⟨[],[]⟩/\∀x∈(c::r).take i,Za x=true) (c::r).length ⟨0,by simp⟩ ?_;rintro n env U ⟨i,hi,rfl,h0,h3,rfl,hall⟩
      cases hv:(c::r)[i]? with
      | some v=>
       obtain⟨hc,hv'⟩:=qyF.1 hv;simp[h0,h3,show(i:Int)<r.length+1 by simp at hc;omega,hv];refine qCW (ql4 GG v.toNat) rfl ?_;cases hin:ke (v.toNat:Int)
       . have:=QO (qyG hv) (show Za v=false from hin);simp[zQ,this]
       simp[h0,h3];refine⟨_,by simp at hc;omega,i+1,by simp at hc;omega,rfl,wr (by omega) (by simp at hc hs;omega),?_⟩;intro x hx;rw[show(c::r).take (i+1)=(c::r).take i++[v] by rw[qzb,hv];rfl,qy0]at hx;rcases hx with hx|hx
       . exact hall x hx
       rwa[qzh.1 hx]
      | none=>
       have he:i=(c::r).length:=(by simp at hv hi;simp;omega);subst he;have h1:Qg (c::r)=true:=by
        simp only[Qg,qyJ];exact⟨hl,qyP.2 fun x hx=>hall x (by simpa using hx)⟩
       have hn:zQ (c::r)=true:=(by simp only[zQ,h1,hk,decide_eq_true h16];rfl);simp[h0,h3,hn]
    have hn:zQ (c::r)=false:=(by simp only[zQ,hk,qCz,qBE]);simp[hn]
  have h16':(16:Int)<(r.length:Int)+1:=by simp at h16;omega
  have:zQ (c::r)=false:=by
   have:decide ((c::r).length<=16)=false:=by simpa using h16
   simp only[zQ,this,qBE,qAD]
  simp[h16',this]
def Qr{s:Str}:Lib.indexByte s 91=if s.contains 91=true then((jP s).length:Int) else -1:=by
 unfold jP
 induction s with
 |nil=>simp[Lib.indexByte]
 | cons c r ih=>
  by_cases hc:c=91
  . subst hc;simp[Lib.indexByte]
  have h1:(c==91)=false:=by simpa using hc
  simp only[Lib.indexByte,h1,qy4,if_false,ih,List.contains_cons];have h3:((91:UInt8)==c)=false:=by simpa using fun e=>hc e.symm
  have h4:(c != 91)=true:=by simpa using hc
  rw[h3,qBf,qBT,if_pos h4];by_cases h5:r.contains 91=true
  . rw[if_pos h5,if_pos h5];have:¬(((r.takeWhile (· != 91)).length:Int) == -1)=true:=by simp
    rw[if_neg this];simp
  rw[if_neg h5,if_neg h5];simp
def qev(G:Nat->AV)(s:Str):Pure prog G 307 [.str s,.str [91]] (.int .i64 (Lib.indexByte s 91)):=by
 refine qDb qe func307 rfl (by kernel_rfl) ?_;by_cases h:[91]=s
 . subst h;simp[Lib.indexByte]
 simp[h];refine qCW (qbs G s 91) rfl ?_;simp
def qtn(G:Nat->AV)(s:Str)(hs:Fits s)(h:s.contains 91=true):Pure prog G 266 [.str s,.str [91]] (.tup [.str (jP s),.str (Yc s),.bool true]):=by
 refine qDb qe func266 rfl (by kernel_rfl) ?_;simp;refine qCW (qev G s) rfl ?_;have e:=qob h;have hl:s.length=(jP s).length+1+(Yc s).length:=by
  have:=congrArg List.length e;rw[qyK,qyY]at this;omega
 have t1:s.take (jP s).length=jP s:=by
  conv=>lhs;arg 2;rw[e]
  simp
 have t2:s.drop ((jP s).length+1)=Yc s:=by
  conv=>lhs;arg 2;rw[e]
  simp
 rw[Qr,if_pos h];simp[zo,zU,show IntKind.i64.wrap (((jP s).length:Int)+1)=(jP s).length+1 from wr (by omega) (by omega),show((jP s).length:Int)+1<=s.length by omega,show(0:Int)<=(jP s).length+1 by omega,show(((jP s).length:Int)+1).toNat=(jP s).length+1 by omega,show(jP s).length<=s.length by omega,t1,t2]
def qqz(G:Nat->AV)(s:Str)(hs:Fits s)(h:s.contains 91=false):Pure prog G 266 [.str s,.str [91]] (.tup [.str s,.str [],.bool false]):=by
 refine qDb qe func266 rfl (by kernel_rfl) ?_;simp;refine qCW (qev G s) rfl ?_;rw[Qr,if_neg (by rw[h];decide)];simp
def qjj(G:Nat->AV)(s:Str)(hs:Fits s)(h:s.contains 91=true):Pure prog G 205 [.str s,.str [91]] (.tup [.str (jP s),.str (Yc s),.bool true]):=by
 refine qDb qe func205 rfl (by kernel_rfl) ?_;simp;refine qCW (qtn G s hs h) rfl ?_;simp
def qdb(G:Nat->AV)(s:Str)(hs:Fits s)(h:s.contains 91=false):Pure prog G 205 [.str s,.str [91]] (.tup [.str s,.str [],.bool false]):=by
 refine qDb qe func205 rfl (by kernel_rfl) ?_;simp;refine qCW (qqz G s hs h) rfl ?_;simp
def qkP(i:Nat)(h:i<9):Pure prog GG 332 [.int .i64 i] (.str [UInt8.ofNat (48+i)]):=by
 refine qDb qe func332 rfl (by kernel_rfl) ?_;have h11:i<10:=by omega
 have h37:(0:Int)<=(i:Int)+1:=by omega
 simp[show(i:Int)<10 by omega,show IntKind.i64.wrap ((i:Int)+1)=(i:Int)+1 from wr (by omega) (by omega),zo,zU,show(i:Int)+1<=36 by omega,show(i:Int)<=(i:Int)+1 by omega];have:i=0\/i=1\/i=2\/i=3\/i=4\/i=5\/i=6\/i=7\/i=8:=by omega
 rcases this with rfl|rfl|rfl|rfl|rfl|rfl|rfl|rfl|rfl<;>rfl
def qwp(i:Nat)(h:i<9):Pure prog GG 267 [.int .i64 i] (.str [UInt8.ofNat (48+i)]):=by
 refine qDb qe func267 rfl (by kernel_rfl) ?_;simp;refine qCW (r:=.str [UInt8.ofNat (48+i)]) ?_ rfl ?_
 . refine qDb qe func308 rfl (by kernel_rfl) ?_;simp;refine qCW (r:=.str [UInt8.ofNat (48+i)]) ?_ rfl ?_
   . refine qDb qe func329 rfl (by kernel_rfl) ?_;have h3:i<100:=(by omega);simp[show(0:Int)<=i by omega,show(i:Int)<100 by omega];exact qCW (qkP i h) rfl (by simp)
   simp
 simp
def qpX(i:Nat)(h:i<8):Pure prog GG 267 [.int .i64 i] (.str [UInt8.ofNat (48+i)]):=qwp i (by omega)
def ZS(a:Str)(i:Nat)(hi:i<8)(ha:a.length<=1000):Pure prog GG 206 [.str a,.int .i64 i] (.str (zV a i)):=by
 refine qDb qe func206 rfl (by kernel_rfl) ?_;have h4:a.length+1+1<=4611686018427387904:=by omega
 simp[show a.length+1<=4611686018427387904 by omega];refine qCW (qpX i hi) rfl ?_;simp[show a.length+(1+1)<=4611686018427387904 by omega,show a.length+(1+(1+1))<=4611686018427387904 by omega,zV]
def wO{s}(h:zQ s=true):s.length<=16:=by
 simp only[zQ,qyJ,decide_eq_true_eq]at h;exact h.1.2
def qmu{s i}(hi:i<8)(hn:zQ (jP s)=true)(h:s=zV (jP s) i):(kj s).isSome=true:=by
 rw[wU (a:=jP s) (i:=i) ⟨hi,hn,h⟩];rfl
def qmv{s}(h:∀i,i<8->s≠zV (jP s) i):kj s=none:=by
 rw[yv];rintro a i hi;have:=hi.has.2.1;exact h i hi.1 (by rw[this];exact hi.2.2)
def qbN{s}(h:zQ (jP s)=false):kj s=none:=by
 rw[yv];rintro a i hi;have:=hi.has.2.1;rw[this,hi.2.1]at h;cases h
def qlG(s:Str)(hs:Fits s):Pure prog GG 141 [.str s] (.bool (kq s)):=by
 refine qDb qe func141 rfl (by kernel_rfl) ?_;simp;refine qCW (vI s) rfl ?_;cases hn:zQ s
 . simp;by_cases hc:s.contains 91=true
   . refine qCW (qjj GG s hs hc) rfl ?_;simp;refine qCW (vI (jP s)) rfl ?_;cases hh:zQ (jP s)
     . simp[kq,hn,qbN hh]
     simp;refine qC9 (fun n env U=>∃i:Nat,i<=8/\n=8-i/\env 0=.str s/\env 3=.str (jP s)/\env 22=.int .i64 i/\U=⟨[],[]⟩/\∀j,j<i->s≠zV (jP s) j) 8 ⟨0,by simp⟩ ?_;rintro n env U ⟨i,hi,rfl,h0,h3,h22,rfl,hall⟩;by_cases h8:i<8
     . have h8':(i:Int)<8:=(by omega);simp[h0,h3,h22,h8'];refine qCW (ZS (jP s) i h8 (by have:=wO hh;omega)) rfl ?_;by_cases he:s=zV (jP s) i
       . have hv:kq s=true:=(by simp[kq,qmu h8 hh he]);rw[<- he];simp[h0,hv]
       simp[h0,h3,h22,he];refine⟨_,by omega,i+1,by omega,rfl,wr (by omega) (by omega),?_⟩;intro j hj e;rcases qzK.1 hj with hj|rfl
       . exact hall j hj e
       exact he e
     have h8':¬(i:Int)<8:=(by omega);have hv:kq s=false:=by
      have:=qmv fun j hj=>hall j (by omega)
      simp[kq,hn,this]
     simp[h0,h3,h22,h8',hv]
   have hc':s.contains 91=false:=(by simpa using hc);refine qCW (qdb GG s hs hc') rfl ?_;simp[kq,hn,YE hc']
 simp[kq,hn]
def qiO:∀(i:Nat),i<8->Pure prog GG 165 [.int .i64 i] (.str [UInt8.ofNat (48+i)]):=by
 have key:∀(i:Nat),i<8->IntKind.i64.wrap (-(i:Int)) = -i/\(-(i:Int)).tmod 10 = -i/\IntKind.i64.wrap (48+(i:Int))=48+i/\IntKind.u8.wrap (48+(i:Int))=48+i/\IntKind.i64.wrap (-((i:Int)/10))=0/\(48+(i:Int)).toNat=48+i:=by decide
 intro i hi;obtain⟨k1,k2,k3,k4,k5,k6⟩:=key i hi;refine qDb qe func165 rfl (by kernel_rfl) ?_;simp;have below:Pure prog GG 227 [.int .i64 i] (.int .i64 (-i)):=by
  refine qDb qe func227 rfl (by kernel_rfl) ?_;by_cases h0:i=0
  . subst h0;simp
  have:0<i:=by omega
  simp[this,k1]
 refine qCW below rfl ?_;refine qC9 (fun n env U=>n=1/\env 0=.int .i64 i/\env 3=.str []/\env 4=.int .i64 (-i)/\U=⟨[],[]⟩) 1 ⟨rfl,by simp⟩ ?_;rintro n env U ⟨rfl,h0,h3,h4,rfl⟩;simp[h0,h3,h4,k2,k3,k4,k5,k6,qj,qs,yS,bytesOf]
def ZR(a:Str)(i:Nat)(hi:i<8)(ha:a.length<=1000):Pure prog GG 114 [.str a,.int .i64 i] (.str (zV a i)):=by
 refine qDb qe func114 rfl (by kernel_rfl) ?_;have h4:a.length+1+1<=4611686018427387904:=by omega
 simp[show a.length+1<=4611686018427387904 by omega];refine qCW (qiO i hi) rfl ?_;simp[show a.length+(1+1)<=4611686018427387904 by omega,show a.length+(1+(1+1))<=4611686018427387904 by omega,zV]
noncomputable def VG(s:Str):AV:=match kj s with
 |some (a,i)=>.tup [.str a,.int .i64 i,.bool true]
 |none=>.tup [.str [],.int .i64 0,.bool false]
def Zg{s a i}(h:jm s a i):VG s=.tup [.str a,.int .i64 i,.bool true]:=by simp[VG,wU h]
def wT{s}(h:kj s=none):VG s=.tup [.str [],.int .i64 0,.bool false]:=by simp[VG,h]
def qvr{c:UInt8}(h1:48<=c.toNat)(h2:c.toNat<56):UInt8.ofNat (48+(c.toNat-48))=c:=by
 have:48+(c.toNat-48)=c.toNat:=by omega
 rw[this];simp
def qbm{s t}{c:UInt8}(hn:zQ t=true)(h1:48<=c.toNat)(h2:c.toNat<56)(h:s=t++[91,c,93]):jm s t (c.toNat-48) :=
 ⟨by omega,hn,by rw[h,zV,qvr h1 h2]⟩
def qbM{s a i}(h:jm s a i):s=a++[91,UInt8.ofNat (48+i),93]/\(UInt8.ofNat (48+i)).toNat=48+i/\i<8:=by
 refine⟨h.2.2,?_,h.1⟩;have:=h.1;simp;omega
def WC(s:Str)(hs:Fits s):Pure prog GG 272 [.str s] (VG s):=by
 refine qDb qe func272 rfl (by kernel_rfl) ?_;simp;cases hc:s.contains 91
 . refine qCW (qdb GG s hs hc) rfl ?_;rw[wT (YE hc)];simp
 refine qCW (qjj GG s hs hc) rfl ?_;simp;refine qCW (vI (jP s)) rfl ?_;cases hn:zQ (jP s)
 . rw[wT (qbN hn)];simp
 have no:(∀c,Yc s=[c,93]->¬(48<=c.toNat/\c.toNat<56))->VG s=.tup [.str [],.int .i64 0,.bool false]:=by
  intro h;refine wT (yv.2 fun a i hi=>?_);obtain⟨e1,e2,e3⟩:=qbM hi;exact h _ hi.has.2.2 ⟨by omega,by omega⟩
 cases ht:Yc s with
 |nil=>rw[no (by simp[ht])];simp
 | cons c r1=>
  cases r1 with
  |nil=>rw[no (by simp[ht])];simp
  | cons d r2=>
   cases r2 with
   | cons e r3=>
    rw[no (by simp[ht])];simp[show ¬((r3.length:Int)+1+1+1=2) by omega]
   | nil=>
    by_cases hd:d=93
    . subst hd;by_cases h1:48<=c.toNat
      . have h1':¬(c.toNat:Int)<48:=(by omega);by_cases h2:c.toNat<56
        . have h2':¬(56:Int)<=c.toNat:=(by omega);have e:jm s (jP s) (c.toNat-48):=qbm hn h1 h2 (by have:=qob hc;rwa[ht]at this);rw[Zg e];have w3:((c.toNat:Int)-48)=((c.toNat-48:Nat):Int):=(by omega);simp[h1',h2',yS,show IntKind.u8.wrap ((c.toNat:Int)-48)=c.toNat-48 by simp[IntKind.wrap,IntKind.bits,IntKind.signed];omega,show IntKind.i64.wrap ((c.toNat:Int)-48)=c.toNat-48 from wr (by omega) (by omega)];omega
        have h2':(56:Int)<=c.toNat:=(by omega);rw[no (fun c' e=>by rw[ht]at e;cases e;omega)];simp[h1',h2']
      have h1':(c.toNat:Int)<48:=(by omega);rw[no (fun c' e=>by rw[ht]at e;cases e;omega)];simp[h1']
    have hd':¬(d.toNat:Int)=93:=by
     intro e;exact hd (UInt8.toNat_inj.1 (by simp;omega))
    rw[no (fun c' e=>by rw[ht]at e;cases e;exact absurd rfl hd)];simp[hd']
def qlZ(s:Str)(hs:Fits s):Pure prog GG 217 [.str s] (.bool (kq s)):=by
 refine qDb qe func217 rfl (by kernel_rfl) ?_;simp
 cases he:kj s with
 | some p=>
  obtain⟨a,i⟩:=p;refine qCW (by have:=WC s hs;rw[Zg (yY.1 he)]at this;exact this) rfl ?_;simp[kq,he]
 | none=>
  refine qCW (by have:=WC s hs;rwa[wT he]at this) rfl ?_;simp;refine qCW (vI s) rfl ?_;simp[kq,he]
def qv4{s:Str}(h:3<=s.length):∃t x y z,s=t++[x,y,z]:=by
 refine⟨s.take (s.length-3),s[s.length-3]'(by omega),s[s.length-2]'(by omega),s[s.length-1]'(by omega),?_⟩;have e:s.drop (s.length-3)=[s[s.length-3]'(by omega),s[s.length-2]'(by omega),s[s.length-1]'(by omega)]:=by
  rw[qy1 (by omega),qy1 (by omega),qy1 (by omega),List.drop_eq_nil_of_le (by omega)];simp only[qA3,and_true,true_and];exact⟨by congr 1;omega,by congr 1;omega⟩
 rw[<- e,qzA]
def qgh{s}(h:s.length<4):kj s=none:=by
 rw[yv];intro a i hi;have:=Vj hi.2.1;have:=qyZ.2 this;rw[hi.2.2]at h;simp at h;omega
def qdP(s:Str)(hs:Fits s):Pure prog GG 320 [.str s] (VG s):=by
 refine qDb qe func320 rfl (by kernel_rfl) ?_;by_cases h4:s.length<4
 . have h4':(s.length:Int)<4:=(by omega);rw[wT (qgh h4)];simp[h4']
 obtain⟨t,x,y,z,rfl⟩:=qv4 (s:=s) (by omega);have hl:(t++[x,y,z]).length=t.length+3:=by simp
 rw[Fits,hl]at hs;rw[hl]at h4;have no:¬(x=91/\z=93/\48<=y.toNat/\y.toNat<56/\zQ t=true)->VG (t++[x,y,z])=.tup [.str [],.int .i64 0,.bool false]:=by
  intro h;refine wT (yv.2 fun a i hi=>h ?_);obtain⟨e1,e2,e3⟩:=qbM hi;obtain⟨e4,e5⟩:=List.append_inj' e1 rfl;cases e5;subst e4;exact⟨rfl,rfl,by omega,by omega,hi.2.1⟩
 have h4':¬(t.length:Int)+3<4:=by omega
 have w1:IntKind.i64.wrap ((t.length:Int)+3-1)=((t.length+2:Nat):Int):=by rw[wr (by omega) (by omega)];omega
 have w2:IntKind.i64.wrap ((t.length:Int)+3-2)=((t.length+1:Nat):Int):=by rw[wr (by omega) (by omega)];omega
 have w3:IntKind.i64.wrap (t.length:Int)=t.length:=wr (by omega) (by omega);have g1:(t++[x,y,z])[t.length+2]?=some z:=by simp
 have g2:(t++[x,y,z])[t.length+1]?=some y:=by simp
 have g3:(t++[x,y,z])[t.length]?=some x:=by simp
 have g4:(t++[x,y,z]).take t.length=t:=by simp
 have n1:((t.length:Int)+2).toNat=t.length+2:=by omega
 have n2:((t.length:Int)+1).toNat=t.length+1:=by omega
 have p1:(0:Int)<=(t.length:Int)+2:=by omega
 have p2:(0:Int)<=(t.length:Int)+1:=by omega
 have hn210:=vH t (show t.length<_ by omega);have yes:x=91->z=93->48<=y.toNat->y.toNat<56->zQ t=true->VG (t++[x,y,z])=.tup [.str t,.int .i64 ((y.toNat:Int)-48),.bool true]:=by
  rintro rfl rfl h1 h2 h3;rw[Zg (qbm h3 h1 h2 rfl)];congr 4;omega
 generalize hS:t++[x,y,z]=S at *;generalize t.length=T at *;have q1:=(qyF.1 g1).2;have q2:=(qyF.1 g2).2;have q3:=(qyF.1 g3).2;have le3:(T:Int)<=(T:Int)+3:=by omega
 by_cases hz:z=93
 . by_cases hx:x=91
   . subst hx hz;have wy1:IntKind.i64.wrap (y.toNat:Int)=y.toNat:=(by have:=y.toNat_lt;exact wr (by omega) (by omega));have wy2:IntKind.i64.wrap ((y.toNat:Int)-48)=y.toNat-48:=(by have:=y.toNat_lt;exact wr (by omega) (by omega));by_cases h1:48<=y.toNat
     . by_cases h2:y.toNat<56
       . have h1':¬(y.toNat:Int)-48<0:=(by omega);have h2':¬(8:Int)<=(y.toNat:Int)-48:=(by omega);simp[hl,h4',w1,w2,w3,q1,q2,q3,le3,g4,n1,n2,p1,p2,yS,wy1,wy2,h1',h2',zo,zU];refine qCW hn210 rfl ?_;cases hnt:zQ t
         . rw[no (fun h=>by rw[hnt]at h;cases h.2.2.2.2)];simp
         rw[yes rfl rfl h1 h2 hnt];simp
       . rw[no (fun h=>h2 h.2.2.2.1)];have h1':¬(y.toNat:Int)-48<0:=(by omega);simp[hl,h4',w1,w2,w3,q1,q2,q3,le3,g4,n1,n2,p1,p2,yS,wy1,wy2,h1',show(8:Int)<=(y.toNat:Int)-48 by omega,zo,zU]
     rw[no (fun h=>h1 h.2.2.1)];simp[hl,h4',w1,w2,w3,q1,q2,q3,le3,g4,n1,n2,p1,p2,yS,wy1,wy2,show(y.toNat:Int)-48<0 by omega,zo,zU]
   . have hx':¬(x.toNat:Int)=91:=by
      intro e;exact hx (UInt8.toNat_inj.1 (by simp;omega))
     rw[no (fun h=>hx h.1)];subst hz;simp[hl,h4',w1,w2,w3,q1,q2,q3,n1,n2,p1,p2,hx']
 have hz':¬(z.toNat:Int)=93:=by
  intro e;exact hz (UInt8.toNat_inj.1 (by simp;omega))
 rw[no (fun h=>hz h.2.1)];simp[hl,h4',w1,w2,w3,q1,q2,q3,n1,n2,p1,p2,hz']
def qlY(s:Str)(hs:Fits s):Pure prog GG 290 [.str s] (.bool (kq s)):=by
 refine qDb qe func290 rfl (by kernel_rfl) ?_;simp
 cases he:kj s with
 | some p=>
  obtain⟨a,i⟩:=p;refine qCW (by have:=qdP s hs;rw[Zg (yY.1 he)]at this;exact this) rfl ?_;simp[kq,he]
 | none=>
  refine qCW (by have:=qdP s hs;rwa[wT he]at this) rfl ?_;simp;refine qCW (vH s hs) rfl ?_;simp[kq,he]
def qlF(s:Str)(hs:Fits s):Pure prog GG 113 [.str s] (.bool (kq s)):=by
 refine qDb qe func113 rfl (by kernel_rfl) ?_;simp;refine qCW (vH s hs) rfl ?_;cases hn:zQ s
 . simp;refine qC9 (fun n env U=>∃k:Nat,1<=k/\k<=s.length+1/\n=s.length+1-k/\env 0=.str s/\env 3=.int .i64 k/\U=⟨[],[]⟩/\∀a i,jm s a i->¬a.length<k) s.length ⟨1,by simp,by simp,by simp,by simp,by simp,rfl,fun a i hi=>by have:=qyZ.2 (Vj hi.2.1);omega⟩ ?_;rintro n env U ⟨k,hk1,hk,rfl,h0,h3,rfl,hall⟩;by_cases hlt:k<s.length
   . have hlt':(k:Int)<s.length:=(by omega);have step:(∀a i,jm s a i->a.length≠k)->∀a i,jm s a i->¬a.length<k+1:=fun h a i hi hl=>by
      rcases qzK.1 hl with h1|h1
      . exact hall a i hi h1
      exact h a i hi h1
     have at91:∀a i,jm s a i->a.length=k->s[k]=91/\s.take k=a:=fun a i hi hl=>by
      obtain⟨_,_,rfl⟩:=hi;subst hl;simp[zV]
     have hw:IntKind.i64.wrap ((k:Int)+1)=((k+1:Nat):Int):=(by rw[wr (by omega) (by omega)];omega);by_cases hc:s[k]=91
     . simp[h0,h3,hlt,hc,zo,zU,show k<=s.length by omega];refine qCW (vH (s.take k) (by simp;omega)) rfl ?_;cases ht:zQ (s.take k)
       . simp[h0,h3,hw];refine⟨_,by omega,k+1,by omega,by omega,rfl,rfl,fun a i hi=>Nat.not_lt.1 (step (fun a i hi hl=>?_) a i hi)⟩;have:=(at91 a i hi hl).2;rw[this,hi.2.1]at ht;cases ht
       simp[h0,h3];refine qC9 (fun n env U=>∃i:Nat,i<=8/\n=8-i/\env 0=.str s/\env 3=.int .i64 k/\env 4=.int .i64 i/\U=⟨[],[]⟩/\∀j,j<i->s≠zV (s.take k) j) 8 ⟨0,by simp[h0,h3]⟩ ?_;rintro n env U ⟨i,hi,rfl,h0,h3,h4,rfl,hin⟩;by_cases h8:i<8
       . have h8':(i:Int)<8:=(by omega);simp[h0,h3,h4,h8',zo,zU,show(k:Int)<=s.length by omega];refine qCW (ZR (s.take k) i h8 (by have:=wO ht;omega)) rfl ?_;by_cases he:s=zV (s.take k) i
         . have hv:kq s=true:=(by simp[kq,wU (show jm s (s.take k) i from⟨h8,ht,he⟩)]);rw[<- he];simp[h0,hv]
         simp[h0,h3,h4,he];refine⟨_,by omega,i+1,by omega,rfl,wr (by omega) (by omega),?_⟩;intro j hj e;rcases qzK.1 hj with hj|rfl
         . exact hin j hj e
         exact he e
       have h8':¬(i:Int)<8:=(by omega);simp[h0,h3,h4,h8',hw];refine⟨_,by omega,k+1,by omega,by omega,rfl,rfl,fun a i hi=>Nat.not_lt.1 (step (fun a i' hi' hl=>?_) a i hi)⟩;have:=(at91 a i' hi' hl).2;exact hin i' (by have:=hi'.1;omega) (by rw[this];exact hi'.2.2)
     have hc':¬(s[k].toNat:Int)=91:=by
      intro e;exact hc (UInt8.toNat_inj.1 (by simp;omega))
     simp[h0,h3,hlt,hc',hw];refine⟨_,by omega,k+1,by omega,by omega,rfl,rfl,fun a i hi=>Nat.not_lt.1 (step (fun a i hi hl=>?_) a i hi)⟩;exact hc (at91 a i hi hl).1
   have hlt':¬(k:Int)<s.length:=(by omega);have hv:kq s=false:=by
    have:=yv.2 fun a i hi=>hall a i hi (by rw[hi.2.2]at hlt;simp at hlt;omega)
    simp[kq,hn,this]
   simp[h0,h3,hlt,hv]
 simp[kq,hn]
def qdW{S}{stp:S->Ex->S×Bool}{s:S}{e}:QU stp s (pre e)=if(stp s e).2=true then QU stp (stp s e).1 (kK e.args) else((stp s e).1,false):=by
 rw[ju,QU]
def look{hd:List Blk}{c}(hc:hd.length=c){t k}:(hd++t)[c+k]?=t[k]?:=by
 subst hc;rw[qyO (by omega)];simp
def qlK{tail t:List Blk}{k:Nat}{b:Blk}(h:tail[k]?=some b):(tail++t)[k]?=some b:=by
 rw[qyT (qyF.1 h).1,h]
def Wen(e:Ex):Prop:=∀x∈pre e,Fits x.args/\Fits x.name
def Wen.fits{e}(h:Wen e):Fits e.args:=(h e (by rw[ju];simp)).1
def Wen.nm{e}(h:Wen e):Fits e.name:=(h e (by rw[ju];simp)).2
def Wen.arg{e a}(h:Wen e)(ha:a∈e.args):Wen a:=fun x hx=>h x (by rw[ju];exact qAk _ (Q6.2 ⟨a,ha,hx⟩))
section
variable {S:Type}{stp:S->Ex->S×Bool}{hd:S->List Blk}{T:S->List (Option Nat)}{c:Nat}{vf:FuncId}{cap:List AV}{m:S->Nat}
def qb7(stp:S->Ex->S×Bool)(hd:S->List Blk)(T:S->List (Option Nat))(vf:FuncId)(cap:List AV)(m:S->Nat):Prop :=
 ∀s tail e,Wen e->0<m s->qf prog GG vf (.agg (qt e)::cap) ⟨hd s++tail,T s⟩ (fun r U'=>r=.bool (stp s e).2/\∃t,U'=⟨hd (stp s e).1++(tail++t),T (stp s e).1⟩)
def qnu(hm:∀s e,m s<=m (stp s e).1+1):∀(s:S) (l),m s<=m (QU stp s l).1+l.length
 |s,[]=>by simp[QU]
 | s,e::r=>by
  simp only[QU];split
  . have:=hm s e;have:=qnu hm (stp s e).1 r;simp;omega
  have:=hm s e;simp;omega
def qqr(hc:∀s,(hd s).length=c)(hm:∀s e,m s<=m (stp s e).1+1)(hv:qb7 stp hd T vf cap m):∀e,Wen e->∀s tail kb kd,(pre e).length<=m s->tail[kb]?=some (.cells [.fn vf [] cap])->tail[kd]?=some (.cells [.fn 215 [] [.ptr (c+kb) 0,.ptr (c+kd) 0]]) ->
 qf prog GG 215 [.agg (qt e),.ptr (c+kb) 0,.ptr (c+kd) 0] ⟨hd s++tail,T s⟩ (fun r U'=>r=.bool (QU stp s (pre e)).2/\∃t,U'=⟨hd (QU stp s (pre e)).1++(tail++t),T (QU stp s (pre e)).1⟩):=by
 refine qDa fun e ih hwe s tail kb kd hsz hb hd'=>?_
 rw[ju,qyY]at hsz;refine qf.vc qe func215 rfl (by kernel_rfl) ?_;have lx:∀s (t:List Blk) (x:Blk) (u:List Blk),(hd s++(tail++(t++x::u)))[c+(tail.length+t.length)]?=some x:=fun s t x u=>by
  rw[look (hc s),qyO (by omega),qyO (by omega)];simp
 have lx0:∀s (x:Blk) (u:List Blk),(hd s++(tail++(x::u)))[c+tail.length]?=some x:=fun s x u=>by
  have:=lx s [] x u;simpa using this
 simp[qd,hc,show ∀s t,(hd s++(tail++t))[c+kb]?=some (.cells [.fn vf [] cap]) from fun s t=>by rw[look (hc s),qlK hb],lx0];rw[<- qd e];refine qC0 (hv s (tail++[.cells (qt e)]) e hwe (by omega)) ?_;rintro r U' ⟨rfl,t,rfl⟩;rw[show hd (stp s e).1++(tail++[Blk.cells (qt e)]++t)=hd (stp s e).1++(tail++(Blk.cells (qt e)::t)) by simp];cases hst:(stp s e).2
 . simp[qdW,hst]
 have hl:=hwe.fits;simp only[qd e];simp[hc];refine qC9 (fun n env U=>∃i s' tl,i<=e.args.length/\n=e.args.length-i/\env 1=.ptr (c+kb) 0/\env 2=.ptr (c+kd) 0/\env 12=.sl 4 (e.args.map qt) .none/\env 13=.int .i64 e.args.length/\env 14=.int .i64 i/\U=⟨hd s'++(tail++tl),T s'⟩/\(kK (e.args.drop i)).length<=m s'/\QU stp s (pre e)=QU stp s' (kK (e.args.drop i))) e.args.length ⟨0,(stp s e).1,_,by simp,by simp,by simp,by simp,by simp,by simp,by simp,rfl,by have:=hm s e;simp;omega,by rw[qdW,hst];simp⟩ ?_;rintro n env U ⟨i,s',tl,hi,rfl,h1,h2,h12,h13,h14,rfl,hsz',hrun⟩
 cases hv':e.args[i]? with
 | none=>
  have hcn:¬i<e.args.length:=by simp at hv';omega
  rw[show e.args.drop i=[] by simp;omega]at hrun;simp[h12,h13,h14,hcn,hrun,QU]
 | some a=>
  obtain⟨hcn,hve⟩:=qyF.1 hv';have hma:=qyG hv';rw[zA hv',ya,Yk]at hrun;rw[zA hv',ya,qyK]at hsz';have hmr:=qnu hm s' (pre a);have set1:∀(z x:Blk),(hd s'++(tail++(tl++[z]))).set (c+(tail.length+tl.length)) x=hd s'++(tail++(tl++[x])):=fun z x=>by
   rw[qzi,if_neg (by rw[hc];omega),hc,qzi,if_neg (by omega),qzi,if_neg (by omega)];have:c+(tail.length+tl.length)-c-tail.length-tl.length=0:=by omega
   rw[this];rfl
  simp[h2,h12,h13,h14,hcn,hve,qd a,hc,set1,show ∀s t,(hd s++(tail++t))[c+kd]?=some (.cells [.fn 215 [] [.ptr (c+kb) 0,.ptr (c+kd) 0]]) from fun s t=>by rw[look (hc s),qlK hd']];rw[<- qd a];refine qC0 (ih a hma (hwe.arg hma) s' (tail++(tl++[.cells (qt a)])) kb kd (by omega) (qlK hb) (qlK hd')) ?_;rintro r U' ⟨rfl,t',rfl⟩;cases hr:(QU stp s' (pre a)).2
  . rw[hr]at hrun;simp only[qy4,if_false]at hrun;simp[hrun,hr]
  rw[hr]at hrun;simp only[if_true]at hrun;simp[h1,h2,h12,h13,h14];exact⟨_,by omega,i+1,by omega,rfl,wr (by omega) (by omega),_,⟨⟨_,rfl⟩,rfl⟩,by omega,hrun⟩
def qcg(hc:∀s,(hd s).length=c)(hm:∀s e,m s<=m (stp s e).1+1)(hv:qb7 stp hd T vf cap m)(e)(hwe:Wen e)(s:S)(hsz:(pre e).length<=m s)(tail):
 qf prog GG 154 [.agg (qt e),.fn vf [] cap] ⟨hd s++tail,T s⟩ (fun r U'=>∃t,U'=⟨hd (QU stp s (pre e)).1++(tail++t),T (QU stp s (pre e)).1⟩):=by
 refine qf.vc qe func154 rfl (by kernel_rfl) ?_;have set2:∀(x y z w:Blk),(hd s++(tail++[x,y,z])).set (c+(tail.length+(1+1))) w=hd s++(tail++[x,y,w]):=fun x y z w=>by
  rw[qzi,if_neg (by rw[hc];omega),hc,qzi,if_neg (by omega)];have:c+(tail.length+(1+1))-c-tail.length=2:=by omega
  rw[this];rfl
 have l0:∀(x:Blk) (u:List Blk),(hd s++(tail++(x::u)))[c+tail.length]?=some x:=fun x u=>by
  rw[look (hc s),qyO (by omega)];simp
 have l2:∀(x y z:Blk) (u:List Blk),(hd s++(tail++(x::y::z::u)))[c+(tail.length+(1+1))]?=some z:=fun x y z u=>by
  rw[look (hc s),qyO (by omega)];have:tail.length+(1+1)-tail.length=2:=by omega
  rw[this];rfl
 simp[qd e,hc,l2];rw[<- qd e];have k:=qqr hc hm hv e hwe s (tail++[.cells (qt e),.cells [.fn vf [] cap],.cells [.fn 215 [] [.ptr (c+(tail.length+1)) 0,.ptr (c+(tail.length+1)+1) 0]]]) (tail.length+1) (tail.length+1+1) hsz
  (by
    rw[qyO (by omega)];have:tail.length+1-tail.length=1:=by omega
    rw[this];rfl)
  (by
    rw[qyO (by omega)];have:tail.length+1+1-tail.length=2:=by omega
    rw[this];rfl)
 refine qC0 k ?_;rintro r U' ⟨_,t,rfl⟩;exact⟨_,by rw[qze]⟩
end
def YK{α:Type}{R:Nat->α->Prop}:∀(n:Nat),(∀i,i<n->∃y,R i y)->∃l:List α,l.length=n/\∀i y,l[i]?=some y->R i y
 |0,_=>⟨[],rfl,by simp⟩
 | n+1,h=>by
  obtain⟨l,h1,h2⟩:=YK n fun i hi=>h i (by omega)
  obtain⟨y,hy⟩:=h n (by omega);refine⟨l++[y],by simp[h1],fun i z hz=>?_⟩;rw[qzu]at hz;split at hz
  . exact h2 i z hz
  rename_i hi;have:i-l.length=0:=by
   rcases qzV (i-l.length) with h0|h0
   . exact h0
   rw[qy6 (by simp;omega)]at hz;cases hz
  rw[this]at hz;cases hz;have:i=n:=by omega
  subst this;exact hy
section
variable {H:Type}{enc:TypeId×Value->H}{w:World}{base:Nat}{held:Bool}
abbrev KMw(w:World):Kn:=Go.Abs.K0 (qfG w)
def qh.get{K:Kn}:∀{l:List AV}{vs:List Value},qh K l vs->vs.length=l.length/\∀(j:Nat) (a:AV),l[j]?=some a->∃v,vs[j]?=some v/\qg K a v
 |[],_,h=>by simp only[qh]at h;subst h;simp
 | a::r,_,h=>by
  simp only[qh]at h;obtain⟨v,vr,rfl,h1,h2⟩:=h;obtain⟨k1,k2⟩:=qh.get h2;refine⟨by simp[k1],fun j b hj=>?_⟩
  cases j with
  |zero=>simp at hj;subst hj;exact⟨v,rfl,h1⟩
  |succ j=>simp at hj;exact k2 j b hj
def Yq{α:Type}{t e sz:Nat}{en:α->List AV}{good:α->Prop}{X:DataW H->Prop}{n:Nat}(ht:prog.underlying t=some (.slice e))(hsz:prog.cellsOf e=sz)(hpos:0<sz)
 (hat:∀y,(en y).all AV.atom=true/\(en y).length=sz)
 (hel:∀cs x,DataW.trod enc prog w base (fun _=>true) held n e cs=some x->X x.1->∃y,qh (KMw w) (en y) cs/\good y)
 {cs:List Value} {x:DataW H×List MemPlace} (h:DataW.trod enc prog w base (fun _=>true) held (n+1) t cs=some x) (hX:∀E S,x.1=.slice E S->∀d∈E,X d):
 ∃(l:List α) (v:Value),cs=[v]/\qg (KMw w) (.sl sz (l.map en) .none) v/\Fits l/\(∀y∈l,good y)/\∀N,(∀E S,x.1=.slice E S->E.length<=N)->l.length<=N:=by
 rcases DataW.trod_slice ht h with⟨rfl,rfl⟩|⟨a,len,cap,elems,rest,m,hm,rfl,rfl,hb,hl,hc,hlen,hel',hsp,_⟩
 . exact⟨[],_,rfl,by simp only[qg];exact .inl ⟨⟨none,rfl,.inl rfl⟩,rfl,trivial⟩,by simp,by simp,by simp⟩
 have hnm:n=m:=by omega
 subst hnm;rw[hsz]at hel' hsp;have one:∀i,i<len->∃y,∃cs',w.cells? base (a.add (i*sz)) sz=some cs'/\qh (KMw w) (en y) cs'/\good y:=by
  intro i hi;have:=hel' i hi;rw[qyH (by omega)]at this;obtain⟨cs',h1,h2⟩:=qz6.1 this;obtain⟨y,h3,h4⟩:=hel cs' _ h2 (hX _ _ rfl _ (List.mem_map_of_mem (qAV _)));exact⟨y,cs',h1,h3,h4⟩
 by_cases h0:cap=0
 . have hl0:len=0:=(by omega);subst h0 hl0;exact⟨[],_,rfl,by simp only[qg];exact .inl ⟨⟨some a,rfl,.inr trivial⟩,rfl,trivial⟩,by simp,by simp,by simp⟩
 have spot:a.spot=none:=by
  have rd:∃cs',w.cells? base (a.add 0) sz=some cs':=by
   by_cases hl0:0<len
   . obtain⟨_,cs',h1,_⟩:=one 0 hl0;rw[qAl]at h1;exact⟨cs',h1⟩
   obtain⟨hr1,hr2⟩:=hsp rfl;have:=hr2 0 (by omega);rw[qyH (by omega),show len+0=0 by omega,qAl]at this;obtain⟨cs',h1,_⟩:=qz6.1 this;exact⟨cs',h1⟩
  obtain⟨cs',h1⟩:=rd;obtain⟨_,hlen',hc'⟩:=World.cells?_some h1;have:=hc' 0 hpos;rw[qyH (by omega)]at this
  cases hs:a.spot with
  |none=>rfl
  | some s=>
   simp only[Addr.add,if_true]at this;unfold World.cell? at this;rw[hs]at this;split at this<;>simp at this
 obtain⟨b,o,s⟩:=a;simp only at spot;subst spot;obtain⟨l,hl1,hl2⟩:=YK len one;refine⟨l,_,rfl,?_,by rw[Fits,hl1];simp only[maxLen]at hc;omega,fun y hy=>?_,fun N hN=>?_⟩
 . simp only[qg];refine .inr ⟨b,o,cap,by simp[hl1],by simpa[hl1] using hl,qDf b sz _ o fun i r e=>?_,trivial⟩;rw[qy7,qyM]at e;obtain⟨y,hy,rfl⟩:=e;obtain⟨cs',h1,h2,_⟩:=hl2 i y hy;obtain⟨h3,h4⟩:=hat y;obtain⟨_,hlen',hc'⟩:=World.cells?_some h1;obtain⟨g1,g2⟩:=qh.get h2;refine⟨h4,h3,qDe b _ _ fun j z hz=>?_⟩;obtain⟨v,hv1,hv2⟩:=g2 j z hz;have hjl:j<sz:=(by rw[<- hlen'];exact(qyF.1 hv1).1);refine⟨v,?_,hv2⟩;have:=hc' j hjl;rw[hv1]at this;show w.cell? ⟨b,o+i*sz+j,none⟩=some v;rw[<- this];congr 1;simp only[Addr.add];by_cases hi0:i*sz=0
   . rw[if_pos hi0];by_cases hj0:j=0
     . rw[if_pos hj0,hi0,hj0];simp
     rw[if_neg hj0,hi0];simp
   rw[if_neg hi0];by_cases hj0:j=0
   . rw[if_pos hj0,hj0];simp
   rw[if_neg hj0]
 . obtain⟨i,hi⟩:=qzq hy;obtain⟨_,_,_,hg⟩:=hl2 i y hi;exact hg
 have:=hN _ _ rfl;simp only[qzk]at this;omega
def wJ{α:Type}{t e sz:Nat}{en:α->List AV}{good:α->Prop}{n:Nat}(ht:prog.underlying t=some (.slice e))(hsz:prog.cellsOf e=sz)(hpos:0<sz)
 (hat:∀y,(en y).all AV.atom=true/\(en y).length=sz)
 (hel:∀cs x,DataW.trod enc prog w base (fun _=>true) held n e cs=some x->∃y,qh (KMw w) (en y) cs/\good y)
 {cs:List Value} {x:DataW H×List MemPlace} (h:DataW.trod enc prog w base (fun _=>true) held (n+1) t cs=some x):
 ∃(l:List α) (v:Value),cs=[v]/\qg (KMw w) (.sl sz (l.map en) .none) v/\Fits l/\∀y∈l,good y:=by
 obtain⟨l,v,h1,h2,h3,h4,_⟩:=Yq (X:=fun _=>True) ht hsz hpos hat (fun cs x h _=>hel cs x h) h (fun _ _ _ _ _=>trivial);exact⟨l,v,h1,h2,h3,h4⟩
end
def qM(n:Int):Int:=n%65536
def qF(n):0<=qM n/\qM n<=65535:=by unfold qM;omega
def QN{n}(h0:0<=n)(h1:n<=65535):qM n=n:=by unfold qM;omega
def b2i(b:Bool):Int:=if b=true then 1 else 0
def Kl(b):0<=b2i b/\b2i b<=65535:=by cases b<;>simp[b2i]
def jD(env:List Signal)(name:Str):Option Int:=(env.find? fun s=>s.name==name).map fun s=>qM s.value
def atV(env:List Signal)(a:Str)(i:Int):Int:=if 0<=i/\i<8 then(jD env (zV a i.toNat)).getD 0 else 0
def qnk(env:List Signal)(a:Str):Nat->Int
 |0=>0
 |i+1=>qM (qnk env a i+atV env a i)
def kw(a:Nat):Nat->Nat
 |0=>0
 |i+1=>kw a i+(if a.testBit i=true then 1 else 0)
def unW(op a:Int):Int :=
 if op=4 then b2i (decide (a=0)) else if op=5 then 65535-qM a else if op=6 then qM (0-a) else(kw (qM a).toNat 16:Int)
def yK(op a b:Int):Int :=
 if op=7 then qM (a+b) else if op=8 then qM (a-b) else if op=9 then qM (a*b)
 else if op=10 then((a.toNat &&& b.toNat:Nat):Int) else if op=11 then((a.toNat ||| b.toNat:Nat):Int) else if op=12 then((a.toNat ^^^ b.toNat:Nat):Int)
 else if op=13 then(if 0<=b/\b<16 then qM (a*2^b.toNat) else 0)
 else if op=14 then(if 0<=b/\b<16 then qM a/2^b.toNat else 0)
 else if op=15 then b2i (decide (a=b)) else if op=16 then b2i (!decide (a=b)) else if op=17 then b2i (decide (a<b)) else if op=18 then b2i (decide (a<=b))
 else if op=19 then b2i (!decide (a=0)&&!decide (b=0)) else if op=20 then b2i (!decide (a=0)||!decide (b=0))
 else b2i (decide (a=0)||!decide (b=0))
def jJ(a:Int):List Int->Bool
 |x::y::r=>(decide (x<=a)&&decide (a<=y))||jJ a r
 |_=>false
def opW(op:Int)(l:List Int):Int :=
 if op=22 then(if l.getD 0 0≠0 then l.getD 1 0 else l.getD 2 0)
 else if op=23 then b2i (jJ (l.getD 0 0) l.tail)
 else match l with
  |[]=>0
  |[a]=>unW op a
  |a::b::_=>yK op a b
def QB(env:List Signal)(op n:Int)(name:Str)(l:List Int):Int :=
 if op=1 then n else if op=2 then(jD env name).getD 0 else if op=3 then atV env name (l.getD 0 0) else if op=24 then qnk env name 8 else opW op l
mutual
def yG(env:List Signal):Ex->Int
 |.mk op n name args=>QB env op n name (qgZ env args)
def qgZ(env:List Signal):List Ex->List Int
 |[]=>[]
 |e::r=>yG env e::qgZ env r
end
@[simp]def qkz(env):∀l,qgZ env l=l.map (yG env)
 |[]=>by simp[qgZ]
 |e::r=>by simp[qgZ,qkz env r]
def yH(env e):yG env e=QB env e.op e.n e.name (e.args.map (yG env)):=by cases e;simp[yG]
def qru(env:List Signal)(e:Ex):Bool :=
 if e.op=2 then(jD env e.name).isSome else if e.op=3\/e.op=24 then(jD env (zV e.name 0)).isSome else true
def wy(env:List Signal)(e:Ex):Bool:=(pre e).all (qru env)
noncomputable def KJ(env:List Signal)(e:Ex):Int:=if ze e≠0 then 1 else if wy env e=true then 0 else 7
noncomputable def yu(env:List Signal)(e:Ex):Int:=if ze e=0/\wy env e=true then yG env e else 0
def yL(e:Ex):Prop:=∀x∈pre e,qp x=0
def yL.self{e}(h:yL e):qp e=0:=h e (by rw[ju];simp)
def yL.arg{e a}(h:yL e)(ha:a∈e.args):yL a:=fun x hx=>h x (by rw[ju];exact qAk _ (Q6.2 ⟨a,ha,hx⟩))
def Z9{e}(h:ze e=0):yL e:=by
 unfold ze at h;split at h
 . cases h
 exact zz.1 h
def jk{e}(h:qp e=0):1<=e.op/\e.op<=25/\(e.op=1->0<=e.n/\e.n<=65535)/\(e.op≠1->e.n=0)/\qi e=true/\(e.op=2->kq e.name=true)/\(e.op=3\/e.op=24->zQ e.name=true)/\(¬(e.op=2\/e.op=3\/e.op=24)->e.name=[]):=by
 unfold qp at h;split at h
 . cases h
 rename_i h1;split at h
 . cases h
 rename_i h2;split at h
 . cases h
 rename_i h3;split at h
 . cases h
 rename_i h4;refine⟨by omega,by omega,fun h=>?_,fun h=>?_,?_,fun h=>?_,fun h=>?_,fun h=>?_⟩
 . apply Classical.byContradiction;intro hn;exact h2 (.inl ⟨h,by omega⟩)
 . apply Classical.byContradiction;intro hn;exact h2 (.inr ⟨h,hn⟩)
 . cases ho:qi e with
   |true=>rfl
   |false=>exact absurd (.inr ho) h3
 . cases ho:kq e.name with
   |true=>rfl
   |false=>exact absurd (.inl ⟨h,ho⟩) h4
 . cases ho:zQ e.name with
   |true=>rfl
   |false=>exact absurd (.inr ⟨h,ho⟩) h4
 apply Classical.byContradiction;intro hn;exact h3 (.inl ⟨h,hn⟩)
def wN{e}(h:qi e=true)(h23:e.op≠23):(e.args.length:Int)=zm e.op:=by
 unfold qi at h;rw[if_neg h23]at h;simpa using h
def Yz{e}(h:qi e=true)(h23:e.op=23):e.args.length%2=1/\3<=e.args.length/\e.args.length<=33:=by
 unfold qi at h;rw[if_pos h23]at h;simpa using h
def JN(a):∀i,kw a i<=i
 |0=>qyQ _
 | i+1=>by
  have:=JN a i;simp only[kw];split<;>omega
def Y2{env name v}(h:jD env name=some v):0<=v/\v<=65535:=by
 unfold jD at h;obtain⟨s,_,rfl⟩:=qyM.1 h;exact qF _
def ZJ{o:Option Int}(h:∀v,o=some v->0<=v/\v<=65535):0<=o.getD 0/\o.getD 0<=65535:=by
 cases o with
 |none=>simp
 |some v=>exact h v rfl
def qjK(env a i):0<=atV env a i/\atV env a i<=65535:=by
 unfold atV;split
 . exact ZJ fun v h=>Y2 h
 omega
def qft(env a):∀i,0<=qnk env a i/\qnk env a i<=65535
 |0=>by simp[qnk]
 |i+1=>qF _
def qhb(op a):0<=unW op a/\unW op a<=65535:=by
 unfold unW;split
 . exact Kl _
 split
 . have:=qF a;omega
 split
 . exact qF _
 have:=JN (qM a).toNat 16;omega
def qaJ{a:Int}(n:Nat)(h0:0<=a)(h1:a<=65535):0<=a/2^n/\a/2^n<=65535:=by
 have hp:(0:Int)<2^n:=qCm (by omega);refine⟨Int.ediv_nonneg h0 (by omega),?_⟩;have:=Int.ediv_le_self (2^n) h0;omega
def InW(n:Int):Prop:=0<=n/\n<=65535
def InW.ite{c:Prop}[Decidable c]{a b}(ha:InW a)(hb:InW b):InW (if c then a else b):=by
 split
 . exact ha
 exact hb
def qgr(op){a b}(ha0:0<=a)(ha1:a<=65535)(hb0:0<=b)(hb1:b<=65535):0<=yK op a b/\yK op a b<=65535:=by
 obtain⟨x,rfl⟩:=qzg ha0;obtain⟨y,rfl⟩:=qzg hb0;have hx:x<2^16:=by omega
 have hy:y<2^16:=by omega
 have o1:=Nat.and_lt_two_pow (n:=16) x hy;have o2:=Nat.or_lt_two_pow (n:=16) hx hy;have o3:=Nat.xor_lt_two_pow (n:=16) hx hy;show InW (yK op x y);unfold yK;simp only[qzt]
 repeat' apply InW.ite
 all_goals first|exact qF _|exact Kl _|exact qaJ _ (qF _).1 (qF _).2|(unfold InW;omega)
def qfn(env):∀e,yL e->0<=yG env e/\yG env e<=65535:=by
 refine qDa fun e ih hn=>?_
 have hm:∀x∈e.args.map (yG env),0<=x/\x<=65535:=by
  intro x hx;obtain⟨a,ha,rfl⟩:=qza.1 hx;exact ih a ha (hn.arg ha)
 have hg:∀i,0<=(e.args.map (yG env)).getD i 0/\(e.args.map (yG env)).getD i 0<=65535:=by
  intro i;rw[qyS];exact ZJ fun v h=>hm v (qyG h)
 obtain⟨h1,h2,h3,_⟩:=jk hn.self;rw[yH];unfold QB;split
 . rename_i h;exact h3 h
 split
 . exact ZJ fun v h=>Y2 h
 split
 . exact qjK _ _ _
 split
 . exact qft _ _ _
 unfold opW;split
 . split
   . exact hg 1
   . exact hg 2
 split
 . exact Kl _
 split
 . omega
 . exact qhb _ _
 rename_i a b r hl;rw[hl]at hm;exact qgr _ (hm a (by simp)).1 (hm a (by simp)).2 (hm b (by simp)).1 (hm b (by simp)).2
def ki(l:List Var)(a:List Int):List Signal:=if a.length=l.length then(l.zip a).map fun q=>⟨q.1.name,q.2⟩ else []
def jl(q:Var×Int):Bool:=decide (0<=q.2)&&decide (q.2<2^q.1.width.toNat)&&(!decide (q.1.mode=0)||decide (q.2=q.1.value))
def qK(l:List Var)(a:List Int):Bool:=decide (a.length=l.length)&&(l.zip a).all jl
noncomputable def jw(p:Problem)(a:List Int)(e:Ex):Bool :=
 decide (qk p=0)&&qK p.vars a&&decide (KJ (ki p.vars a) e=0)&&!decide (yu (ki p.vars a) e=0)
def qcr{p}(h:qk p=0):∀v∈p.vars,jK v=0:=by
 unfold qk at h;split at h
 . rename_i hn;exact absurd h hn
 rename_i hv;have hv:=qzB.1 hv;unfold zW at hv;split at hv
 . cases hv
 split at hv
 . rename_i hn;exact absurd hv hn
 rename_i hz;exact zz.1 (qzB.1 hz)
def z7(v:Var):Nat:=2^v.width.toNat
def qH:List Var->List Int->List Int×Bool
 | v::vs,x::xs=>
  if(qH vs xs).2=false then(x::(qH vs xs).1,false)
  else if v.mode=0 then(x::(qH vs xs).1,true)
  else if x+1<(z7 v:Nat) then((x+1)::(qH vs xs).1,false)
  else(0::(qH vs xs).1,true)
 |_,_=>([],true)
def zG(vs:List Var):List Int:=vs.map fun v=>if v.mode=0 then v.value else 0
def jF:List Var->List (List Int)
 |[]=>[[]]
 |v::vs=>if v.mode=0 then(jF vs).map (v.value::·) else(List.range (z7 v)).flatMap fun n:Nat=>(jF vs).map ((n:Int)::·)
def wR:List Var->List Int->List (List Int)
 |v::vs,x::xs=>if v.mode=0 then(wR vs xs).map (x::·) else(wR vs xs).map (x::·)++(List.range' (x.toNat+1) (z7 v-1-x.toNat)).flatMap fun n:Nat=>(jF vs).map ((n:Int)::·)
 |_,_=>[[]]
def Kp{v vs}(h:v.mode=0):jF (v::vs)=(jF vs).map (v.value::·):=by rw[jF,if_pos h]
def Kq{v vs}(h:¬v.mode=0):jF (v::vs)=(List.range (z7 v)).flatMap fun n:Nat=>(jF vs).map ((n:Int)::·):=by rw[jF,if_neg h]
def JP{v vs x xs}(h:v.mode=0):wR (v::vs) (x::xs)=(wR vs xs).map (x::·):=by rw[wR,if_pos h]
def v7{v vs x xs}(h:¬v.mode=0):wR (v::vs) (x::xs)=(wR vs xs).map (x::·)++(List.range' (x.toNat+1) (z7 v-1-x.toNat)).flatMap fun n:Nat=>(jF vs).map ((n:Int)::·):=by rw[wR,if_neg h]
def okA:List Var->List Int->Prop
 |[],[]=>True
 |v::vs,x::xs=>(if v.mode=0 then x=v.value else 0<=x/\x<(z7 v:Nat))/\okA vs xs
 |_,_=>False
def Ye(v):0<z7 v:=qAi _
def okA.len:∀{vs:List Var}{a:List Int},okA vs a->a.length=vs.length
 |[],[],_=>rfl
 |_::vs,_::xs,h=>by simp[okA.len h.2]
 |[],_::_,h=>h.elim
 |_::_,[],h=>h.elim
def Q2:∀(vs),okA vs (zG vs)
 |[]=>trivial
 | v::vs=>by
  have:=Ye v;show okA (v::vs) ((if v.mode=0 then v.value else 0)::zG vs);refine⟨?_,Q2 vs⟩;by_cases h:v.mode=0
  . rw[if_pos h,if_pos h]
  rw[if_neg h,if_neg h];omega
def Q1:∀{vs:List Var}{a:List Int},okA vs a->okA vs (qH vs a).1
 |[],[],_=>trivial
 | v::vs,x::xs,h=>by
  have h1:=Q1 h.2;have h2:=h.1;have:=Ye v;unfold qH;split
  . exact⟨h2,h1⟩
  split
  . exact⟨h2,h1⟩
  rename_i hm;rw[if_neg hm]at h2;split
  . refine⟨?_,h1⟩;rw[if_neg hm];omega
  refine⟨?_,h1⟩;rw[if_neg hm];omega
 |[],_::_,h=>h.elim
 |_::_,[],h=>h.elim
def qaG:∀{vs:List Var}{a:List Int},okA vs a->(qH vs a).2=true->(qH vs a).1=zG vs
 |[],[],_,_=>rfl
 | v::vs,x::xs,h,ho=>by
  have h2:=h.1;unfold qH at ho⊢;by_cases h1:(qH vs xs).2=false
  . rw[if_pos h1]at ho;cases ho
  have h1':(qH vs xs).2=true:=by simpa using h1
  have ih:=qaG h.2 h1';rw[if_neg h1]at ho⊢;show _=(if v.mode=0 then v.value else 0)::zG vs;by_cases hm:v.mode=0
  . rw[if_pos hm]at h2⊢;rw[if_pos hm,ih,h2]
  rw[if_neg hm]at ho⊢;rw[if_neg hm];by_cases hx:x+1<(z7 v:Nat)
  . rw[if_pos hx]at ho;cases ho
  rw[if_neg hx,ih]
 |[],_::_,h,_=>h.elim
 |_::_,[],h,_=>h.elim
def qfH{n}(h:0<n):List.range n=0::List.range' 1 (n-1):=by
 cases n with
 |zero=>omega
 |succ n=>rw[qAB,qAI];simp
def yX:∀(vs),wR vs (zG vs)=jF vs
 |[]=>rfl
 | v::vs=>by
  show wR (v::vs) ((if v.mode=0 then v.value else 0)::zG vs)=_;by_cases h:v.mode=0
  . rw[if_pos h,JP h,Kp h,yX vs]
  rw[if_neg h,v7 h,Kq h,yX vs,qfH (Ye v),qy5];rfl
def kf:∀{vs:List Var}{a:List Int},okA vs a->wR vs a=a::if(qH vs a).2=true then [] else wR vs (qH vs a).1
 |[],[],_=>rfl
 | v::vs,x::xs,h=>by
  have ih:=kf h.2;have h2:=h.1;by_cases h1:(qH vs xs).2=false
  . have e:qH (v::vs) (x::xs)=(x::(qH vs xs).1,false):=(by rw[qH,if_pos h1]);rw[h1,if_neg (by simp)]at ih;rw[e,if_neg (by simp)];by_cases hm:v.mode=0
    . rw[JP hm,JP hm,ih];rfl
    rw[v7 hm,v7 hm,ih];rfl
  have h1':(qH vs xs).2=true:=by simpa using h1
  rw[h1',if_pos rfl]at ih;by_cases hm:v.mode=0
  . have e:qH (v::vs) (x::xs)=(x::(qH vs xs).1,true):=(by rw[qH,if_neg h1,if_pos hm]);rw[e,if_pos rfl,JP hm,ih];rfl
  rw[if_neg hm]at h2;by_cases hx:x+1<(z7 v:Nat)
  . have e:qH (v::vs) (x::xs)=((x+1)::(qH vs xs).1,false):=(by rw[qH,if_neg h1,if_neg hm,if_pos hx]);have e1:(x+1).toNat=x.toNat+1:=(by omega);have e2:z7 v-1-x.toNat=(z7 v-1-(x.toNat+1))+1:=(by omega);have e3:((x.toNat+1:Nat):Int)=x+1:=(by omega);rw[e,if_neg (by simp),v7 hm,ih,v7 hm,qaG h.2 h1',yX,e1,e2,qAI,qy5,e3];rfl
  have e:qH (v::vs) (x::xs)=(0::(qH vs xs).1,true):=by rw[qH,if_neg h1,if_neg hm,if_neg hx]
  have e2:z7 v-1-x.toNat=0:=by omega
  rw[e,if_pos rfl,v7 hm,ih,e2];rfl
 |[],_::_,h=>h.elim
 |_::_,[],h=>h.elim
def QK:∀(vs),(jF vs).length=2^((vs.map fun v=>if v.mode=0 then 0 else v.width.toNat).sum)
 |[]=>rfl
 | v::vs=>by
  by_cases h:v.mode=0
  . rw[Kp h,qzk,QK vs];simp[h]
  rw[Kq h];have:∀(l:List Nat),(l.flatMap fun n:Nat=>(jF vs).map ((n:Int)::·)).length=l.length*(jF vs).length:=by
   intro l
   induction l with
   |nil=>simp
   |cons a r ih=>rw[qy5,qyK,ih,qzk,qyY,qA8,qAt]
  rw[this,qB5,QK vs];simp only[qyR,if_neg h,qA4,qBq,z7]
def kl:∀{vs:List Var}{a:List Int},a∈jF vs↔okA vs a
 | [],a=>by
  cases a with
  |nil=>simp[jF,okA]
  |cons x xs=>simp[jF,okA]
 | v::vs,a=>by
  by_cases h:v.mode=0
  . rw[Kp h,qza];constructor
    . rintro⟨b,hb,rfl⟩;exact⟨by rw[if_pos h],kl.1 hb⟩
    intro hk
    cases a with
    |nil=>exact hk.elim
    | cons x xs=>
     have h1:=hk.1;rw[if_pos h]at h1;exact⟨xs,kl.2 hk.2,by rw[h1]⟩
  rw[Kq h,List.mem_flatMap];constructor
  . rintro⟨n,hn,hb'⟩;obtain⟨b,hb,rfl⟩:=qza.1 hb';have:=qzP.1 hn;exact⟨by rw[if_neg h];omega,kl.1 hb⟩
  intro hk
  cases a with
  |nil=>exact hk.elim
  | cons x xs=>
   have h1:=hk.1;rw[if_neg h]at h1;refine⟨x.toNat,qzP.2 (by omega),qza.2 ⟨xs,kl.2 hk.2,?_⟩⟩;rw[Int.toNat_of_nonneg h1.1]
noncomputable def j9(vs:List Var)(l:List Ex)(a:List Int):Bool:=l.all fun e=>decide (yu (ki vs a) e≠0)
noncomputable def qce(vs:List Var)(l:List Ex):Nat->List Int->Option (List Int)×Bool
 |0,_=>(none,false)
 |k+1,a=>if j9 vs l a then(some a,(qH vs a).2) else if(qH vs a).2 then(none,true) else qce vs l k (qH vs a).1
def qey{vs l}:∀(k){a:List Int},okA vs a->(wR vs a).length<=k->(qce vs l k a).1=(wR vs a).find? (j9 vs l)/\((qce vs l k a).1=none->(qce vs l k a).2=true)
 |0,a,h,hk=>by rw[kf h]at hk;simp at hk
 | k+1,a,h,hk=>by
  rw[kf h]at hk⊢;unfold qce;rw[qBO];by_cases hs:j9 vs l a=true
  . rw[if_pos hs,hs];exact⟨rfl,fun e=>by cases e⟩
  rw[if_neg hs];have hs':j9 vs l a=false:=by simpa using hs
  rw[hs'];by_cases ho:(qH vs a).2=true
  . rw[if_pos ho,if_pos ho];exact⟨rfl,fun _=>rfl⟩
  rw[if_neg ho,if_neg ho];rw[if_neg ho]at hk;exact qey k (Q1 h) (by simp at hk;omega)
noncomputable def jT(vs:List Var)(l:List Ex):Bool:=(jF vs).any (j9 vs l)
def ql8{vs l k}(hk:(jF vs).length<=k):((qce vs l k (zG vs)).1.isSome=jT vs l)/\((qce vs l k (zG vs)).1=none->(qce vs l k (zG vs)).2=true):=by
 have:=qey (l:=l) k (Q2 vs) (by rwa[yX]);rw[yX]at this;refine⟨?_,this.2⟩;rw[this.1,jT];generalize jF vs=L
 induction L with
 |nil=>rfl
 |cons a r ih=>rw[qBO,qAS];cases j9 vs l a<;>simp[ih]
def ve(l:List Var)(a:List Int):List Signal:=(l.zip a).map fun q=>⟨q.1.name,q.2⟩
def ZP(l a):ki l a=if a.length=l.length then ve l a else []:=rfl
def Qc{l:List Var}{a:List Int}{i:Nat}{v:Var}{x:Int}(h:l[i]?=some v)(h':a[i]?=some x):(ve l a)[i]?=some ⟨v.name,x⟩:=by
 unfold ve;rw[qy7,(qAo (z:=(v,x))).2 ⟨h,h'⟩];rfl
def yz{l a}(h:a.length=l.length):(ve l a).length=l.length:=by simp[ve,h]
def qmp{l a}:(ki l a).length<=l.length:=by
 rw[ZP];split
 . rename_i h;rw[yz h];exact qyQ _
 simp
