import Derived.Test.YtdapogpjhljhaaaGreatDoorProg
import Derived.KernelRfl
import Derived.Test.YtdapogpjhljhaaaGreatDoorCs04
import Derived.Laws.RangeAny
import Derived.Shelf.Lay
import Derived.Shelf.Strings.Search1
import Derived.WalkKit
import Derived.ChangeArms
import Derived.DataReads
set_option maxRecDepth 100000
set_option maxHeartbeats 16000000
set_option linter.all false
set_option linter.defProp false
namespace Go.Proofs.YtdapogpjhljhaaaGreatDoor
open Go Go.Abs Tryz Go.RowKit
@[simp]def D1:Dof prog 1=some ⟨1,8,[.nilf],.nilf,.fn,true⟩:=by kernel_rfl
@[simp]def D2:Dof prog 2=some ⟨1,8,[.int .i64 0],.int .i64 0,.int .i64,true⟩:=by kernel_rfl
@[simp]def D3:Dof prog 3=some ⟨1,8,[.int .i64 0],.int .i64 0,.int .i64,true⟩:=by kernel_rfl
@[simp]def D4:Dof prog 4=some ⟨1,1,[.bool false],.bool false,.bool,true⟩:=by kernel_rfl
@[simp]def D5:Dof prog 5=some ⟨1,1,[.int .u8 0],.int .u8 0,.int .u8,true⟩:=by kernel_rfl
@[simp]def D9:Dof prog 9=some ⟨1,16,[.str []],.str [],.str,true⟩:=by kernel_rfl
@[simp]def D22:Dof prog 22=some ⟨1,24,[.sl 0 [] .nil],.sl 0 [] .nil,.sl 58,true⟩:=by kernel_rfl
@[simp]def D23:Dof prog 23=some ⟨1,24,[.sl 0 [] .nil],.sl 0 [] .nil,.sl 61,true⟩:=by kernel_rfl
@[simp]def D24:Dof prog 24=some ⟨1,24,[.sl 0 [] .nil],.sl 0 [] .nil,.sl 46,true⟩:=by kernel_rfl
@[simp]def D25:Dof prog 25=some ⟨1,24,[.sl 0 [] .nil],.sl 0 [] .nil,.sl 36,true⟩:=by kernel_rfl
@[simp]def D27:Dof prog 27=some ⟨5,120,[.sl 0 [] .nil,.sl 0 [] .nil,.sl 0 [] .nil,.sl 0 [] .nil,.sl 0 [] .nil],.agg [.sl 0 [] .nil,.sl 0 [] .nil,.sl 0 [] .nil,.sl 0 [] .nil,.sl 0 [] .nil],.st [(0,22),(1,23),(2,23),(3,24),(4,25)],true⟩:=by kernel_rfl
@[simp]def D29:Dof prog 29=some ⟨1,24,[.sl 0 [] .nil],.agg [.sl 0 [] .nil],.st [(0,25)],true⟩:=by kernel_rfl
@[simp]def D30:Dof prog 30=some ⟨1,8,[.int .u64 0],.int .u64 0,.int .u64,true⟩:=by kernel_rfl
@[simp]def D32:Dof prog 32=some ⟨2,16,[.int .u64 0,.int .u64 0],.agg [.int .u64 0,.int .u64 0],.st [(0,30),(1,30)],true⟩:=by kernel_rfl
@[simp]def D36:Dof prog 36=some ⟨1,24,[.sl 0 [] .nil],.sl 0 [] .nil,.sl 3,true⟩:=by kernel_rfl
@[simp]def D37:Dof prog 37=some ⟨1,8,[.int .i64 0],.int .i64 0,.int .i64,true⟩:=by kernel_rfl
@[simp]def D44:Dof prog 44=some ⟨1,24,[.sl 0 [] .nil],.sl 0 [] .nil,.sl 108,true⟩:=by kernel_rfl
@[simp]def D46:Dof prog 46=some ⟨2,32,[.int .i64 0,.sl 0 [] .nil],.agg [.int .i64 0,.sl 0 [] .nil],.st [(0,3),(1,44)],true⟩:=by kernel_rfl
@[simp]def D58:Dof prog 58=some ⟨4,40,[.str [],.int .i64 0,.int .i64 0,.int .i64 0],.agg [.str [],.int .i64 0,.int .i64 0,.int .i64 0],.st [(0,9),(1,3),(2,3),(3,3)],true⟩:=by kernel_rfl
@[simp]def D61:Dof prog 61=some ⟨4,56,[.int .i64 0,.int .i64 0,.str [],.sl 0 [] .nil],.agg [.int .i64 0,.int .i64 0,.str [],.sl 0 [] .nil],.st [(0,3),(1,3),(2,9),(3,23)],true⟩:=by kernel_rfl
@[simp]def D66:Dof prog 66=some ⟨1,8,[.int .u64 0],.int .u64 0,.int .u64,true⟩:=by kernel_rfl
@[simp]def D77:Dof prog 77=some ⟨1,8,[.nilf],.nilf,.fn,true⟩:=by kernel_rfl
@[simp]def D97:Dof prog 97=some ⟨1,24,[.sl 0 [] .nil],.sl 0 [] .nil,.sl 9,true⟩:=by kernel_rfl
@[simp]def D99:Dof prog 99=some ⟨5,72,[.int .i64 0,.int .i64 0,.int .i64 0,.sl 0 [] .nil,.sl 0 [] .nil],.agg [.int .i64 0,.int .i64 0,.int .i64 0,.sl 0 [] .nil,.sl 0 [] .nil],.st [(0,3),(1,3),(2,37),(3,97),(4,97)],true⟩:=by kernel_rfl
@[simp]def qBj:Dof prog 108=some ⟨4,32,[.int .i64 0,.int .i64 0,.int .i64 0,.bool false],.agg [.int .i64 0,.int .i64 0,.int .i64 0,.bool false],.st [(0,3),(1,3),(2,3),(3,4)],true⟩:=by kernel_rfl
@[simp]def qBi:Dof prog 109=some ⟨1,24,[.sl 0 [] .nil],.sl 0 [] .nil,.sl 77,true⟩:=by kernel_rfl
@[simp]def qBh:Dof prog 121=some ⟨1,24,[.sl 0 [] .nil],.sl 0 [] .nil,.sl 4,true⟩:=by kernel_rfl
@[simp]def qBg:Dof prog 124=some ⟨1,8,[.nilf],.nilf,.fn,true⟩:=by kernel_rfl
@[simp]def qBf:Dof prog 126=some ⟨1,24,[.sl 0 [] .nil],.sl 0 [] .nil,.sl 207,true⟩:=by kernel_rfl
@[simp]def qBe:Dof prog 128=some ⟨1,24,[.sl 0 [] .nil],.agg [.sl 0 [] .nil],.st [(0,126)],true⟩:=by kernel_rfl
@[simp]def qBd:Dof prog 130=some ⟨11,216,[.sl 0 [] .nil,.sl 0 [] .nil,.sl 0 [] .nil,.sl 0 [] .nil,.sl 0 [] .nil,.sl 0 [] .nil,.sl 0 [] .nil,.sl 0 [] .nil,.int .i64 0,.bool false,.nilf],.agg [.sl 0 [] .nil,.sl 0 [] .nil,.sl 0 [] .nil,.sl 0 [] .nil,.sl 0 [] .nil,.sl 0 [] .nil,.sl 0 [] .nil,.sl 0 [] .nil,.int .i64 0,.bool false,.nilf],.st [(0,27),(5,23),(6,36),(7,128),(8,3),(9,4),(10,124)],true⟩:=by kernel_rfl
@[simp]def qBc:Dof prog 137=some ⟨1,8,[.nilp],.nilp,.ptr 32,true⟩:=by kernel_rfl
@[simp]def qBb:Dof prog 139=some ⟨1,8,[.nilm],.nilm,.map 3 3,true⟩:=by kernel_rfl
@[simp]def qBa:Dof prog 152=some ⟨1,8,[.nilf],.nilf,.fn,true⟩:=by kernel_rfl
@[simp]def qA9:Dof prog 157=some ⟨1,24,[.sl 0 [] .nil],.sl 0 [] .nil,.sl 23,true⟩:=by kernel_rfl
@[simp]def qA8:Dof prog 166=some ⟨1,24,[.sl 0 [] .nil],.sl 0 [] .nil,.sl 44,true⟩:=by kernel_rfl
@[simp]def qx2:Dof prog 173=some ⟨1,8,[.nilm],.nilm,.map 175 3,true⟩:=by kernel_rfl
@[simp]def qA7:Dof prog 175=some ⟨2,16,[.int .i64 0,.int .i64 0],.agg [.int .i64 0,.int .i64 0],.st [(0,3),(1,3)],true⟩:=by kernel_rfl
@[simp]def qA6:Dof prog 199=some ⟨9,184,[.sl 0 [] .nil,.sl 0 [] .nil,.sl 0 [] .nil,.sl 0 [] .nil,.sl 0 [] .nil,.sl 0 [] .nil,.sl 0 [] .nil,.bool false,.int .i64 0],.agg [.sl 0 [] .nil,.sl 0 [] .nil,.sl 0 [] .nil,.sl 0 [] .nil,.sl 0 [] .nil,.sl 0 [] .nil,.sl 0 [] .nil,.bool false,.int .i64 0],.st [(0,27),(5,23),(6,36),(7,4),(8,3)],true⟩:=by kernel_rfl
@[simp]def qAh:Dof prog 202=some ⟨1,24,[.sl 0 [] .nil],.sl 0 [] .nil,.sl 251,true⟩:=by kernel_rfl
@[simp]def qA5:Dof prog 207=some ⟨3,24,[.int .i64 0,.int .i64 0,.int .i64 0],.agg [.int .i64 0,.int .i64 0,.int .i64 0],.st [(0,3),(1,3),(2,3)],true⟩:=by kernel_rfl
@[simp]def qA4:Dof prog 208=some ⟨1,8,[.nilp],.nilp,.ptr 218,true⟩:=by kernel_rfl
@[simp]def qA3:Dof prog 214=some ⟨16,128,[.int .i64 0,.int .i64 0,.int .i64 0,.int .i64 0,.int .i64 0,.int .i64 0,.int .i64 0,.int .i64 0,.int .i64 0,.int .i64 0,.int .i64 0,.int .i64 0,.int .i64 0,.int .i64 0,.int .i64 0,.int .i64 0],.agg [.int .i64 0,.int .i64 0,.int .i64 0,.int .i64 0,.int .i64 0,.int .i64 0,.int .i64 0,.int .i64 0,.int .i64 0,.int .i64 0,.int .i64 0,.int .i64 0,.int .i64 0,.int .i64 0,.int .i64 0,.int .i64 0],.arr 16 3,true⟩:=by kernel_rfl
@[simp]def qA2:Dof prog 216=some ⟨1,8,[.nilm],.nilm,.map 9 3,true⟩:=by kernel_rfl
@[simp]def qA1:Dof prog 218=some ⟨8,176,[.sl 0 [] .nil,.sl 0 [] .nil,.sl 0 [] .nil,.sl 0 [] .nil,.sl 0 [] .nil,.sl 0 [] .nil,.sl 0 [] .nil,.nilm],.agg [.sl 0 [] .nil,.sl 0 [] .nil,.sl 0 [] .nil,.sl 0 [] .nil,.sl 0 [] .nil,.sl 0 [] .nil,.sl 0 [] .nil,.nilm],.st [(0,128),(1,27),(6,36),(7,216)],true⟩:=by kernel_rfl
@[simp]def qA0:Dof prog 221=some ⟨3,24,[.int .i64 0,.int .i64 0,.int .i64 0],.agg [.int .i64 0,.int .i64 0,.int .i64 0],.st [(0,3),(1,3),(2,3)],true⟩:=by kernel_rfl
@[simp]def qAZ:Dof prog 222=some ⟨1,8,[.nilf],.nilf,.fn,true⟩:=by kernel_rfl
@[simp]def qAG:Dof prog 230=some ⟨1,24,[.sl 0 [] .nil],.sl 0 [] .nil,.sl 248,true⟩:=by kernel_rfl
@[simp]def qAY:Dof prog 240=some ⟨1,24,[.sl 0 [] .nil],.sl 0 [] .nil,.sl 5,true⟩:=by kernel_rfl
@[simp]def qAF:Dof prog 248=some ⟨2,24,[.str [],.int .i64 0],.agg [.str [],.int .i64 0],.st [(0,9),(1,3)],true⟩:=by kernel_rfl
@[simp]def qAg:Dof prog 251=some ⟨2,16,[.int .i64 0,.int .i64 0],.agg [.int .i64 0,.int .i64 0],.st [(0,3),(1,3)],true⟩:=by kernel_rfl
@[simp]def qAX:Dof prog 263=some ⟨1,24,[.sl 0 [] .nil],.sl 0 [] .nil,.sl 214,true⟩:=by kernel_rfl
@[simp]def qAW:Dof prog 273=some ⟨1,8,[.nilp],.nilp,.ptr 314,true⟩:=by kernel_rfl
@[simp]def qx1:Dof prog 275=some ⟨1,8,[.nilm],.nilm,.map 221 3,true⟩:=by kernel_rfl
@[simp]def qAV:Dof prog 277=some ⟨3,24,[.nilp,.nilf,.nilm],.agg [.nilp,.nilf,.nilm],.st [(0,273),(1,222),(2,275)],true⟩:=by kernel_rfl
@[simp]def qAU:Dof prog 298=some ⟨1,24,[.sl 0 [] .nil],.agg [.sl 0 [] .nil],.st [(0,230)],true⟩:=by kernel_rfl
@[simp]def qAf:Dof prog 304=some ⟨1,8,[.nilm],.nilm,.map 207 4,true⟩:=by kernel_rfl
@[simp]def qx0:Dof prog 312=some ⟨1,8,[.nilm],.nilm,.map 207 3,true⟩:=by kernel_rfl
@[simp]def qAT:Dof prog 314=some ⟨3,40,[.sl 0 [] .nil,.nilm,.bool false],.agg [.sl 0 [] .nil,.nilm,.bool false],.st [(0,126),(1,312),(2,4)],true⟩:=by kernel_rfl
@[simp]def qAS:Dof prog 316=some ⟨1,8,[.nilm],.nilm,.map 9 4,true⟩:=by kernel_rfl
@[simp]def qAR:Dof prog 326=some ⟨24,24,[.int .u8 0,.int .u8 0,.int .u8 0,.int .u8 0,.int .u8 0,.int .u8 0,.int .u8 0,.int .u8 0,.int .u8 0,.int .u8 0,.int .u8 0,.int .u8 0,.int .u8 0,.int .u8 0,.int .u8 0,.int .u8 0,.int .u8 0,.int .u8 0,.int .u8 0,.int .u8 0,.int .u8 0,.int .u8 0,.int .u8 0,.int .u8 0],.agg [.int .u8 0,.int .u8 0,.int .u8 0,.int .u8 0,.int .u8 0,.int .u8 0,.int .u8 0,.int .u8 0,.int .u8 0,.int .u8 0,.int .u8 0,.int .u8 0,.int .u8 0,.int .u8 0,.int .u8 0,.int .u8 0,.int .u8 0,.int .u8 0,.int .u8 0,.int .u8 0,.int .u8 0,.int .u8 0,.int .u8 0,.int .u8 0],.arr 24 5,true⟩:=by kernel_rfl
@[simp]def qAQ:Dof prog 345=some ⟨1,2,[.int .u16 0],.int .u16 0,.int .u16,true⟩:=by kernel_rfl
abbrev Str:=List UInt8
structure Var where
 name:Str
 width:Int
 mode:Int
 value:Int
structure Weight where
 lo:Int
 hi:Int
 weight:Int
 each:Bool
structure Dist where
 var:Int
 weights:List Weight
inductive Ex where
 |mk (op n:Int) (name:Str) (args:List Ex)
structure Problem where
 vars:List Var
 hard:List Ex
 soft:List Ex
 dists:List Dist
 groups:List (List Int)
structure Signal where
 name:Str
 value:Int
def Ex.op:Ex->Int|.mk o _ _ _=>o
def Ex.n:Ex->Int|.mk _ n _ _=>n
def Ex.name:Ex->Str|.mk _ _ s _=>s
def Ex.args:Ex->List Ex|.mk _ _ _ a=>a
@[simp]def Ex.op_mk{o n s a}:(Ex.mk o n s a).op=o:=rfl
def qFy:=@Ex.op_mk
@[simp]def Ex.n_mk{o n s a}:(Ex.mk o n s a).n=n:=rfl
def qFz:=@Ex.n_mk
@[simp]def Ex.name_mk{o n s a}:(Ex.mk o n s a).name=s:=rfl
def qFA:=@Ex.name_mk
@[simp]def Ex.args_mk{o n s a}:(Ex.mk o n s a).args=a:=rfl
def qFB:=@Ex.args_mk
@[simp]def qu(v:Var):List AV:=[.str v.name,.int .i64 v.width,.int .i64 v.mode,.int .i64 v.value]
@[simp]def qC(w:Weight):List AV:=[.int .i64 w.lo,.int .i64 w.hi,.int .i64 w.weight,.bool w.each]
@[simp]def zu(d:Dist):List AV:=[.int .i64 d.var,.sl 4 (d.weights.map qC) .none]
@[simp]def qf(n:Int):List AV:=[.int .i64 n]
@[simp]def jo(s:Str):List AV:=[.str s]
@[simp]def qN(s:Signal):List AV:=[.str s.name,.int .i64 s.value]
mutual
def qo:Ex->List AV
 |.mk o n s a=>[.int .i64 o,.int .i64 n,.str s,.sl 4 (qip a) .none]
def qip:List Ex->List (List AV)
 |[]=>[]
 |a::r=>qo a::qip r
end
@[simp]def qoW:∀l,qip l=l.map qo
 |[]=>rfl
 |a::r=>by simp[qip,qoW r]
def qd(e):qo e=[.int .i64 e.op,.int .i64 e.n,.str e.name,.sl 4 (e.args.map qo) .none]:=by cases e;simp[qo]
@[simp]def qn(l:List Int):List AV:=[.sl 1 (l.map qf) .none]
@[simp]def qw(p:Problem):List AV:=[.sl 4 (p.vars.map qu) .none,.sl 4 (p.hard.map qo) .none,.sl 4 (p.soft.map qo) .none,.sl 2 (p.dists.map zu) .none,.sl 1 (p.groups.map qn) .none]
@[simp]def qyK(l:List Var):qM (l.map qu)=true:=zj (fun x=>by simp) l
@[simp]def qw8(l:List Weight):qM (l.map qC)=true:=zj (fun x=>by simp) l
@[simp]def qzM(l:List Dist):qM (l.map zu)=true:=zj (fun x=>by simp) l
@[simp]def qAp(l:List Int):qM (l.map qf)=true:=zj (fun x=>by simp) l
@[simp]def qAo(l:List Str):qM (l.map jo)=true:=zj (fun x=>by simp) l
@[simp]def qw9(l:List Signal):qM (l.map qN)=true:=zj (fun x=>by simp) l
@[simp]def qzL(l:List (List Int)):qM (l.map qn)=true:=zj (fun x=>by simp) l
mutual
def qiX:∀e,qr (qo e)=true
 | .mk o n s a=>by
  have:=qve a;simp[qo,this];simpa using this
def qve:∀l,qM (qip l)=true
 |[]=>rfl
 |a::r=>by simp only[qip,qM,qiX a,qve r,qFn]
end
@[simp]def nrE(e):qr (qo e)=true:=qiX e
@[simp]def qvf(l:List Ex):qM (l.map qo)=true:=zj (fun x=>nrE x) l
def qcN:Tryz.prog.follows .mixedOrders=true:=by kernel_rfl
abbrev Fits{α:Type}(l:List α):Prop:=l.length<9223372036854775808
def zx{α:Type}(p:α->Bool):List α->Int->Int
 |[],_=>-1
 |v::r,i=>if p v then i else zx p r (i+1)
def qbd{α p}:∀{l:List α}{i:Int},0<=i->(0<=zx p l i↔l.any p=true)
 |[],i,_=>by simp[zx]
 | v::r,i,h=>by
  simp only[zx,qDf];split
  . rename_i a;simp[a,h]
  rename_i a;simp[a,qbd (l:=r) (i:=i+1) (by omega)]
@[simp]def qlp{α:Type}(p:α->Bool)(l:List α):decide (0<=zx p l 0)=l.any p:=by
 rw[qCo,decide_eq_true_iff];exact qbd (by omega)
def qdQ:List Str:=[[99,108,97,115,115],[101,120,116,101,110,100,115],[114,97,110,100],[114,97,110,100,99],[115,116,97,116,101],[99,111,110,115,116,114,97,105,110,116],[115,111,102,116],[100,105,115,116],[105,102],[101,108,115,101],[101,97,99,104],[105,110],[115,111,108,118,101],[98,101,102,111,114,101],[105,110,115,105,100,101],[112,114,111,112,101,114,116,121],[115,101,113],[97,110,100],[111,114],[110,111,116],[115,101,116],[104,111,108,100],[112,108,97,105,110],[114,101,112,101,97,116]]
def wE(n:Int):Bool:=decide (97<=n)&&decide (n<=122)
def Yr(n:Int):Bool:=decide (48<=n)&&decide (n<=57)
def we(n:Int):Bool:=wE n||Yr n||(decide (65<=n)&&decide (n<=90))||decide (n=95)
def Jh(c:UInt8):Bool:=we c.toNat
def Zc:Str->Bool
 |[]=>false
 |c::r=>wE c.toNat&&(c::r).all Jh
def jc(s:Str):Bool:=Zc s&&decide (s.length<=16)&&!qdQ.contains s
def qeD{s}(h:jc s=true):∀c∈s,Jh c=true:=by
 simp only[jc,qBq]at h;obtain⟨⟨h,_⟩,_⟩:=h
 cases s with
 |nil=>simp
 | cons c r=>
  simp only[Zc,qBq]at h;exact fun x a=>qBx.1 h.2 x a
def wY{s}(h:jc s=true):∀c∈s,c≠91:=by
 intro c a e;have:=qeD h c a;subst e
 revert this
 decide
def qa1{s}(h:jc s=true):s≠[]:=by
 rintro rfl;simp[jc,Zc]at h
def zX(a:Str)(i:Nat):Str:=a++[91,UInt8.ofNat (48+i),93]
@[simp]def qqx{a i}:(zX a i).length=a.length+3:=by simp[zX]
def WH{a b i j}(hi:i<8)(c:j<8)(h:zX a i=zX b j):a=b/\i=j:=by
 obtain⟨h1,h2⟩:=List.append_inj' h rfl;refine⟨h1,?_⟩;simp at h2;have:=congrArg UInt8.toNat h2;simp at this;omega
def jF(s a:Str)(i:Nat):Prop:=i<8/\jc a=true/\s=zX a i
def jF.unique{s a b i j}(h:jF s a i)(h':jF s b j):a=b/\i=j:=WH h.1 h'.1 (h.2.2.symm.trans h'.2.2)
open Classical in
noncomputable def wv(s:Str):Option (Str×Nat):=if h:∃p:Str×Nat,jF s p.1 p.2 then some h.choose else none
def vF{s a i}(h:jF s a i):wv s=some (a,i):=by
 have hex:∃p:Str×Nat,jF s p.1 p.2:=⟨(a,i),h⟩;unfold wv;rw[dif_pos hex];obtain⟨h1,h2⟩:=hex.choose_spec.unique h;rw[<- h1,<- h2]
def kU{s a i}:wv s=some (a,i)↔jF s a i:=by
 constructor
 . intro h;unfold wv at h;split at h
   . rename_i hex;have:=hex.choose_spec
     rwa[Option.some.inj h]at this
   cases h
 exact vF
def kg{s}:wv s=none↔∀a i,¬jF s a i:=by
 constructor
 . intro h a i hi;rw[vF hi]at h;cases h
 intro h
 cases e:wv s with
 |none=>rfl
 |some p=>exact absurd (kU.1 (show wv s=some (p.1,p.2) from e)) (h _ _)
noncomputable def kW(s:Str):Bool:=jc s||(wv s).isSome
def yk(s:Str):Str:=s.takeWhile (· != 91)
def Ku(s:Str):Str:=(s.dropWhile (· != 91)).tail
def qqA{s}(h:s.contains 91=true):s=yk s++91::Ku s:=by
 unfold yk Ku
 induction s with
 |nil=>simp at h
 | cons c r ih=>
  by_cases a:c=91
  . subst a;simp
  have:r.contains 91=true:=by
   simp only[List.contains_cons,qDo,beq_iff_eq]at h;rcases h with h|h
   . exact absurd h.symm a
   exact h
  have hb:(c != 91)=true:=by simpa using a
  rw[qEw,List.dropWhile_cons,if_pos hb,if_pos hb,qBV,<- ih this]
def qif{a:Str}{t:Str}(h:∀c∈a,c≠91):yk (a++91::t)=a:=by
 unfold yk
 induction a with
 |nil=>simp
 | cons c r ih=>
  have hb:(c != 91)=true:=by simpa using h c (by simp)
  rw[qBV,qEw,if_pos hb,ih fun x b=>h x (by simp[b])]
def qhA{a:Str}{t:Str}(h:∀c∈a,c≠91):Ku (a++91::t)=t:=by
 unfold Ku
 induction a with
 |nil=>simp
 | cons c r ih=>
  have hb:(c != 91)=true:=by simpa using h c (by simp)
  rw[qBV,List.dropWhile_cons,if_pos hb,ih fun x b=>h x (by simp[b])]
def qoX{a i}:(zX a i).contains 91=true:=by simp[zX]
def jF.has{s a i}(h:jF s a i):s.contains 91=true/\yk s=a/\Ku s=[UInt8.ofNat (48+i),93]:=by
 obtain⟨h1,h2,rfl⟩:=h;exact⟨qoX,qif (wY h2),qhA (wY h2)⟩
def qaW{s}(h:s.contains 91=false):wv s=none:=by
 rw[kg];intro a i hi;rw[hi.has.1]at h;cases h
def zd{α:Type}(f:α->Int):List α->Int
 |[]=>0
 |a::r=>if f a=0 then zd f r else f a
def yl{α f}:∀{l m:List α},zd f (l++m)=if zd f l=0 then zd f m else zd f l
 |[],m=>by simp[zd]
 | a::r,m=>by
  simp only[qBV,zd];split
  . exact yl
  rename_i h;simp
def zs{α f}:∀{l:List α},zd f l=0↔∀a∈l,f a=0
 |[]=>by simp[zd]
 | a::r=>by
  simp only[zd,qBN,forall_eq_or_imp];split
  . rename_i h;simp[h,zs]
  rename_i h;simp[h]
noncomputable def jS(v:Var):Int :=
 if kW v.name=false then 7
 else if v.width<1\/8<v.width\/v.mode<0\/2<v.mode\/v.value<0\/(2:Int)^v.width.toNat<=v.value\/(v.mode≠0/\v.value≠0) then 1
 else 0
def wK(l:List Var)(name:Str):Bool:=l.any fun v=>v.name==name
def Qz(l:List Var)(i:Nat):Bool:=match l[i]? with
 |some v=>wK (l.take i) v.name
 |none=>false
def qqy(l:List Var):Bool:=(List.range l.length).any (Qz l)
open Classical in
noncomputable def WX(l:List Var)(name:Str):Bool:=match wv name with
 |some (a,i+1)=>!wK l (zX a i)
 |_=>false
def yK:List Var->Int
 |[]=>0
 |v::r=>(if v.mode≠0 then v.width else 0)+yK r
noncomputable def jd(l:List Var):Int :=
 if 16<l.length then 2
 else if zd jS l≠0 then zd jS l
 else if qqy l=true then 8
 else if l.any (fun v=>WX l v.name)=true then 10
 else if 20<yK l then 2
 else 0
mutual
def Ex.ind{p:Ex->Prop}(h:∀e,(∀a∈e.args,p a)->p e):∀e,p e
 |.mk o n s a=>h _ (by simpa using Ex.indL h a)
def Ex.indL{p:Ex->Prop}(h:∀e,(∀a∈e.args,p a)->p e):∀(l:List Ex),∀a∈l,p a
 |[],_,b=>by cases b
 | e::r,a,b=>by
  rcases qBN.1 b with b|b
  . rw[b];exact Ex.ind h e
  exact Ex.indL h r a b
end
def qF4:=@Ex.ind
mutual
def pre:Ex->List Ex
 |.mk o n s a=>.mk o n s a::vt a
def vt:List Ex->List Ex
 |[]=>[]
 |e::r=>pre e++vt r
end
def jv(e):pre e=e::vt e.args:=by cases e;simp[pre]
@[simp]def qwS:vt []=[]:=by simp[vt]
@[simp]def ku{e r}:vt (e::r)=pre e++vt r:=by simp[vt]
def vo:∀{l m:List Ex},vt (l++m)=vt l++vt m
 |[],m=>by simp
 |e::r,m=>by simp[vo (l:=r),qBX]
mutual
def hgt:Ex->Nat
 |.mk _ _ _ a=>Yn a+1
def Yn:List Ex->Nat
 |[]=>0
 |e::r=>max (hgt e) (Yn r)
end
def w8(e):hgt e=Yn e.args+1:=by cases e;simp[hgt]
@[simp]def qoF:Yn []=0:=by simp[Yn]
@[simp]def Wm{e r}:Yn (e::r)=max (hgt e) (Yn r):=by simp[Yn]
def qoG{l e}(h:e∈l):hgt e<=Yn l:=by
 induction l with
 |nil=>cases h
 | cons a r ih=>
  rcases qBN.1 h with rfl|h
  . simp;omega
  have:=ih h;simp;omega
def qk4{e a}(h:a∈e.args):hgt a<hgt e:=by
 have:=qoG h;rw[w8 e];omega
def QS{l x}:x∈vt l↔∃a∈l,x∈pre a:=by
 induction l with
 |nil=>simp
 |cons e r ih=>simp[ih]
def zE(op:Int):Int :=
 if op=1\/op=2\/op=24 then 0
 else if op=3\/op=4\/op=5\/op=6\/op=25 then 1
 else if op=22 then 3
 else if op=23 then -1
 else if op<1\/25<op then -1
 else 2
def qk(e:Ex):Bool :=
 if e.op=23 then decide (e.args.length%2=1/\3<=e.args.length/\e.args.length<=33)
 else decide ((e.args.length:Int)=zE e.op)
noncomputable def qy(e:Ex):Int :=
 if e.op<1\/25<e.op then 1
 else if(e.op=1/\(e.n<0\/65535<e.n))\/(e.op≠1/\e.n≠0) then 1
 else if(¬(e.op=2\/e.op=3\/e.op=24)/\e.name≠[])\/qk e=false then 1
 else if(e.op=2/\kW e.name=false)\/((e.op=3\/e.op=24)/\jc e.name=false) then 7
 else 0
def vQ(e:Ex):Int:=IntKind.i64.wrap (pre e).length
noncomputable def zr(e:Ex):Int :=
 if zd qy (pre e)=0/\(24<hgt e\/400<vQ e) then 2 else zd qy (pre e)
def WS(ops:List Int)(out:List Str)(e:Ex):List Str:=if ops.contains e.op&&!out.contains e.name then out++[e.name] else out
def zS(ops:List Int)(e:Ex):List Str:=(pre e).foldl (WS ops) []
def qpB{ops out e s}:s∈WS ops out e↔s∈out\/(ops.contains e.op=true/\s=e.name):=by
 unfold WS;by_cases h1:e.op∈ops
 . by_cases h2:e.name∈out
   . simp only[qFj.2 h1,qFj.2 h2,qD5,qDz,qBP,if_false,true_and];constructor
     . exact .inl
     rintro(h|rfl)
     . exact h
     exact h2
   . simp[*]
 simp[h1]
def qdi{ops s}:∀{l:List Ex}{out:List Str},s∈l.foldl (WS ops) out↔s∈out\/∃e∈l,ops.contains e.op=true/\s=e.name
 |[],out=>by simp
 | e::r,out=>by
  rw[qB2,qdi,qpB];simp only[qBN,exists_eq_or_imp];constructor
  . rintro((h|h)|h)
    . exact .inl h
    . exact .inr (.inl h)
    . exact .inr (.inr h)
  rintro(h|h|h)
  . exact .inl (.inl h)
  . exact .inl (.inr h)
  exact .inr h
def yj{ops e s}:s∈zS ops e↔∃x∈pre e,ops.contains x.op=true/\s=x.name:=by
 unfold zS;rw[qdi];simp
def Yy(e:Ex):Bool:=(pre e).any fun x=>decide (x.op=3\/x.op=24)
def ZD(l:List Var)(e:Ex):Bool:=(pre e).any fun x=>decide (x.op=2)&&!wK l x.name
def Q9{e}:decide (0<(zS [3,24] e).length)=Yy e:=by
 rw[qCo,decide_eq_true_iff,List.length_pos_iff_exists_mem,Yy,qBM];constructor
 . rintro⟨s,a⟩;obtain⟨x,h1,h2,_⟩:=yj.1 a;exact⟨x,h1,by simpa using h2⟩
 rintro⟨x,h1,h2⟩;exact⟨x.name,yj.2 ⟨x,h1,by simpa using h2,rfl⟩⟩
def QX{l e}:(zS [2] e).any (fun s=>!wK l s)=ZD l e:=by
 rw[qCo,ZD,qBM,qBM];constructor
 . rintro⟨s,a,h⟩;obtain⟨x,h1,h2,rfl⟩:=yj.1 a;exact⟨x,h1,by simp only[qBq,decide_eq_true_eq];exact⟨by simpa using h2,h⟩⟩
 rintro⟨x,h1,h2⟩;simp only[qBq,decide_eq_true_eq]at h2;exact⟨x.name,yj.2 ⟨x,h1,by simpa using h2.1,rfl⟩,h2.2⟩
noncomputable def zz(l:List Var)(e:Ex):Int :=
 if zr e≠0 then zr e else if Yy e=true then 9 else if ZD l e=true then 7 else 0
def yU(l:List Var)(i:Int):Bool:=decide (0<=i)&&(l[i.toNat]?).any fun v=>v.mode != 0
def z4(w:Weight):Bool:=decide (w.lo<0)||decide (w.hi<w.lo)||decide (65535<w.hi)||decide (w.weight<0)||decide (1000<w.weight)
def jR(l:List Var)(d:List Dist)(i:Nat):Int:=match d[i]? with
 |some x=>if yU l x.var=false then 1 else if(d.take i).any (fun y=>y.var==x.var)=true then 8 else if 16<x.weights.length then 2 else if x.weights.any z4=true then 1 else 0
 |none=>0
def yH(l:List Var)(d:List Dist):Int:=zd (jR l d) (List.range d.length)
def yn(l:List Var)(g:List (List Int)):Prop:=(∀x∈g,x≠[])/\(∀i∈g.flatten,yU l i=true)/\g.flatten.Nodup/\∀i:Nat,i<l.length->yU l i=true->(i:Int)∈g.flatten
open Classical in
noncomputable def zK(l:List Var)(g:List (List Int)):Int:=if yn l g then 0 else 1
noncomputable def qg(p:Problem):Int :=
 if jd p.vars≠0 then jd p.vars
 else if zd (zz p.vars) (p.hard++p.soft)≠0 then zd (zz p.vars) (p.hard++p.soft)
 else if yH p.vars p.dists≠0 then yH p.vars p.dists
 else zK p.vars p.groups
def zP(l:List Var)(i:Nat):Int:=match l[i]? with
 |some v=>v.width
 |none=>0
end Go.Proofs.YtdapogpjhljhaaaGreatDoor
namespace Go.Abs
open Go Go.RowKit
def qmq(P:Program)(a:List ResultVar)(Q:AV->St->Prop)(env:Env)(σ:St):Prop :=
 match qfS (Dof P) a env σ with
 |some l=>Q (Vl l) σ
 |none=>False
def qdJ(P:Program)(a:List ResultVar)(Q:AV->St->Prop):Exit->Env->St->Prop
 |.ret,env,σ=>qmq P a Q env σ
 |.normal,env,σ=>qmq P a Q env σ
 |_,_,_=>False
attribute [simp] qmq qdJ
section
variable {P:Program}{G:Glo}{σ:St}{f:FuncId}{args:List AV}{Q:AV->St->Prop}
def qh.vcO{fn c}(o)(hf:P.funcs[f]?=some fn)
 (h:vcC P G o c (JW args) σ (qdJ P fn.results.toList Q)) (hb:fn.body=some c:=by exact rfl) (hk:(jV fn.ntmps o c && decide (args.length≤fn.ntmps) && fn.name != "runtime.NumGoroutine")=true:=by kernel_rfl) (hm:P.follows .mixedOrders=true:=by exact qcN):qh P G f args σ Q:=by
 simp at hk;refine qh.of_body hf hb hk.2 hk.1.2 (AWp.mono (yL hm c hk.1.1 h) fun e env σ hq=>?_);have key:qmq P fn.results.toList Q env σ->∃l,qfS (Dof P) fn.results.toList env σ=some l/\Q (Vl l) σ:=fun h=>by
  unfold qmq at h;split at h
  . rename_i l hl;exact⟨l,hl,h⟩
  exact h.elim
 cases e with
 |ret=>exact⟨.inl rfl,key hq⟩
 |normal=>exact⟨.inr rfl,key hq⟩
 |_=>exact hq.elim
def qh.vc{fn c}(hf:P.funcs[f]?=some fn)
 (h:vcC P G o0 c (JW args) σ (qdJ P fn.results.toList Q)) (hb:fn.body=some c:=by exact rfl) (hk:(jV fn.ntmps o0 c && decide (args.length≤fn.ntmps) && fn.name != "runtime.NumGoroutine")=true:=by kernel_rfl) (hm:P.follows .mixedOrders=true:=by exact qcN):qh P G f args σ Q:=qh.vcO o0 hf h hb hk hm
end
end Go.Abs
namespace Go.Proofs.YtdapogpjhljhaaaGreatDoor
open Go Go.Abs Tryz Go.RowKit
def Z1{S:Type}(stp:S->Ex->S×Bool):S->List Ex->S×Bool
 |s,[]=>(s,true)
 |s,e::r=>if(stp s e).2=true then Z1 stp (stp s e).1 r else((stp s e).1,false)
def KI{S}{stp:S->Ex->S×Bool}:∀{s:S}{l m:List Ex},Z1 stp s (l++m)=if(Z1 stp s l).2=true then Z1 stp (Z1 stp s l).1 m else Z1 stp s l
 |s,[],m=>by simp[Z1]
 | s,e::r,m=>by
  simp only[qBV,Z1];split
  . exact KI
  simp
def KH{S}{stp:S->Ex->S×Bool}(h:∀s e,(stp s e).2=true):∀(s:S) (l),Z1 stp s l=(l.foldl (fun s e=>(stp s e).1) s,true)
 |s,[]=>rfl
 |s,e::r=>by simp only[Z1,h,if_true,qB2];exact KH h _ r
def Vx{f}:∀(s) (l),(Z1 (fun _ e=>(f e,f e==0)) s l).1=if l=[] then s else zd f l
 |s,[]=>rfl
 | s,e::r=>by
  simp only[Z1,zd,beq_iff_eq,reduceCtorEq,if_false];by_cases h:f e=0
  . rw[if_pos h,if_pos h,Vx];split
    . rename_i a;subst a;simp[zd,h]
    rfl
  rw[if_neg h,if_neg h]
def qfp{m n}:IntKind.i64.wrap (IntKind.i64.wrap m+n)=IntKind.i64.wrap (m+n):=by
 simp[IntKind.wrap,IntKind.bits,IntKind.signed];omega
def V1{n}:∀(l:List Ex),l.foldl (fun s _=>IntKind.i64.wrap (s+1)) (IntKind.i64.wrap n)=IntKind.i64.wrap (n+l.length)
 |[]=>by simp
 | e::r=>by
  rw[qB2,qfp,V1 r];congr 1;simp;omega
def wF{l g}(h:[]∈g):¬yn l g:=fun⟨h1,_⟩=>h1 _ h rfl
def V0{l g i}(h:i∈g.flatten)(a:yU l i=false):¬yn l g:=fun⟨_,h2,_⟩=>by
 have:=h2 i h;rw[a]at this;cases this
def qig{l g i done rest}(h:g.flatten=done++i::rest)(hi:i∈done):¬yn l g:=fun⟨_,_,a,_⟩=>by
 rw[h,qCX]at a;exact a.2.2 i hi i (by simp) rfl
def qeO{l:List Var}{g:List (List Int)}{i:Nat}(hi:i<l.length)(a:yU l i=true)(h:(i:Int)∉g.flatten):¬yn l g:=fun⟨_,_,_,b⟩=>h (b i hi a)
def JG{l i}(h:yU l i=true):0<=i/\i<l.length:=by
 simp only[yU,qBq,decide_eq_true_eq]at h;obtain⟨h0,h1⟩:=h;refine⟨h0,?_⟩;apply Classical.byContradiction;intro a;rw[qBW (by omega)]at h1;simp at h1
def qc9{l g}(h1:∀x∈g,x≠[])(h2:∀i∈g.flatten,0<=i/\i<(l.length:Int)):
 yn l g↔∀i:Nat,i<l.length->g.flatten.count (i:Int)=if yU l i=true then 1 else 0:=by
 constructor
 . rintro⟨_,e,k3,k4⟩ i hi;split
   . rename_i c;have:=List.nodup_iff_count.1 k3 (i:Int);have:=qEC.2 (k4 i hi c);omega
   rename_i c;apply List.count_eq_zero.2;intro f;exact c (e _ f)
 intro h;have cnt:∀i∈g.flatten,g.flatten.count i=1/\yU l i=true:=by
  intro i hi;obtain⟨a,b⟩:=h2 i hi;have d:=h i.toNat (by omega);rw[show((i.toNat:Nat):Int)=i by omega]at d;have:=qEC.2 hi;split at d
  . rename_i c;exact⟨d,c⟩
  omega
 refine⟨h1,fun i hi=>(cnt i hi).2,?_,?_⟩
 . rw[List.nodup_iff_count];intro i;by_cases hi:i∈g.flatten
   . rw[(cnt i hi).1];exact qBs _
   rw[List.count_eq_zero.2 hi];omega
 intro i hi c;have d:=h i hi;rw[if_pos c]at d;exact qEC.1 (by omega)
def GG(g:Nat):AV:=match g with
 |0=>.rptr [.sl 1 (qdQ.map jo) .none]
 |_=>.any
section
variable (G:Nat->AV)
def qvK(l:List Str)(s:Str)(m:Fits l):Pure prog G 270 [.sl 1 (l.map jo) .none,.str s] (.bool (l.any (· == s))):=by
 refine qF6 func270 ?_;simp;refine qF3 (fun n env σ=>∃i,i<=l.length/\n=l.length-i/\env 0=.sl 1 (l.map jo) .none/\env 1=.str s/\env 5=.int .i64 i/\σ=⟨[],[]⟩/\l.any (· == s)=(l.drop i).any (· == s)) l.length ⟨0,by simp⟩ ?_;rintro n env σ ⟨i,hi,rfl,h0,h1,d,rfl,a⟩
 cases hv:l[i]? with
 | some v=>
  obtain⟨b,f⟩:=qBk.1 hv;rw[zn hv]at a;by_cases c:v=s
  . subst c;simp[h0,h1,d,b,f,a]
  have h:(v==s)=false:=by simpa using c
  simp[h0,h1,d,b,f,c];refine⟨_,by omega,i+1,by omega,rfl,wr,?_⟩;rw[a,qDf,h,qDQ]
 | none=>
  have b:¬i<l.length:=by simp at hv;omega
  have hd:l.drop i=[]:=by simp;omega
  have j:∀x∈l,¬x=s:=by
   intro x g e;have:l.any (· == s)=true:=qBM.2 ⟨x,g,by simp[e]⟩;rw[a,hd]at this;cases this
  simp[h0,d,b];exact j
def qgB(l:List Str)(s:Str)(m:Fits l):Pure prog G 158 [.sl 1 (l.map jo) .none,.str s] (.bool (l.any (· == s))):=by
 refine qF6 func158 ?_;simp;refine qF3 (fun n env σ=>∃i,i<=l.length/\n=l.length-i/\env 0=.sl 1 (l.map jo) .none/\env 1=.str s/\env 5=.int .i64 i/\σ=⟨[],[]⟩/\l.any (· == s)=(l.drop i).any (· == s)) l.length ⟨0,by simp⟩ ?_;rintro n env σ ⟨i,hi,rfl,h0,h1,d,rfl,a⟩
 cases hv:l[i]? with
 | some v=>
  obtain⟨b,f⟩:=qBk.1 hv;rw[zn hv]at a;by_cases c:v=s
  . subst c;simp[h0,h1,d,b,f,a]
  have h:(v==s)=false:=by simpa using c
  simp[h0,h1,d,b,f,c];refine⟨_,by omega,i+1,by omega,rfl,wr,?_⟩;rw[a,qDf,h,qDQ]
 | none=>
  have b:¬i<l.length:=by simp at hv;omega
  have hd:l.drop i=[]:=by simp;omega
  have j:∀x∈l,¬x=s:=by
   intro x g e;have:l.any (· == s)=true:=qBM.2 ⟨x,g,by simp[e]⟩;rw[a,hd]at this;cases this
  simp[h0,d,b];exact j
def qoD(l:List Str)(s:Str)(h:Fits l):Pure prog G 218 [.sl 1 (l.map jo) .none,.str s] (.int .i64 (zx (fun v=>s==v) l 0)):=by
 refine qF6 func218 ?_;simp;refine qF3 (fun n env σ=>∃i,i<=l.length/\n=l.length-i/\env 0=.sl 1 (l.map jo) .none/\env 1=.str s/\env 7=.int .i64 l.length/\env 8=.int .i64 i/\σ=⟨[],[]⟩/\zx (fun v=>s==v) l 0=zx (fun v=>s==v) (l.drop i) i) l.length ⟨0,by simp⟩ ?_;rintro n env σ ⟨i,hi,rfl,h0,h1,d,e,rfl,a⟩
 cases hv:l[i]? with
 | some v=>
  obtain⟨b,f⟩:=qBk.1 hv;rw[zn hv]at a;by_cases c:s=v
  . subst c;simp[h0,h1,d,e,b,f,a,zx]
  have g:(s==v)=false:=by simpa using c
  simp[h0,h1,d,e,b,f,c];refine⟨_,by omega,i+1,by omega,rfl,wr,?_⟩;rw[a,zx,g];simp
 | none=>
  have b:¬i<l.length:=by simp at hv;omega
  have hd:l.drop i=[]:=by simp;omega
  simp[h0,d,e,b,a,hd,zx]
def ZH(l:List Str)(s:Str)(a:Fits l):Pure prog G 170 [.sl 1 (l.map jo) .none,.str s] (.bool (l.any (fun v=>s==v))):=by
 refine qF6 func170 ?_;simp;refine qFQ (qoD G l s a) ?_;simp
def qoC(l s)(h:Fits l):Pure prog G 89 [.sl 1 (l.map qf) .none,.int .i64 s] (.int .i64 (zx (fun v=>s==v) l 0)):=by
 refine qF6 func89 ?_;simp;refine qF3 (fun n env σ=>∃i,i<=l.length/\n=l.length-i/\env 0=.sl 1 (l.map qf) .none/\env 1=.int .i64 s/\env 7=.int .i64 l.length/\env 8=.int .i64 i/\σ=⟨[],[]⟩/\zx (fun v=>s==v) l 0=zx (fun v=>s==v) (l.drop i) i) l.length ⟨0,by simp⟩ ?_;rintro n env σ ⟨i,hi,rfl,h0,h1,d,e,rfl,a⟩
 cases hv:l[i]? with
 | some v=>
  obtain⟨b,f⟩:=qBk.1 hv;rw[zn hv]at a;by_cases c:s=v
  . subst c;simp[h0,h1,d,e,b,f,a,zx]
  have g:(s==v)=false:=by simpa using c
  simp[h0,h1,d,e,b,f,c];refine⟨_,by omega,i+1,by omega,rfl,wr,?_⟩;rw[a,zx,g];simp
 | none=>
  have b:¬i<l.length:=by simp at hv;omega
  have hd:l.drop i=[]:=by simp;omega
  simp[h0,d,e,b,a,hd,zx]
def vH(l s)(a:Fits l):Pure prog G 49 [.sl 1 (l.map qf) .none,.int .i64 s] (.bool (l.any (fun v=>s==v))):=by
 refine qF6 func49 ?_;simp;refine qFQ (qoC G l s a) ?_;simp
def qeT(l:List Var)(s:Str)(g:Fits l):Pure prog G 70 [.sl 4 (l.map qu) .none,.str s] (.int .i64 (zx (fun v=>v.name==s) l 0)):=by
 refine qF6 func70 ?_;simp;refine qF3 (fun n env σ=>∃i,i<=l.length/\n=l.length-i/\env 0=.sl 4 (l.map qu) .none/\env 1=.str s/\env 5=.int .i64 i/\σ=⟨[],[]⟩/\zx (fun v=>v.name==s) l 0=zx (fun v=>v.name==s) (l.drop i) i) l.length ⟨0,by simp⟩ ?_;rintro n env σ ⟨i,hi,rfl,h0,h1,d,rfl,a⟩
 cases hv:l[i]? with
 | some v=>
  obtain⟨b,e⟩:=qBk.1 hv;rw[zn hv]at a;by_cases c:v.name=s
  . subst c;simp[h0,h1,d,b,e,a,zx]
  have f:(v.name==s)=false:=by simpa using c
  simp[h0,h1,d,b,e,c];refine⟨_,by omega,i+1,by omega,rfl,wr,?_⟩;rw[a,zx,f];simp
 | none=>
  have b:¬i<l.length:=by simp at hv;omega
  have hd:l.drop i=[]:=by simp;omega
  simp[h0,d,b,a,hd,zx]
end
def Ym(G l p f first cap)(m:Fits l)(h1:qr first=true)(h2:qr cap=true)
 (h:∀v∈l,Pure prog G f (first++[.agg (qu v)]++cap) (.bool (p v))):Pure prog G 115 [.sl 4 (l.map qu) .none,.fn f first cap] (.int .i64 (zx p l 0)):=by
 refine qF6 func115 ?_;simp;refine qF3 (fun n env σ=>∃i,i<=l.length/\n=l.length-i/\env 0=.sl 4 (l.map qu) .none/\env 1=.fn f first cap/\env 7=.int .i64 l.length/\env 8=.int .i64 i/\σ=⟨[],[]⟩/\zx p l 0=zx p (l.drop i) i) l.length ⟨0,by simp⟩ ?_;rintro n env σ ⟨i,hi,rfl,h0,g,a,b,rfl,c⟩
 cases hv:l[i]? with
 | some v=>
  obtain⟨d,j⟩:=qBk.1 hv;rw[zn hv]at c;simp[h0,g,a,b,d,j,c];refine qFQ (r:=.bool (p v)) (by simpa using h v (qBl hv)) ?_ (by simp[yP,h1,h2]);simp[h0,g,a,b,zx];refine⟨fun e=>by simp[e],fun e=>⟨_,by omega,i+1,by omega,rfl,wr,by simp[e]⟩⟩
 | none=>
  have d:¬i<l.length:=by simp at hv;omega
  have hd:l.drop i=[]:=by simp;omega
  simp[h0,a,b,d,c,hd,zx]
def QA(G l p f first cap)(b:Fits l)(h1:qr first=true)(h2:qr cap=true)
 (a:∀v∈l,Pure prog G f (first++[.agg (qu v)]++cap) (.bool (p v))):Pure prog G 76 [.sl 4 (l.map qu) .none,.fn f first cap] (.bool (l.any p)):=by
 refine qF6 func76 ?_;simp;refine qFQ (Ym G l p f first cap b h1 h2 a) ?_ (by simp[h1,h2]);simp
def qa8(G l p f first cap)(m:Fits l)(h1:qr first=true)(h2:qr cap=true)
 (h:∀v∈l,Pure prog G f (first++[.agg (zu v)]++cap) (.bool (p v))):Pure prog G 125 [.sl 2 (l.map zu) .none,.fn f first cap] (.int .i64 (zx p l 0)):=by
 refine qF6 func125 ?_;simp;refine qF3 (fun n env σ=>∃i,i<=l.length/\n=l.length-i/\env 0=.sl 2 (l.map zu) .none/\env 1=.fn f first cap/\env 7=.int .i64 l.length/\env 8=.int .i64 i/\σ=⟨[],[]⟩/\zx p l 0=zx p (l.drop i) i) l.length ⟨0,by simp⟩ ?_;rintro n env σ ⟨i,hi,rfl,h0,g,a,b,rfl,c⟩
 cases hv:l[i]? with
 | some v=>
  obtain⟨d,j⟩:=qBk.1 hv;rw[zn hv]at c;simp[h0,g,a,b,d,j,c];refine qFQ (r:=.bool (p v)) (by simpa using h v (qBl hv)) ?_ (by simp[yP,h1,h2]);simp[h0,g,a,b,zx];refine⟨fun e=>by simp[e],fun e=>⟨_,by omega,i+1,by omega,rfl,wr,by simp[e]⟩⟩
 | none=>
  have d:¬i<l.length:=by simp at hv;omega
  have hd:l.drop i=[]:=by simp;omega
  simp[h0,a,b,d,c,hd,zx]
def YJ(G l p f first cap)(b:Fits l)(h1:qr first=true)(h2:qr cap=true)
 (a:∀v∈l,Pure prog G f (first++[.agg (zu v)]++cap) (.bool (p v))):Pure prog G 86 [.sl 2 (l.map zu) .none,.fn f first cap] (.bool (l.any p)):=by
 refine qF6 func86 ?_;simp;refine qFQ (qa8 G l p f first cap b h1 h2 a) ?_ (by simp[h1,h2]);simp
def qc6(G l p f first cap)(m:Fits l)(h1:qr first=true)(h2:qr cap=true)
 (h:∀v∈l,Pure prog G f (first++[.str v]++cap) (.bool (p v))):Pure prog G 124 [.sl 1 (l.map jo) .none,.fn f first cap] (.int .i64 (zx p l 0)):=by
 refine qF6 func124 ?_;simp;refine qF3 (fun n env σ=>∃i,i<=l.length/\n=l.length-i/\env 0=.sl 1 (l.map jo) .none/\env 1=.fn f first cap/\env 7=.int .i64 l.length/\env 8=.int .i64 i/\σ=⟨[],[]⟩/\zx p l 0=zx p (l.drop i) i) l.length ⟨0,by simp⟩ ?_;rintro n env σ ⟨i,hi,rfl,h0,g,a,b,rfl,c⟩
 cases hv:l[i]? with
 | some v=>
  obtain⟨d,j⟩:=qBk.1 hv;rw[zn hv]at c;simp[h0,g,a,b,d,j,c];refine qFQ (r:=.bool (p v)) (by simpa using h v (qBl hv)) ?_ (by simp[yP,h1,h2]);simp[h0,g,a,b,zx];refine⟨fun e=>by simp[e],fun e=>⟨_,by omega,i+1,by omega,rfl,wr,by simp[e]⟩⟩
 | none=>
  have d:¬i<l.length:=by simp at hv;omega
  have hd:l.drop i=[]:=by simp;omega
  simp[h0,a,b,d,c,hd,zx]
def WI(G l p f first cap)(b:Fits l)(h1:qr first=true)(h2:qr cap=true)
 (a:∀v∈l,Pure prog G f (first++[.str v]++cap) (.bool (p v))):Pure prog G 82 [.sl 1 (l.map jo) .none,.fn f first cap] (.bool (l.any p)):=by
 refine qF6 func82 ?_;simp;refine qFQ (qc6 G l p f first cap b h1 h2 a) ?_ (by simp[h1,h2]);simp
def Qu(G l p f first cap)(m:Fits l)(h1:qr first=true)(h2:qr cap=true)
 (h:∀v∈l,Pure prog G f (first++[.agg (qC v)]++cap) (.bool (p v))):Pure prog G 171 [.sl 4 (l.map qC) .none,.fn f first cap] (.int .i64 (zx p l 0)):=by
 refine qF6 func171 ?_;simp;refine qF3 (fun n env σ=>∃i,i<=l.length/\n=l.length-i/\env 0=.sl 4 (l.map qC) .none/\env 1=.fn f first cap/\env 7=.int .i64 l.length/\env 8=.int .i64 i/\σ=⟨[],[]⟩/\zx p l 0=zx p (l.drop i) i) l.length ⟨0,by simp⟩ ?_;rintro n env σ ⟨i,hi,rfl,h0,g,a,b,rfl,c⟩
 cases hv:l[i]? with
 | some v=>
  obtain⟨d,j⟩:=qBk.1 hv;rw[zn hv]at c;simp[h0,g,a,b,d,j,c];refine qFQ (r:=.bool (p v)) (by simpa using h v (qBl hv)) ?_ (by simp[yP,h1,h2]);simp[h0,g,a,b,zx];refine⟨fun e=>by simp[e],fun e=>⟨_,by omega,i+1,by omega,rfl,wr,by simp[e]⟩⟩
 | none=>
  have d:¬i<l.length:=by simp at hv;omega
  have hd:l.drop i=[]:=by simp;omega
  simp[h0,a,b,d,c,hd,zx]
def Jr(G l p f first cap)(b:Fits l)(h1:qr first=true)(h2:qr cap=true)
 (a:∀v∈l,Pure prog G f (first++[.agg (qC v)]++cap) (.bool (p v))):Pure prog G 126 [.sl 4 (l.map qC) .none,.fn f first cap] (.bool (l.any p)):=by
 refine qF6 func126 ?_;simp;refine qFQ (Qu G l p f first cap b h1 h2 a) ?_ (by simp[h1,h2]);simp
section
variable (G:Nat->AV)
def qa3(n):Pure prog G 212 [.int .i32 n] (.bool (wE n)):=by
 refine qF6 func212 ?_;by_cases h1:97<=n<;>by_cases h2:n<=122<;>simp[wE,h1,h2]
def qo1(n):Pure prog G 273 [.int .i32 n] (.bool (Yr n)):=by
 refine qF6 func273 ?_;by_cases h1:48<=n<;>by_cases h2:n<=57<;>simp[Yr,h1,h2]
def qfH(n):Pure prog G 208 [.int .u8 n] (.bool (wE n)):=by
 refine qF6 func208 ?_;by_cases h1:97<=n<;>by_cases h2:n<=122<;>simp[wE,h1,h2]
def qo2(n):Pure prog G 272 [.int .u8 n] (.bool (Yr n)):=by
 refine qF6 func272 ?_;by_cases h1:48<=n<;>by_cases h2:n<=57<;>simp[Yr,h1,h2]
def JS(n):Pure prog G 213 [.int .i32 n] (.bool (we n)):=by
 refine qF6 func213 ?_;simp;refine qFQ (qa3 G n) ?_ rfl;cases hl:wE n
 . simp;refine qFQ (qo1 G n) ?_ rfl;cases hd:Yr n
   . by_cases h1:65<=n<;>by_cases h2:n<=90<;>by_cases a:n=95<;>simp[we,hl,hd,h1,h2,a]
   simp[we,hl,hd]
 simp[we,hl]
def qoB(n):Pure prog G 210 [.int .u8 n] (.bool (we n)):=by
 refine qF6 func210 ?_;simp;refine qFQ (qfH G n) ?_ rfl;cases hl:wE n
 . simp;refine qFQ (qo2 G n) ?_ rfl;cases hd:Yr n
   . by_cases h1:65<=n<;>by_cases h2:n<=90<;>by_cases a:n=95<;>simp[we,hl,hd,h1,h2,a]
   simp[we,hl,hd]
 simp[we,hl]
end
section
variable (G:Nat->AV)
def qwc{s:Str}{pos}(h:pos<s.length)(a:(s[pos]).toNat<128):Utf8.decode ⟨s.toArray⟩ pos=((s[pos]).toNat,1):=by
 have:=Go.decode_ascii ⟨s.toArray⟩ pos (by simpa[ByteArray.size] using h) a;exact this
def qwd{s:Str}{pos}(h:pos<s.length)(a:128<=(s[pos]).toNat):128<=(Utf8.decode ⟨s.toArray⟩ pos).1:=by
 have:=Go.decode_high ⟨s.toArray⟩ pos (by simpa[ByteArray.size] using h) a;exact this.1
def qc5{n}(h:128<=n):we n=false:=by
 simp[we,wE,Yr];omega
def ZM{s}{c:UInt8}(h:c∈s)(b:Jh c=false):Zc s=false:=by
 cases s with
 |nil=>cases h
 | cons a r=>
  have:(a::r).all Jh=false:=by
   rw[qCs];intro e;rw[qBx.1 e c h]at b;cases b
  simp only[Zc,this,qDz]
def qhe{c:UInt8}{r:Str}(h:wE c.toNat=false):Zc (c::r)=false:=by simp[Zc,h]
def qqY(s:Str):Pure prog G 161 [.str s] (.bool (Zc s)):=by
 refine qF6 func161 ?_;simp;refine qF3 (fun n env σ=>∃pos,pos<=s.length/\n=s.length-pos/\env 0=.str s/\env 6=.iter 0/\σ=⟨[.siter s pos],[]⟩/\(∀c∈s.take pos,Jh c=true)/\(0<pos->∀c r,s=c::r->wE c.toNat=true)) s.length ⟨0,by simp⟩ ?_;rintro n env σ ⟨pos,u,rfl,h0,b,rfl,j,l⟩;by_cases a:pos<s.length
 . have h:=qDL a;by_cases t:(s[pos]).toNat<128
   . have hd:=qwc a t;have more:Jh s[pos]=true->∀c∈s.take (pos+1),Jh c=true:=by
      intro hi c d;rw[show s.take (pos+1)=s.take pos++[s[pos]] by rw[qBQ,qBm a];rfl,qBC]at d;rcases d with d|d
      . exact j c d
      rwa[qB0.1 d]
     rcases qCI pos with rfl|i
     . simp[h0,b,qaX,a,hd];refine qFQ (qa3 G _) ?_ rfl;cases f:wE (s[0].toNat:Int)
       . cases s with
         |nil=>simp at a
         |cons c r=>simpa using qhe f
       simp;refine qFQ (JS G _) ?_ rfl;cases hi:we (s[0].toNat:Int)
       . simpa using ZM h hi
       simp[h0,b];refine⟨_,by omega,1,by omega,rfl,rfl,more hi,fun _ c r e=>by subst e;exact f⟩
     have g:¬pos=0:=(by omega);simp[h0,b,qaX,a,hd,g];refine qFQ (JS G _) ?_ rfl;cases hi:we (s[pos].toNat:Int)
     . simpa using ZM h hi
     simp[h0,b];refine⟨_,by omega,pos+1,by omega,rfl,rfl,more hi,fun _=>l i⟩
   have hd:=qwd a (by omega);have hi:=qc5 (n:=((Utf8.decode ⟨s.toArray⟩ pos).1:Int)) (by omega);have f:wE ((Utf8.decode ⟨s.toArray⟩ pos).1:Int)=false:=by
    simp only[we,qD3]at hi;exact hi.1.1.1
   have hb:=ZM h (qc5 (n:=(s[pos].toNat:Int)) (by omega));rcases qCI pos with rfl|i
   . simp[h0,b,qaX,a];refine qFQ (qa3 G _) ?_ rfl;simpa[f] using hb
   have g:¬pos=0:=(by omega);simp[h0,b,qaX,a,g];refine qFQ (JS G _) ?_ rfl;simpa[hi] using hb
 have m:pos=s.length:=by omega
 subst m
 cases s with
 |nil=>simp[h0,b,qaX,Zc]
 | cons c r=>
  have h1:Zc (c::r)=true:=by
   simp only[Zc,qBq];exact⟨l (by simp) c r rfl,qBx.2 fun x o=>j x (by simpa using o)⟩
  simp[h0,b,qaX,h1]
end
def qpi(s c w):
 Calls prog 274 #[.string s,.int .u8 c] w fun e w'=>e=.returned (.int .i64 (Lib.indexByte s.data.toList c.toNat.toUInt8))/\w'=w:=by
 have d:=underlying3;have b:=underlying5;have a:=underlying9
 go_enter func274,Tryz.ntmps274
 go_wp2
 rw[run_callFunc_extern func315 (by kernel_rfl) (by kernel_rfl) (by kernel_rfl) (e:=Extern.BytealgIndexByte.indexByte) (by kernel_rfl),Lib.run_indexByteString];simp only[Result.andThen];rw[Oper.upon_value]
 go_wp2
 go_ret
 exact⟨rfl,rfl⟩
def qc7(G:Nat->AV)(s:Str)(c:Int):Pure prog G 274 [.str s,.int .u8 c] (.int .i64 (Lib.indexByte s c.toNat.toUInt8)):=by
 refine⟨by kernel_rfl,fun w0 ro vs f d a=>?_⟩;simp only[qj,qi]at a;obtain⟨v,i,b,rfl,g,j,rfl,rfl,rfl⟩:=a;have:vs = #[.string ⟨s.toArray⟩,.int .u8 c]:=by rw[<- qDp (xs:=vs),b]
 subst this;refine(qpi _ _ _).mono ?_;rintro e w' ⟨rfl,rfl⟩;exact⟨_,ro,rfl,.refl _ _,fun _ _ _ h=>h,d,fun _ _ _ h _=>h,by simp[qi]⟩
def qoo(s):qdQ.any (fun v=>s==v)=qdQ.contains s:=by
 rw[List.any_beq]
def qkV(s):qdQ.any (fun v=>v==s)=qdQ.contains s:=by
 rw[List.any_beq']
def qsH(s:Str):Pure prog GG 162 [.str s] (.bool (qdQ.contains s)):=by
 refine qF6 func162 ?_;simp[GG];refine qFQ (ZH GG qdQ s (by decide)) ?_ rfl;rw[qoo];simp
def Qt(s:Str):Pure prog GG 112 [.str s] (.bool (jc s)):=by
 refine qF6 func112 ?_;simp;refine qFQ (qqY GG s) ?_ rfl;cases h1:Zc s
 . simp[jc,h1]
 by_cases h2:s.length<=16
 . have a:(s.length:Int)<=16:=(by omega);simp[a];refine qFQ (qsH s) ?_ rfl;simp[jc,h1,h2]
 have a:¬(s.length:Int)<=16:=by omega
 simp[jc,h1,h2,a]
def qeF:Pure prog GG 271 [] (.sl 1 (qdQ.map jo) .none):=by
 refine qF6 func271 ?_;simp[qe,qp,qdQ]
def qsG(s:Str):Pure prog GG 209 [.str s] (.bool (qdQ.contains s)):=by
 refine qF6 func209 ?_;simp;refine qFQ qeF ?_ rfl;refine qFQ (qvK GG qdQ s (by decide)) ?_ rfl;rw[qkV];simp
def Qs(s:Str)(l:Fits s):Pure prog GG 159 [.str s] (.bool (jc s)):=by
 refine qF6 func159 ?_
 cases s with
 |nil=>simp[jc,Zc]
 | cons c r=>
  by_cases b:(c::r).length<=16
  . have f:¬(16:Int)<(r.length:Int)+1:=(by simp at b;omega);simp[f];refine qFQ (qfH GG c.toNat) ?_ rfl;cases hl:wE (c.toNat:Int)
    . simp[jc,Zc,hl]
    simp;refine qFQ (qsG (c::r)) ?_ rfl;cases hk:qdQ.contains (c::r)
    . simp;refine qF3 (fun n env σ=>∃i,i<=(c::r).length/\n=(c::r).length-i/\env 0=.str (c::r)/\env 3=.int .i64 i/\σ=⟨[],[]⟩/\∀x∈(c::r).take i,Jh x=true) (c::r).length ⟨0,by simp⟩ ?_;rintro n env σ ⟨i,hi,rfl,h0,e,rfl,h⟩
      cases hv:(c::r)[i]? with
      | some v=>
       obtain⟨d,m⟩:=qBk.1 hv;simp[h0,e,show(i:Int)<r.length+1 by simp at d;omega,hv];refine qFQ (qoB GG v.toNat) ?_ rfl;cases hin:we (v.toNat:Int)
       . have:=ZM (qBl hv) (show Jh v=false from hin);simp[jc,this]
       simp[h0,e];refine⟨_,by simp at d;omega,i+1,by simp at d;omega,rfl,wr (by omega) (by simp at d l;omega),?_⟩;intro x a;rw[show(c::r).take (i+1)=(c::r).take i++[v] by rw[qBQ,hv];rfl,qBC]at a;rcases a with a|a
       . exact h x a
       rwa[qB0.1 a]
      | none=>
       have j:i=(c::r).length:=(by simp at hv hi;simp;omega);subst j;have h1:Zc (c::r)=true:=by
        simp only[Zc,qBq];exact⟨hl,qBx.2 fun x a=>h x (by simpa using a)⟩
       have g:jc (c::r)=true:=(by simp only[jc,h1,hk,decide_eq_true b];rfl);simp[h0,e,g]
    have g:jc (c::r)=false:=(by simp only[jc,hk,qD5,qDz]);simp[g]
  have f:(16:Int)<(r.length:Int)+1:=by simp at b;omega
  have:jc (c::r)=false:=by
   have:decide ((c::r).length<=16)=false:=by simpa using b
   simp only[jc,this,qDz,qDy]
  simp[f,this]
def Zp{s:Str}:Lib.indexByte s 91=if s.contains 91=true then((yk s).length:Int) else -1:=by
 unfold yk
 induction s with
 |nil=>simp[Lib.indexByte]
 | cons c r ih=>
  by_cases b:c=91
  . subst b;simp[Lib.indexByte]
  have h1:(c==91)=false:=by simpa using b
  simp only[Lib.indexByte,h1,qBP,if_false,ih,List.contains_cons];have f:((91:UInt8)==c)=false:=by simpa using fun e=>b e.symm
  have d:(c != 91)=true:=by simpa using b
  rw[f,qDQ,qEw,if_pos d];by_cases a:r.contains 91=true
  . rw[if_pos a,if_pos a];have:¬(((r.takeWhile (· != 91)).length:Int) == -1)=true:=by simp
    rw[if_neg this];simp
  rw[if_neg a,if_neg a];simp
def qgz(G:Nat->AV)(s:Str):Pure prog G 214 [.str s,.str [91]] (.int .i64 (Lib.indexByte s 91)):=by
 refine qF6 func214 ?_;by_cases h:[91]=s
 . subst h;simp[Lib.indexByte]
 simp[h];refine qFQ (qc7 G s 91) ?_ rfl;simp
def qwe(G:Nat->AV)(s:Str)(c:Fits s)(h:s.contains 91=true):Pure prog G 163 [.str s,.str [91]] (.tup [.str (yk s),.str (Ku s),.bool true]):=by
 refine qF6 func163 ?_;simp;refine qFQ (qgz G s) ?_ rfl;have e:=qqA h;have d:s.length=(yk s).length+1+(Ku s).length:=by
  have:=congrArg List.length e;rw[qBp,qBB]at this;omega
 have b:s.take (yk s).length=yk s:=by
  conv=>lhs;arg 2;rw[e]
  simp
 have a:s.drop ((yk s).length+1)=Ku s:=by
  conv=>lhs;arg 2;rw[e]
  simp
 rw[Zp,if_pos h];simp[zm,zM,show IntKind.i64.wrap (((yk s).length:Int)+1)=(yk s).length+1 from wr,show((yk s).length:Int)+1<=s.length by omega,show(0:Int)<=(yk s).length+1 by omega,show(((yk s).length:Int)+1).toNat=(yk s).length+1 by omega,show(yk s).length<=s.length by omega,b,a]
def qtc(G:Nat->AV)(s:Str)(a:Fits s)(h:s.contains 91=false):Pure prog G 163 [.str s,.str [91]] (.tup [.str s,.str [],.bool false]):=by
 refine qF6 func163 ?_;simp;refine qFQ (qgz G s) ?_ rfl;rw[Zp,if_neg (by rw[h];decide)];simp
def qlH(G:Nat->AV)(s:Str)(a:Fits s)(h:s.contains 91=true):Pure prog G 113 [.str s,.str [91]] (.tup [.str (yk s),.str (Ku s),.bool true]):=by
 refine qF6 func113 ?_;simp;refine qFQ (qwe G s a h) ?_ rfl;simp
def qe1(G:Nat->AV)(s:Str)(a:Fits s)(h:s.contains 91=false):Pure prog G 113 [.str s,.str [91]] (.tup [.str s,.str [],.bool false]):=by
 refine qF6 func113 ?_;simp;refine qFQ (qtc G s a h) ?_ rfl;simp
def qnh(i:Nat)(h:i<9):Pure prog GG 317 [.int .i64 i] (.str [UInt8.ofNat (48+i)]):=by
 refine qF6 func317 ?_;have b:i<10:=by omega
 have a:(0:Int)<=(i:Int)+1:=by omega
 simp[show(i:Int)<10 by omega,show IntKind.i64.wrap ((i:Int)+1)=(i:Int)+1 from wr,zm,zM,show(i:Int)+1<=36 by omega,show(i:Int)<=(i:Int)+1 by omega];have:i=0\/i=1\/i=2\/i=3\/i=4\/i=5\/i=6\/i=7\/i=8:=by omega
 rcases this with rfl|rfl|rfl|rfl|rfl|rfl|rfl|rfl|rfl<;>rfl
def qy6(i:Nat)(h:i<9):Pure prog GG 164 [.int .i64 i] (.str [UInt8.ofNat (48+i)]):=by
 refine qF6 func164 ?_;simp;refine qFQ (r:=.str [UInt8.ofNat (48+i)]) ?_ ?_ rfl
 . refine qF6 func215 ?_;simp;refine qFQ (r:=.str [UInt8.ofNat (48+i)]) ?_ ?_ rfl
   . refine qF6 func278 ?_;have a:i<100:=(by omega);simp[show(0:Int)<=i by omega,show(i:Int)<100 by omega];exact qFQ (qnh i h) (by simp) rfl
   simp
 simp
def qsF(i:Nat)(h:i<8):Pure prog GG 164 [.int .i64 i] (.str [UInt8.ofNat (48+i)]):=qy6 i (by omega)
def JY(a:Str)(i:Nat)(hi:i<8)(b:a.length<=1000):Pure prog GG 114 [.str a,.int .i64 i] (.str (zX a i)):=by
 refine qF6 func114 ?_;have c:a.length+1+1<=4611686018427387904:=by omega
 simp[show a.length+1<=4611686018427387904 by omega];refine qFQ (qsF i hi) ?_ rfl;simp[show a.length+(1+1)<=4611686018427387904 by omega,show a.length+(1+(1+1))<=4611686018427387904 by omega,zX]
def wD{s}(h:jc s=true):s.length<=16:=by
 simp only[jc,qBq,decide_eq_true_eq]at h;exact h.1.2
def qoY{s i}(hi:i<8)(b:jc (yk s)=true)(h:s=zX (yk s) i):(wv s).isSome=true:=by
 rw[vF (a:=yk s) (i:=i) ⟨hi,b,h⟩];rfl
def qoZ{s}(h:∀i,i<8->s≠zX (yk s) i):wv s=none:=by
 rw[kg];rintro a i hi;have:=hi.has.2.1;exact h i hi.1 (by rw[this];exact hi.2.2)
def qds{s}(h:jc (yk s)=false):wv s=none:=by
 rw[kg];rintro a i hi;have:=hi.has.2.1;rw[this,hi.2.1]at h;cases h
def qog(s:Str)(m:Fits s):Pure prog GG 74 [.str s] (.bool (kW s)):=by
 refine qF6 func74 ?_;simp;refine qFQ (Qt s) ?_ rfl;cases hn:jc s
 . simp;by_cases r:s.contains 91=true
   . refine qFQ (qlH GG s m r) ?_ rfl;simp;refine qFQ (Qt (yk s)) ?_ rfl;cases hh:jc (yk s)
     . simp[kW,hn,qds hh]
     simp;refine qF3 (fun n env σ=>∃i:Nat,i<=8/\n=8-i/\env 0=.str s/\env 3=.str (yk s)/\env 22=.int .i64 i/\σ=⟨[],[]⟩/\∀j,j<i->s≠zX (yk s) j) 8 ⟨0,by simp⟩ ?_;rintro n env σ ⟨i,hi,rfl,h0,d,f,rfl,h⟩;by_cases l:i<8
     . have c:(i:Int)<8:=(by omega);simp[h0,d,f,c];refine qFQ (JY (yk s) i l (by have:=wD hh;omega)) ?_ rfl;by_cases a:s=zX (yk s) i
       . have g:kW s=true:=(by simp[kW,qoY l hh a]);rw[<- a];simp[h0,g]
       simp[h0,d,f,a];refine⟨_,by omega,i+1,by omega,rfl,wr,?_⟩;intro j b e;rcases qCB.1 b with b|rfl
       . exact h j b e
       exact a e
     have c:¬(i:Int)<8:=(by omega);have g:kW s=false:=by
      have:=qoZ fun j b=>h j (by omega)
      simp[kW,hn,this]
     simp[h0,d,f,c,g]
   have o:s.contains 91=false:=(by simpa using r);refine qFQ (qe1 GG s m o) ?_ rfl;simp[kW,hn,qaW o]
 simp[kW,hn]
def qle:∀(i:Nat),i<8->Pure prog GG 160 [.int .i64 i] (.str [UInt8.ofNat (48+i)]):=by
 have key:∀(i:Nat),i<8->IntKind.i64.wrap (-(i:Int)) = -i/\(-(i:Int)).tmod 10 = -i/\IntKind.i64.wrap (48+(i:Int))=48+i/\IntKind.u8.wrap (48+(i:Int))=48+i/\IntKind.i64.wrap (-((i:Int)/10))=0/\(48+(i:Int)).toNat=48+i:=by decide
 intro i hi;obtain⟨k1,d,k3,k4,c,a⟩:=key i hi;refine qF6 func160 ?_;simp;have below:Pure prog GG 211 [.int .i64 i] (.int .i64 (-i)):=by
  refine qF6 func211 ?_;by_cases h0:i=0
  . subst h0;simp
  have:0<i:=by omega
  simp[this,k1]
 refine qFQ below ?_ rfl;refine qF3 (fun n env σ=>n=1/\env 0=.int .i64 i/\env 3=.str []/\env 4=.int .i64 (-i)/\σ=⟨[],[]⟩) 1 ⟨rfl,by simp⟩ ?_;rintro n env σ ⟨rfl,h0,b,e,rfl⟩;simp[h0,b,e,d,k3,k4,c,a,qe,qp,ye,bytesOf]
def JX(a:Str)(i:Nat)(hi:i<8)(b:a.length<=1000):Pure prog GG 109 [.str a,.int .i64 i] (.str (zX a i)):=by
 refine qF6 func109 ?_;have c:a.length+1+1<=4611686018427387904:=by omega
 simp[show a.length+1<=4611686018427387904 by omega];refine qFQ (qle i hi) ?_ rfl;simp[show a.length+(1+1)<=4611686018427387904 by omega,show a.length+(1+(1+1))<=4611686018427387904 by omega,zX]
noncomputable def qbj(s:Str):AV:=match wv s with
 |some (a,i)=>.tup [.str a,.int .i64 i,.bool true]
 |none=>.tup [.str [],.int .i64 0,.bool false]
def Jo{s a i}(h:jF s a i):qbj s=.tup [.str a,.int .i64 i,.bool true]:=by simp[qbj,vF h]
def vE{s}(h:wv s=none):qbj s=.tup [.str [],.int .i64 0,.bool false]:=by simp[qbj,h]
def qyj{c:UInt8}(h1:48<=c.toNat)(h2:c.toNat<56):UInt8.ofNat (48+(c.toNat-48))=c:=by
 have:48+(c.toNat-48)=c.toNat:=by omega
 rw[this];simp
def qc1{s t}{c:UInt8}(a:jc t=true)(h1:48<=c.toNat)(h2:c.toNat<56)(h:s=t++[91,c,93]):jF s t (c.toNat-48) :=
 ⟨by omega,a,by rw[h,zX,qyj h1 h2]⟩
def qdr{s a i}(h:jF s a i):s=a++[91,UInt8.ofNat (48+i),93]/\(UInt8.ofNat (48+i)).toNat=48+i/\i<8:=by
 refine⟨h.2.2,?_,h.1⟩;have:=h.1;simp;omega
def V8(s:Str)(l:Fits s):Pure prog GG 217 [.str s] (qbj s):=by
 refine qF6 func217 ?_;simp;cases hc:s.contains 91
 . refine qFQ (qe1 GG s l hc) ?_ rfl;rw[vE (qaW hc)];simp
 refine qFQ (qlH GG s l hc) ?_ rfl;simp;refine qFQ (Qt (yk s)) ?_ rfl;cases hn:jc (yk s)
 . rw[vE (qds hn)];simp
 have b:(∀c,Ku s=[c,93]->¬(48<=c.toNat/\c.toNat<56))->qbj s=.tup [.str [],.int .i64 0,.bool false]:=by
  intro h;refine vE (kg.2 fun a i hi=>?_);obtain⟨u,v,x⟩:=qdr hi;exact h _ hi.has.2.2 ⟨by omega,by omega⟩
 cases ht:Ku s with
 |nil=>rw[b (by simp[ht])];simp
 | cons c o=>
  cases o with
  |nil=>rw[b (by simp[ht])];simp
  | cons d m=>
   cases m with
   | cons e t=>
    rw[b (by simp[ht])];simp[show ¬((t.length:Int)+1+1+1=2) by omega]
   | nil=>
    by_cases hd:d=93
    . subst hd;by_cases h1:48<=c.toNat
      . have f:¬(c.toNat:Int)<48:=(by omega);by_cases h2:c.toNat<56
        . have g:¬(56:Int)<=c.toNat:=(by omega);have e:jF s (yk s) (c.toNat-48):=qc1 hn h1 h2 (by have:=qqA hc;rwa[ht]at this);rw[Jo e];have w:((c.toNat:Int)-48)=((c.toNat-48:Nat):Int):=(by omega);simp[f,g,ye,show IntKind.u8.wrap ((c.toNat:Int)-48)=c.toNat-48 by simp[IntKind.wrap,IntKind.bits,IntKind.signed];omega,show IntKind.i64.wrap ((c.toNat:Int)-48)=c.toNat-48 from wr];omega
        have g:(56:Int)<=c.toNat:=(by omega);rw[b (fun j e=>by rw[ht]at e;cases e;omega)];simp[f,g]
      have f:(c.toNat:Int)<48:=(by omega);rw[b (fun j e=>by rw[ht]at e;cases e;omega)];simp[f]
    have r:¬(d.toNat:Int)=93:=by
     intro e;exact hd (UInt8.toNat_inj.1 (by simp;omega))
    rw[b (fun j e=>by rw[ht]at e;cases e;exact absurd rfl hd)];simp[r]
def qow(s:Str)(b:Fits s):Pure prog GG 167 [.str s] (.bool (kW s)):=by
 refine qF6 func167 ?_;simp
 cases he:wv s with
 | some p=>
  obtain⟨a,i⟩:=p;refine qFQ (by have:=V8 s b;rw[Jo (kU.1 he)]at this;exact this) ?_ rfl;simp[kW,he]
 | none=>
  refine qFQ (by have:=V8 s b;rwa[vE he]at this) ?_ rfl;simp;refine qFQ (Qt s) ?_ rfl;simp[kW,he]
def qyM{s:Str}(h:3<=s.length):∃t x y z,s=t++[x,y,z]:=by
 refine⟨s.take (s.length-3),s[s.length-3]'(by omega),s[s.length-2]'(by omega),s[s.length-1]'(by omega),?_⟩;have e:s.drop (s.length-3)=[s[s.length-3]'(by omega),s[s.length-2]'(by omega),s[s.length-1]'(by omega)]:=by
  rw[qBE (by omega),qBE (by omega),qBE (by omega),List.drop_eq_nil_of_le (by omega)];simp only[qDR,and_true,true_and];exact⟨by congr 1;omega,by congr 1;omega⟩
 rw[<- e,qB9]
def qiq{s}(h:s.length<4):wv s=none:=by
 rw[kg];intro a i hi;have:=qa1 hi.2.1;have:=qBA.2 this;rw[hi.2.2]at h;simp at h;omega
def qfF(s:Str)(R:Fits s):Pure prog GG 269 [.str s] (qbj s):=by
 refine qF6 func269 ?_;by_cases E:s.length<4
 . have b:(s.length:Int)<4:=(by omega);rw[vE (qiq E)];simp[b]
 obtain⟨t,x,y,z,rfl⟩:=qyM (s:=s) (by omega);have c:(t++[x,y,z]).length=t.length+3:=by simp
 rw[Fits,c]at R;rw[c]at E;have l:¬(x=91/\z=93/\48<=y.toNat/\y.toNat<56/\jc t=true)->qbj (t++[x,y,z])=.tup [.str [],.int .i64 0,.bool false]:=by
  intro h;refine vE (kg.2 fun a i hi=>h ?_);obtain⟨F,V,W⟩:=qdr hi;obtain⟨U,L⟩:=List.append_inj' F rfl;cases L;subst U;exact⟨rfl,rfl,by omega,by omega,hi.2.1⟩
 have b:¬(t.length:Int)+3<4:=by omega
 have r:IntKind.i64.wrap ((t.length:Int)+3-1)=((t.length+2:Nat):Int):=by rw[wr];omega
 have o:IntKind.i64.wrap ((t.length:Int)+3-2)=((t.length+1:Nat):Int):=by rw[wr];omega
 have f:IntKind.i64.wrap (t.length:Int)=t.length:=wr;have K:(t++[x,y,z])[t.length+2]?=some z:=by simp
 have I:(t++[x,y,z])[t.length+1]?=some y:=by simp
 have N:(t++[x,y,z])[t.length]?=some x:=by simp
 have A:(t++[x,y,z]).take t.length=t:=by simp
 have n1:((t.length:Int)+2).toNat=t.length+2:=by omega
 have m:((t.length:Int)+1).toNat=t.length+1:=by omega
 have p1:(0:Int)<=(t.length:Int)+2:=by omega
 have p2:(0:Int)<=(t.length:Int)+1:=by omega
 have O:=Qs t (show t.length<_ by omega);have Q:x=91->z=93->48<=y.toNat->y.toNat<56->jc t=true->qbj (t++[x,y,z])=.tup [.str t,.int .i64 ((y.toNat:Int)-48),.bool true]:=by
  rintro rfl rfl h1 h2 G;rw[Jo (qc1 G h1 h2 rfl)];congr 4;omega
 generalize X:t++[x,y,z]=S at *;generalize t.length=T at *;have j:=(qBk.1 K).2;have g:=(qBk.1 I).2;have d:=(qBk.1 N).2;have D:(T:Int)<=(T:Int)+3:=by omega
 by_cases u:z=93
 . by_cases w:x=91
   . subst w u;have C:IntKind.i64.wrap (y.toNat:Int)=y.toNat:=(by have:=y.toNat_lt;exact wr);have v:IntKind.i64.wrap ((y.toNat:Int)-48)=y.toNat-48:=(by have:=y.toNat_lt;exact wr);by_cases h1:48<=y.toNat
     . by_cases h2:y.toNat<56
       . have B:¬(y.toNat:Int)-48<0:=(by omega);have P:¬(8:Int)<=(y.toNat:Int)-48:=(by omega);simp[c,b,r,o,f,j,g,d,D,A,n1,m,p1,p2,ye,C,v,B,P,zm,zM];refine qFQ O ?_ rfl;cases hnt:jc t
         . rw[l (fun h=>by rw[hnt]at h;cases h.2.2.2.2)];simp
         rw[Q rfl rfl h1 h2 hnt];simp
       . rw[l (fun h=>h2 h.2.2.2.1)];have B:¬(y.toNat:Int)-48<0:=(by omega);simp[c,b,r,o,f,j,g,d,D,A,n1,m,p1,p2,ye,C,v,B,show(8:Int)<=(y.toNat:Int)-48 by omega,zm,zM]
     rw[l (fun h=>h1 h.2.2.1)];simp[c,b,r,o,f,j,g,d,D,A,n1,m,p1,p2,ye,C,v,show(y.toNat:Int)-48<0 by omega,zm,zM]
   . have J:¬(x.toNat:Int)=91:=by
      intro e;exact w (UInt8.toNat_inj.1 (by simp;omega))
     rw[l (fun h=>w h.1)];subst u;simp[c,b,r,o,f,j,g,d,n1,m,p1,p2,J]
 have M:¬(z.toNat:Int)=93:=by
  intro e;exact u (UInt8.toNat_inj.1 (by simp;omega))
 rw[l (fun h=>u h.2.1)];simp[c,b,r,o,f,j,g,d,n1,m,p1,p2,M]
def qov(s:Str)(b:Fits s):Pure prog GG 207 [.str s] (.bool (kW s)):=by
 refine qF6 func207 ?_;simp
 cases he:wv s with
 | some p=>
  obtain⟨a,i⟩:=p;refine qFQ (by have:=qfF s b;rw[Jo (kU.1 he)]at this;exact this) ?_ rfl;simp[kW,he]
 | none=>
  refine qFQ (by have:=qfF s b;rwa[vE he]at this) ?_ rfl;simp;refine qFQ (Qs s b) ?_ rfl;simp[kW,he]
def qof(s:Str)(B:Fits s):Pure prog GG 108 [.str s] (.bool (kW s)):=by
 refine qF6 func108 ?_;simp;refine qFQ (Qs s B) ?_ rfl;cases hn:jc s
 . simp;refine qF3 (fun n env σ=>∃k:Nat,1<=k/\k<=s.length+1/\n=s.length+1-k/\env 0=.str s/\env 3=.int .i64 k/\σ=⟨[],[]⟩/\∀a i,jF s a i->¬a.length<k) s.length ⟨1,by simp,by simp,by simp,by simp,by simp,rfl,fun a i hi=>by have:=qBA.2 (qa1 hi.2.1);omega⟩ ?_;rintro n env σ ⟨k,E,D,rfl,h0,b,rfl,w⟩;by_cases d:k<s.length
   . have A:(k:Int)<s.length:=(by omega);have step:(∀a i,jF s a i->a.length≠k)->∀a i,jF s a i->¬a.length<k+1:=fun h a i hi c=>by
      rcases qCB.1 c with h1|h1
      . exact w a i hi h1
      exact h a i hi h1
     have g:∀a i,jF s a i->a.length=k->s[k]=91/\s.take k=a:=fun a i hi c=>by
      obtain⟨_,_,rfl⟩:=hi;subst c;simp[zX]
     have o:IntKind.i64.wrap ((k:Int)+1)=((k+1:Nat):Int):=(by rw[wr];omega);by_cases r:s[k]=91
     . simp[h0,b,d,r,zm,zM,show k<=s.length by omega];refine qFQ (Qs (s.take k) (by simp;omega)) ?_ rfl;cases ht:jc (s.take k)
       . simp[h0,b,o];refine⟨_,by omega,k+1,by omega,by omega,rfl,rfl,fun a i hi=>Nat.not_lt.1 (step (fun a i hi c=>?_) a i hi)⟩;have:=(g a i hi c).2;rw[this,hi.2.1]at ht;cases ht
       simp[h0,b];refine qF3 (fun n env σ=>∃i:Nat,i<=8/\n=8-i/\env 0=.str s/\env 3=.int .i64 k/\env 4=.int .i64 i/\σ=⟨[],[]⟩/\∀j,j<i->s≠zX (s.take k) j) 8 ⟨0,by simp[h0,b]⟩ ?_;rintro n env σ ⟨i,hi,rfl,h0,b,m,rfl,y⟩;by_cases x:i<8
       . have u:(i:Int)<8:=(by omega);simp[h0,b,m,u,zm,zM,show(k:Int)<=s.length by omega];refine qFQ (JX (s.take k) i x (by have:=wD ht;omega)) ?_ rfl;by_cases f:s=zX (s.take k) i
         . have t:kW s=true:=(by simp[kW,vF (show jF s (s.take k) i from⟨x,ht,f⟩)]);rw[<- f];simp[h0,t]
         simp[h0,b,m,f];refine⟨_,by omega,i+1,by omega,rfl,wr,?_⟩;intro j l e;rcases qCB.1 l with l|rfl
         . exact y j l e
         exact f e
       have u:¬(i:Int)<8:=(by omega);simp[h0,b,m,u,o];refine⟨_,by omega,k+1,by omega,by omega,rfl,rfl,fun a i hi=>Nat.not_lt.1 (step (fun a z v c=>?_) a i hi)⟩;have:=(g a z v c).2;exact y z (by have:=v.1;omega) (by rw[this];exact v.2.2)
     have C:¬(s[k].toNat:Int)=91:=by
      intro e;exact r (UInt8.toNat_inj.1 (by simp;omega))
     simp[h0,b,d,C,o];refine⟨_,by omega,k+1,by omega,by omega,rfl,rfl,fun a i hi=>Nat.not_lt.1 (step (fun a i hi c=>?_) a i hi)⟩;exact r (g a i hi c).1
   have A:¬(k:Int)<s.length:=(by omega);have t:kW s=false:=by
    have:=kg.2 fun a i hi=>w a i hi (by rw[hi.2.2]at d;simp at d;omega)
    simp[kW,hn,this]
   simp[h0,b,d,t]
 simp[kW,hn]
def qfO{S}{stp:S->Ex->S×Bool}{s:S}{e}:Z1 stp s (pre e)=if(stp s e).2=true then Z1 stp (stp s e).1 (vt e.args) else((stp s e).1,false):=by
 rw[jv,Z1]
def look{hd:List Blk}{c}(a:hd.length=c){t k}:(hd++t)[c+k]?=t[k]?:=by
 subst a;rw[qBt (by omega)];simp
def qoj{tail t:List Blk}{k:Nat}{b:Blk}(h:tail[k]?=some b):(tail++t)[k]?=some b:=by
 rw[qBv (qBk.1 h).1,h]
def Wen(e:Ex):Prop:=∀x∈pre e,Fits x.args/\Fits x.name
def Wen.fits{e}(h:Wen e):Fits e.args:=(h e (by rw[jv];simp)).1
def Wen.nm{e}(h:Wen e):Fits e.name:=(h e (by rw[jv];simp)).2
def Wen.arg{e a}(h:Wen e)(b:a∈e.args):Wen a:=fun x c=>h x (by rw[jv];exact qCE _ (QS.2 ⟨a,b,c⟩))
section
variable {S:Type}{stp:S->Ex->S×Bool}{hd:S->List Blk}{T:S->List (Option Nat)}{c:Nat}{vf:FuncId}{cap:List AV}{m:S->Nat}
def qdK(stp:S->Ex->S×Bool)(hd:S->List Blk)(T:S->List (Option Nat))(vf:FuncId)(cap:List AV)(m:S->Nat):Prop :=
 ∀s tail e,Wen e->0<m s->qh prog GG vf (.agg (qo e)::cap) ⟨hd s++tail,T s⟩ (fun r σ'=>r=.bool (stp s e).2/\∃t,σ'=⟨hd (stp s e).1++(tail++t),T (stp s e).1⟩)
def qpV(a:∀s e,m s<=m (stp s e).1+1):∀(s:S) (l),m s<=m (Z1 stp s l).1+l.length
 |s,[]=>by simp[Z1]
 | s,e::r=>by
  simp only[Z1];split
  . have:=a s e;have:=qpV a (stp s e).1 r;simp;omega
  have:=a s e;simp;omega
def qs6(h:∀s,(hd s).length=c)(A:∀s e,m s<=m (stp s e).1+1)(J:qdK stp hd T vf cap m):∀e,Wen e->∀s tail j f,(pre e).length<=m s->tail[j]?=some (.cells [.fn vf [] cap])->tail[f]?=some (.cells [.fn 165 [] [.ptr (c+j) 0,.ptr (c+f) 0]]) ->
 qh prog GG 165 [.agg (qo e),.ptr (c+j) 0,.ptr (c+f) 0] ⟨hd s++tail,T s⟩ (fun r σ'=>r=.bool (Z1 stp s (pre e)).2/\∃t,σ'=⟨hd (Z1 stp s (pre e)).1++(tail++t),T (Z1 stp s (pre e)).1⟩):=by
 refine qF4 fun e ih w s tail j f G hb B=>?_
 rw[jv,qBB]at G;refine qh.vc func165 ?_;have D:∀s (t:List Blk) (x:Blk) (u:List Blk),(hd s++(tail++(t++x::u)))[c+(tail.length+t.length)]?=some x:=fun s t x u=>by
  rw[look (h s),qBt (by omega),qBt (by omega)];simp
 have F:∀s (x:Blk) (u:List Blk),(hd s++(tail++(x::u)))[c+tail.length]?=some x:=fun s x u=>by
  have:=D s [] x u;simpa using this
 simp[qd,h,show ∀s t,(hd s++(tail++t))[c+j]?=some (.cells [.fn vf [] cap]) from fun s t=>by rw[look (h s),qoj hb],F];rw[<- qd e];refine qFU (J s (tail++[.cells (qo e)]) e w (by omega)) ?_;rintro r σ' ⟨rfl,t,rfl⟩;rw[show hd (stp s e).1++(tail++[Blk.cells (qo e)]++t)=hd (stp s e).1++(tail++(Blk.cells (qo e)::t)) by simp];cases hst:(stp s e).2
 . simp[qfO,hst]
 have L:=w.fits;simp only[qd e];simp[h];refine qF3 (fun n env σ=>∃i b g,i<=e.args.length/\n=e.args.length-i/\env 1=.ptr (c+j) 0/\env 2=.ptr (c+f) 0/\env 12=.sl 4 (e.args.map qo) .none/\env 13=.int .i64 e.args.length/\env 14=.int .i64 i/\σ=⟨hd b++(tail++g),T b⟩/\(vt (e.args.drop i)).length<=m b/\Z1 stp s (pre e)=Z1 stp b (vt (e.args.drop i))) e.args.length ⟨0,(stp s e).1,_,by simp,by simp,by simp,by simp,by simp,by simp,by simp,rfl,by have:=A s e;simp;omega,by rw[qfO,hst];simp⟩ ?_;rintro n env σ ⟨i,b,g,hi,rfl,h1,h2,v,l,o,rfl,I,d⟩
 cases hv':e.args[i]? with
 | none=>
  have y:¬i<e.args.length:=by simp at hv';omega
  rw[show e.args.drop i=[] by simp;omega]at d;simp[v,l,o,y,d,Z1]
 | some a=>
  obtain⟨y,E⟩:=qBk.1 hv';have C:=qBl hv';rw[zn hv',ku,KI]at d;rw[zn hv',ku,qBp]at I;have M:=qpV A b (pre a);have set1:∀(z x:Blk),(hd b++(tail++(g++[z]))).set (c+(tail.length+g.length)) x=hd b++(tail++(g++[x])):=fun z x=>by
   rw[qB8,if_neg (by rw[h];omega),h,qB8,if_neg (by omega),qB8,if_neg (by omega)];have:c+(tail.length+g.length)-c-tail.length-g.length=0:=by omega
   rw[this];rfl
  simp[h2,v,l,o,y,E,qd a,h,set1,show ∀s t,(hd s++(tail++t))[c+f]?=some (.cells [.fn 165 [] [.ptr (c+j) 0,.ptr (c+f) 0]]) from fun s t=>by rw[look (h s),qoj B]];rw[<- qd a];refine qFU (ih a C (w.arg C) b (tail++(g++[.cells (qo a)])) j f (by omega) (qoj hb) (qoj B)) ?_;rintro r σ' ⟨rfl,K,rfl⟩;cases hr:(Z1 stp b (pre a)).2
  . rw[hr]at d;simp only[qBP,if_false]at d;simp[d,hr]
  rw[hr]at d;simp only[if_true]at d;simp[h1,h2,v,l,o];exact⟨_,by omega,i+1,by omega,rfl,wr,_,⟨⟨_,rfl⟩,rfl⟩,by omega,d⟩
def qdV(a:∀s,(hd s).length=c)(g:∀s e,m s<=m (stp s e).1+1)(f:qdK stp hd T vf cap m)(e)(b:Wen e)(s:S)(d:(pre e).length<=m s)(tail):
 qh prog GG 118 [.agg (qo e),.fn vf [] cap] ⟨hd s++tail,T s⟩ (fun r σ'=>∃t,σ'=⟨hd (Z1 stp s (pre e)).1++(tail++t),T (Z1 stp s (pre e)).1⟩):=by
 refine qh.vc func118 ?_;have set2:∀(x y z w:Blk),(hd s++(tail++[x,y,z])).set (c+(tail.length+(1+1))) w=hd s++(tail++[x,y,w]):=fun x y z w=>by
  rw[qB8,if_neg (by rw[a];omega),a,qB8,if_neg (by omega)];have:c+(tail.length+(1+1))-c-tail.length=2:=by omega
  rw[this];rfl
 have i:∀(x:Blk) (u:List Blk),(hd s++(tail++(x::u)))[c+tail.length]?=some x:=fun x u=>by
  rw[look (a s),qBt (by omega)];simp
 have h:∀(x y z:Blk) (u:List Blk),(hd s++(tail++(x::y::z::u)))[c+(tail.length+(1+1))]?=some z:=fun x y z u=>by
  rw[look (a s),qBt (by omega)];have:tail.length+(1+1)-tail.length=2:=by omega
  rw[this];rfl
 simp[qd e,a,h];rw[<- qd e];have k:=qs6 a g f e b s (tail++[.cells (qo e),.cells [.fn vf [] cap],.cells [.fn 165 [] [.ptr (c+(tail.length+1)) 0,.ptr (c+(tail.length+1)+1) 0]]]) (tail.length+1) (tail.length+1+1) d
  (by
    rw[qBt (by omega)];have:tail.length+1-tail.length=1:=by omega
    rw[this];rfl)
  (by
    rw[qBt (by omega)];have:tail.length+1+1-tail.length=2:=by omega
    rw[this];rfl)
 refine qFU k ?_;rintro r σ' ⟨_,t,rfl⟩;exact⟨_,by rw[qBX]⟩
end
def Wb{α:Type}{R:Nat->α->Prop}:∀(n:Nat),(∀i,i<n->∃y,R i y)->∃l:List α,l.length=n/\∀i y,l[i]?=some y->R i y
 |0,_=>⟨[],rfl,by simp⟩
 | n+1,h=>by
  obtain⟨l,h1,h2⟩:=Wb n fun i hi=>h i (by omega)
  obtain⟨y,b⟩:=h n (by omega);refine⟨l++[y],by simp[h1],fun i z a=>?_⟩;rw[qCn]at a;split at a
  . exact h2 i z a
  rename_i hi;have:i-l.length=0:=by
   rcases qCI (i-l.length) with h0|h0
   . exact h0
   rw[qBW (by simp;omega)]at a;cases a
  rw[this]at a;cases a;have:i=n:=by omega
  subst this;exact b
section
variable {H:Type}{enc:TypeId×Value->H}{w:World}{base:Nat}{held:Bool}
abbrev KMw(w:World):Kn:=Go.Abs.K0 (qhO w)
def qj.get{K:Kn}:∀{l:List AV}{vs:List Value},qj K l vs->vs.length=l.length/\∀(j:Nat) (a:AV),l[j]?=some a->∃v,vs[j]?=some v/\qi K a v
 |[],_,h=>by simp only[qj]at h;subst h;simp
 | a::r,_,h=>by
  simp only[qj]at h;obtain⟨v,e,rfl,h1,h2⟩:=h;obtain⟨k1,d⟩:=qj.get h2;refine⟨by simp[k1],fun j b c=>?_⟩
  cases j with
  |zero=>simp at c;subst c;exact⟨v,rfl,h1⟩
  |succ j=>simp at c;exact d j b c
def KQ{α:Type}{t e sz:Nat}{en:α->List AV}{good:α->Prop}{X:DataW H->Prop}{n:Nat}(ht:prog.underlying t=some (.slice e))(V:prog.cellsOf e=sz)(Z:0<sz)
 (U:∀y,(en y).all AV.atom=true/\(en y).length=sz)
 (Y:∀cs x,DataW.trod enc prog w base (fun _=>true) held n e cs=some x->X x.1->∃y,qj (KMw w) (en y) cs/\good y)
 {cs:List Value} {x:DataW H×List MemPlace} (h:DataW.trod enc prog w base (fun _=>true) held (n+1) t cs=some x) (O:∀E S,x.1=.slice E S->∀d∈E,X d):
 ∃(l:List α) (v:Value),cs=[v]/\qi (KMw w) (.sl sz (l.map en) .none) v/\Fits l/\(∀y∈l,good y)/\∀N,(∀E S,x.1=.slice E S->E.length<=N)->l.length<=N:=by
 rcases DataW.trod_slice ht h with⟨rfl,rfl⟩|⟨a,len,cap,a2,rest,m,hm,rfl,rfl,hb,hl,hc,a3,L,M,_⟩
 . exact⟨[],_,rfl,by simp only[qi];exact .inl ⟨⟨none,rfl,.inl rfl⟩,rfl,trivial⟩,by simp,by simp,by simp⟩
 have W:n=m:=by omega
 subst W;rw[V]at L M;have one:∀i,i<len->∃y,∃c,w.cells? base (a.add (i*sz)) sz=some c/\qj (KMw w) (en y) c/\good y:=by
  intro i hi;have:=L i hi;rw[qBm (by omega)]at this;obtain⟨c,h1,h2⟩:=qCY.1 this;obtain⟨y,C,u⟩:=Y c _ h2 (O _ _ rfl _ (List.mem_map_of_mem (qDL _)));exact⟨y,c,h1,C,u⟩
 by_cases h0:cap=0
 . have B:len=0:=(by omega);subst h0 B;exact⟨[],_,rfl,by simp only[qi];exact .inl ⟨⟨some a,rfl,.inr trivial⟩,rfl,trivial⟩,by simp,by simp,by simp⟩
 have I:a.spot=none:=by
  have rd:∃c,w.cells? base (a.add 0) sz=some c:=by
   by_cases B:0<len
   . obtain⟨_,c,h1,_⟩:=one 0 B;rw[qDa]at h1;exact⟨c,h1⟩
   obtain⟨a1,T⟩:=M rfl;have:=T 0 (by omega);rw[qBm (by omega),show len+0=0 by omega,qDa]at this;obtain⟨c,h1,_⟩:=qCY.1 this;exact⟨c,h1⟩
  obtain⟨c,h1⟩:=rd;obtain⟨_,K,A⟩:=World.cells?_some h1;have:=A 0 Z;rw[qBm (by omega)]at this
  cases hs:a.spot with
  |none=>rfl
  | some s=>
   simp only[Addr.add,if_true]at this;unfold World.cell? at this;rw[hs]at this;split at this<;>simp at this
 obtain⟨b,o,s⟩:=a;simp only at I;subst I;obtain⟨l,D,G⟩:=Wb len one;refine⟨l,_,rfl,?_,by rw[Fits,D];simp only[maxLen]at hc;omega,fun y F=>?_,fun N hN=>?_⟩
 . simp only[qi];refine .inr ⟨b,o,cap,by simp[D],by simpa[D] using hl,qGa b sz _ o fun i r e=>?_,trivial⟩;rw[qBO,qBu]at e;obtain⟨y,F,rfl⟩:=e;obtain⟨c,h1,h2,_⟩:=G i y F;obtain⟨C,u⟩:=U y;obtain⟨_,K,A⟩:=World.cells?_some h1;obtain⟨g1,Q⟩:=qj.get h2;refine⟨u,C,qF9 b _ _ fun j z hz=>?_⟩;obtain⟨v,J,a0⟩:=Q j z hz;have P:j<sz:=(by rw[<- K];exact(qBk.1 J).1);refine⟨v,?_,a0⟩;have:=A j P;rw[J]at this;show w.cell? ⟨b,o+i*sz+j,none⟩=some v;rw[<- this];congr 1;simp only[Addr.add];by_cases g:i*sz=0
   . rw[if_pos g];by_cases f:j=0
     . rw[if_pos f,g,f];simp
     rw[if_neg f,g];simp
   rw[if_neg g];by_cases f:j=0
   . rw[if_pos f,f];simp
   rw[if_neg f]
 . obtain⟨i,hi⟩:=qB1 F;obtain⟨_,_,_,R⟩:=G i y hi;exact R
 have:=hN _ _ rfl;simp only[qBT]at this;omega
def wC{α:Type}{t e sz:Nat}{en:α->List AV}{good:α->Prop}{n:Nat}(i:prog.underlying t=some (.slice e))(f:prog.cellsOf e=sz)(c:0<sz)
 (d:∀y,(en y).all AV.atom=true/\(en y).length=sz)
 (b:∀cs x,DataW.trod enc prog w base (fun _=>true) held n e cs=some x->∃y,qj (KMw w) (en y) cs/\good y)
 {cs:List Value} {x:DataW H×List MemPlace} (h:DataW.trod enc prog w base (fun _=>true) held (n+1) t cs=some x):
 ∃(l:List α) (v:Value),cs=[v]/\qi (KMw w) (.sl sz (l.map en) .none) v/\Fits l/\∀y∈l,good y:=by
 obtain⟨l,v,h1,h2,a,g,_⟩:=KQ (X:=fun _=>True) i f c d (fun cs x h _=>b cs x h) h (fun _ _ _ _ _=>trivial);exact⟨l,v,h1,h2,a,g⟩
end
def yE:Ex->Nat->Bool
 |_,0=>false
 |e,k+1=>decide (e.args.length<=40)&&e.args.all fun a=>yE a k
def qk5{n}:∀{l:List Ex},(∀a∈l,hgt a<=n)->Yn l<=n
 |[],_=>by simp
 | a::r,h=>by
  have h1:=h a (by simp);have h2:=qk5 (l:=r) fun x b=>h x (by simp[b])
  simp;omega
def qci:∀{k:Nat}{e:Ex},yE e k=true->hgt e<=k
 |0,e,h=>by simp[yE]at h
 | k+1,e,h=>by
  simp only[yE,qBq,qBx]at h;have:=qk5 (l:=e.args) fun a b=>qci (h.2 a b)
  rw[w8];omega
def VS:Nat->Nat
 |0=>0
 |k+1=>1+40*VS k
def qke{n}:∀{l:List Ex},(∀a∈l,(pre a).length<=n)->(vt l).length<=l.length*n
 |[],_=>by simp
 | a::r,h=>by
  have h1:=h a (by simp);have h2:=qke (l:=r) fun x b=>h x (by simp[b])
  simp only[ku,qBp,qBB,qCx,qEA];omega
def KC:∀{k:Nat}{e:Ex},yE e k=true->(pre e).length<=VS k
 |0,e,h=>by simp[yE]at h
 | k+1,e,h=>by
  simp only[yE,qBq,qBx,decide_eq_true_eq]at h;have h1:=qke (l:=e.args) fun a b=>KC (h.2 a b)
  have h2:e.args.length*VS k<=40*VS k:=qCz _ h.1;rw[jv];simp only[qBB,VS];omega
def qpT{e}(h:yE e 8=true):hgt e<=8/\(pre e).length<=200000000000:=by
 have h1:=KC h;have h2:VS 8=168041025641:=by decide
 exact⟨qci h,by omega⟩
def okN(w:Int)(l:List Int)(n:Int):Bool:=decide (0<=n)&&decide (n<2^w.toNat)&&!(l.any (n == ·))
def okL(w:Int)(l:List Int):Bool:=(List.range l.length).all fun k=>okN w (l.take k) (l.getD k 0)
def okV(v:Var)(l:List Int):Bool:=(v.mode==2||l.isEmpty)&&okL v.width l
def yt(vs:List Var)(c:List (List Int)):Bool:=decide (c.length=vs.length)&&(vs.zip c).all fun x=>okV x.1 x.2
def jM(w:Int)(l:List Int):List Int:=((List.range (2^w.toNat)).map fun n:Nat=>(n:Int)).filter fun n=>!(l.any (n == ·))
def qsz(w:Int)(l:List Int):List Int:=if jM w l=[] then jM w [] else jM w l
def qny(w:Int)(l:List Int):List Int:=((List.range (2^w.toNat)).map fun n:Nat=>(n:Int)).filter fun n=>decide (l.length=2^w.toNat)||!(l.any (n == ·))
def qkm:∀(n:Nat) (l:List Int),l.Pairwise (·≠·)->(∀x∈l,0<=x/\x<n)->l.length<=n/\∀m:Nat,m<n->(m:Int)∉l->l.length<n
 | 0,l,_,h=>by
  cases l with
  |nil=>exact⟨qBs _,fun m b=>absurd b (Nat.not_lt_zero _)⟩
  |cons a r=>have:=h a (by simp);omega
 | n+1,l,c,h=>by
  have o:(l.filter fun x=>x != (n:Int)).Pairwise (·≠·):=c.sublist List.filter_sublist;have j:∀x∈l.filter (fun x=>x != (n:Int)),0<=x/\x<n:=by
   intro x d;obtain⟨h1,h2⟩:=qCk.1 d;have:=h x h1;have u:x≠n:=(by simpa using h2);omega
  obtain⟨w,s⟩:=qkm n _ o j;have cnt:∀(l:List Int),l.Pairwise (·≠·)->l.length<=(l.filter fun x=>x != (n:Int)).length+1/\((n:Int)∉l->l.length=(l.filter fun x=>x != (n:Int)).length):=by
   intro l
   induction l with
   |nil=>intro _;simp
   | cons a r ih=>
    intro c;obtain⟨p1,p2⟩:=qDT.1 c;obtain⟨v,g⟩:=ih p2;by_cases e:a=n
    . have f:(n:Int)∉r:=fun b=>p1 _ b e
      have:=g f;subst e;simp only[qDe,bne_self_eq_false,qBP,if_false,qBB];exact⟨by omega,fun h=>absurd (qDl) h⟩
    have hb:(a != (n:Int))=true:=(by simpa using e);simp only[qDe,hb,if_true,qBB];refine⟨by omega,fun f=>?_⟩;have:=g fun b=>f (qCE _ b)
    omega
  obtain⟨c1,c2⟩:=cnt l c;refine⟨by omega,fun m b i=>?_⟩;by_cases t:m=n
  . subst t;have:=c2 i;omega
  have:=s m (by omega) fun d=>i (qCk.1 d).1
  omega
def qgf{w l}(h:okL w l=true):l.Pairwise (·≠·)/\∀x∈l,0<=x/\x<(2^w.toNat:Nat):=by
 simp only[okL,qBx,qCe]at h;have b:∀k (a:k<l.length),okN w (l.take k) l[k]=true:=fun k a=>by
  have:=h k a
  rwa[qBw,qBm a]at this
 constructor
 . rw[qC2];intro i j hi d f e;have:=b j d;simp only[okN,qBq,qC5,qCM]at this;refine this.2 l[i] ?_ (by simp[e]);rw[qD9];exact⟨i,by omega,rfl⟩
 intro x c;obtain⟨k,a,rfl⟩:=List.mem_iff_getElem.1 c;have:=b k a;simp only[okN,qBq,decide_eq_true_eq]at this;refine⟨this.1.1,?_⟩;have h2:=this.1.2;simpa using h2
def qB(n:Int):Int:=n%65536
def qA(n):0<=qB n/\qB n<=65535:=by unfold qB;omega
def QF{n}(h0:0<=n)(h1:n<=65535):qB n=n:=by unfold qB;omega
def b2i(b:Bool):Int:=if b=true then 1 else 0
def WO(b):0<=b2i b/\b2i b<=65535:=by cases b<;>simp[b2i]
def ji(env:List Signal)(name:Str):Option Int:=(env.find? fun s=>s.name==name).map fun s=>qB s.value
def atV(env:List Signal)(a:Str)(i:Int):Int:=if 0<=i/\i<8 then(ji env (zX a i.toNat)).getD 0 else 0
def qmy(env:List Signal)(a:Str):Nat->Int
 |0=>0
 |i+1=>qB (qmy env a i+atV env a i)
def yV(a:Nat):Nat->Nat
 |0=>0
 |i+1=>yV a i+(if a.testBit i=true then 1 else 0)
def unW(op a:Int):Int :=
 if op=4 then b2i (decide (a=0)) else if op=5 then 65535-qB a else if op=6 then qB (0-a) else(yV (qB a).toNat 16:Int)
def jW(op a b:Int):Int :=
 if op=7 then qB (a+b) else if op=8 then qB (a-b) else if op=9 then qB (a*b)
 else if op=10 then((a.toNat &&& b.toNat:Nat):Int) else if op=11 then((a.toNat ||| b.toNat:Nat):Int) else if op=12 then((a.toNat ^^^ b.toNat:Nat):Int)
 else if op=13 then(if 0<=b/\b<16 then qB (a*2^b.toNat) else 0)
 else if op=14 then(if 0<=b/\b<16 then qB a/2^b.toNat else 0)
 else if op=15 then b2i (decide (a=b)) else if op=16 then b2i (!decide (a=b)) else if op=17 then b2i (decide (a<b)) else if op=18 then b2i (decide (a<=b))
 else if op=19 then b2i (!decide (a=0)&&!decide (b=0)) else if op=20 then b2i (!decide (a=0)||!decide (b=0))
 else b2i (decide (a=0)||!decide (b=0))
def jj(a:Int):List Int->Bool
 |x::y::r=>(decide (x<=a)&&decide (a<=y))||jj a r
 |_=>false
def opW(op:Int)(l:List Int):Int :=
 if op=22 then(if l.getD 0 0≠0 then l.getD 1 0 else l.getD 2 0)
 else if op=23 then b2i (jj (l.getD 0 0) l.tail)
 else match l with
  |[]=>0
  |[a]=>unW op a
  |a::b::_=>jW op a b
def wH(env:List Signal)(op n:Int)(name:Str)(l:List Int):Int :=
 if op=1 then n else if op=2 then(ji env name).getD 0 else if op=3 then atV env name (l.getD 0 0) else if op=24 then qmy env name 8 else opW op l
mutual
def yi(env:List Signal):Ex->Int
 |.mk op n name args=>wH env op n name (qjk env args)
def qjk(env:List Signal):List Ex->List Int
 |[]=>[]
 |e::r=>yi env e::qjk env r
end
@[simp]def qmU(env):∀l,qjk env l=l.map (yi env)
 |[]=>by simp[qjk]
 |e::r=>by simp[qjk,qmU env r]
def yM(env e):yi env e=wH env e.op e.n e.name (e.args.map (yi env)):=by cases e;simp[yi]
def qiM(env:List Signal)(e:Ex):Bool :=
 if e.op=2 then(ji env e.name).isSome else if e.op=3\/e.op=24 then(ji env (zX e.name 0)).isSome else true
def jC(env:List Signal)(e:Ex):Bool:=(pre e).all (qiM env)
def qcY(env e):jC env e=(qiM env e&&e.args.all (jC env)):=by
 unfold jC;rw[jv,qCH];congr 1;generalize e.args=l
 induction l with
 |nil=>simp
 |cons a r ih=>simp[ih,qCU]
noncomputable def Jm(env:List Signal)(e:Ex):Int:=if zr e≠0 then 1 else if jC env e=true then 0 else 7
noncomputable def evalV(env:List Signal)(e:Ex):Int:=if zr e=0/\jC env e=true then yi env e else 0
def ki(e:Ex):Prop:=∀x∈pre e,qy x=0
def ki.self{e}(h:ki e):qy e=0:=h e (by rw[jv];simp)
def ki.arg{e a}(h:ki e)(b:a∈e.args):ki a:=fun x c=>h x (by rw[jv];exact qCE _ (QS.2 ⟨a,b,c⟩))
def Qa{e}(h:zr e=0):ki e:=by
 unfold zr at h;split at h
 . cases h
 exact zs.1 h
def jm{e}(h:qy e=0):1<=e.op/\e.op<=25/\(e.op=1->0<=e.n/\e.n<=65535)/\(e.op≠1->e.n=0)/\qk e=true/\(e.op=2->kW e.name=true)/\(e.op=3\/e.op=24->jc e.name=true)/\(¬(e.op=2\/e.op=3\/e.op=24)->e.name=[]):=by
 unfold qy at h;split at h
 . cases h
 rename_i h1;split at h
 . cases h
 rename_i h2;split at h
 . cases h
 rename_i c;split at h
 . cases h
 rename_i b;refine⟨by omega,by omega,fun h=>?_,fun h=>?_,?_,fun h=>?_,fun h=>?_,fun h=>?_⟩
 . apply Classical.byContradiction;intro a;exact h2 (.inl ⟨h,by omega⟩)
 . apply Classical.byContradiction;intro a;exact h2 (.inr ⟨h,a⟩)
 . cases ho:qk e with
   |true=>rfl
   |false=>exact absurd (.inr ho) c
 . cases ho:kW e.name with
   |true=>rfl
   |false=>exact absurd (.inl ⟨h,ho⟩) b
 . cases ho:jc e.name with
   |true=>rfl
   |false=>exact absurd (.inr ⟨h,ho⟩) b
 apply Classical.byContradiction;intro a;exact c (.inl ⟨h,a⟩)
def vw{e}(h:qk e=true)(a:e.op≠23):(e.args.length:Int)=zE e.op:=by
 unfold qk at h;rw[if_neg a]at h;simpa using h
def Zz{e}(h:qk e=true)(a:e.op=23):e.args.length%2=1/\3<=e.args.length/\e.args.length<=33:=by
 unfold qk at h;rw[if_pos a]at h;simpa using h
def Z8(a):∀i,yV a i<=i
 |0=>qBs _
 | i+1=>by
  have:=Z8 a i;simp only[yV];split<;>omega
def Wx{env name v}(h:ji env name=some v):0<=v/\v<=65535:=by
 unfold ji at h;obtain⟨s,_,rfl⟩:=qBu.1 h;exact qA _
def JR{o:Option Int}(h:∀v,o=some v->0<=v/\v<=65535):0<=o.getD 0/\o.getD 0<=65535:=by
 cases o with
 |none=>simp
 |some v=>exact h v rfl
def ql6(env a i):0<=atV env a i/\atV env a i<=65535:=by
 unfold atV;split
 . exact JR fun v h=>Wx h
 omega
def qhD(env a):∀i,0<=qmy env a i/\qmy env a i<=65535
 |0=>by simp[qmy]
 |i+1=>qA _
def qjv(op a):0<=unW op a/\unW op a<=65535:=by
 unfold unW;split
 . exact WO _
 split
 . have:=qA a;omega
 split
 . exact qA _
 have:=Z8 (qB a).toNat 16;omega
def KB{a:Int}(n:Nat)(h0:0<=a)(h1:a<=65535):0<=a/2^n/\a/2^n<=65535:=by
 have b:(0:Int)<2^n:=qE6 (by omega);refine⟨Int.ediv_nonneg h0 (by omega),?_⟩;have:=Int.ediv_le_self (2^n) h0;omega
def InW(n:Int):Prop:=0<=n/\n<=65535
def InW.ite{c:Prop}[Decidable c]{a b}(d:InW a)(hb:InW b):InW (if c then a else b):=by
 split
 . exact d
 exact hb
def qiH(op){a b}(e:0<=a)(j:a<=65535)(f:0<=b)(g:b<=65535):0<=jW op a b/\jW op a b<=65535:=by
 obtain⟨x,rfl⟩:=qBG e;obtain⟨y,rfl⟩:=qBG f;have d:x<2^16:=by omega
 have c:y<2^16:=by omega
 have i:=qEF (n:=16) x c;have l:=qEL (n:=16) d c;have h:=qEG (n:=16) d c;show InW (jW op x y);unfold jW;simp
 repeat' apply InW.ite
 all_goals first|exact qA _|exact WO _|exact KB _ (qA _).1 (qA _).2|(unfold InW;omega)
def Vi(env):∀e,ki e->0<=yi env e/\yi env e<=65535:=by
 refine qF4 fun e ih d=>?_
 have c:∀x∈e.args.map (yi env),0<=x/\x<=65535:=by
  intro x j;obtain⟨a,g,rfl⟩:=qBH.1 j;exact ih a g (d.arg g)
 have f:∀i,0<=(e.args.map (yi env)).getD i 0/\(e.args.map (yi env)).getD i 0<=65535:=by
  intro i;rw[qBw];exact JR fun v h=>c v (qBl h)
 obtain⟨h1,h2,l,_⟩:=jm d.self;rw[yM];unfold wH;split
 . rename_i h;exact l h
 split
 . exact JR fun v h=>Wx h
 split
 . exact ql6 _ _ _
 split
 . exact qhD _ _ _
 unfold opW;split
 . split
   . exact f 1
   . exact f 2
 split
 . exact WO _
 split
 . omega
 . exact qjv _ _
 rename_i a b r m;rw[m]at c;exact qiH _ (c a (by simp)).1 (c a (by simp)).2 (c b (by simp)).1 (c b (by simp)).2
def ke(l:List Var)(a:List Int):List Signal:=if a.length=l.length then(l.zip a).map fun q=>⟨q.1.name,q.2⟩ else []
def jE(q:Var×Int):Bool:=decide (0<=q.2)&&decide (q.2<2^q.1.width.toNat)&&(!decide (q.1.mode=0)||decide (q.2=q.1.value))
def qT(l:List Var)(a:List Int):Bool:=decide (a.length=l.length)&&(l.zip a).all jE
def qd6{p}(h:qg p=0):∀v∈p.vars,jS v=0:=by
 unfold qg at h;split at h
 . rename_i b;exact absurd h b
 rename_i a;have a:=qCf.1 a;unfold jd at a;split at a
 . cases a
 split at a
 . rename_i b;exact absurd a b
 rename_i c;exact zs.1 (qCf.1 c)
def zG(v:Var):Nat:=2^v.width.toNat
def qJ:List Var->List Int->List Int×Bool
 | v::vs,x::xs=>
  if(qJ vs xs).2=false then(x::(qJ vs xs).1,false)
  else if v.mode=0 then(x::(qJ vs xs).1,true)
  else if x+1<(zG v:Nat) then((x+1)::(qJ vs xs).1,false)
  else(0::(qJ vs xs).1,true)
 |_,_=>([],true)
def qZ(vs:List Var):List Int:=vs.map fun v=>if v.mode=0 then v.value else 0
def yS:List Var->List (List Int)
 |[]=>[[]]
 |v::vs=>if v.mode=0 then(yS vs).map (v.value::·) else(List.range (zG v)).flatMap fun n:Nat=>(yS vs).map ((n:Int)::·)
def wu:List Var->List Int->List (List Int)
 |v::vs,x::xs=>if v.mode=0 then(wu vs xs).map (x::·) else(wu vs xs).map (x::·)++(List.range' (x.toNat+1) (zG v-1-x.toNat)).flatMap fun n:Nat=>(yS vs).map ((n:Int)::·)
 |_,_=>[[]]
def qbD{v vs}(h:v.mode=0):yS (v::vs)=(yS vs).map (v.value::·):=by rw[yS,if_pos h]
def qbE{v vs}(h:¬v.mode=0):yS (v::vs)=(List.range (zG v)).flatMap fun n:Nat=>(yS vs).map ((n:Int)::·):=by rw[yS,if_neg h]
def Y0{v vs x xs}(h:v.mode=0):wu (v::vs) (x::xs)=(wu vs xs).map (x::·):=by rw[wu,if_pos h]
def QW{v vs x xs}(h:¬v.mode=0):wu (v::vs) (x::xs)=(wu vs xs).map (x::·)++(List.range' (x.toNat+1) (zG v-1-x.toNat)).flatMap fun n:Nat=>(yS vs).map ((n:Int)::·):=by rw[wu,if_neg h]
def okA:List Var->List Int->Prop
 |[],[]=>True
 |v::vs,x::xs=>(if v.mode=0 then x=v.value else 0<=x/\x<(zG v:Nat))/\okA vs xs
 |_,_=>False
def KA(v):0<zG v:=qDt _
def okA.len:∀{vs:List Var}{a:List Int},okA vs a->a.length=vs.length
 |[],[],_=>rfl
 |_::vs,_::xs,h=>by simp[okA.len h.2]
 |[],_::_,h=>h.elim
 |_::_,[],h=>h.elim
def Qn:∀(vs),okA vs (qZ vs)
 |[]=>trivial
 | v::vs=>by
  have:=KA v;show okA (v::vs) ((if v.mode=0 then v.value else 0)::qZ vs);refine⟨?_,Qn vs⟩;by_cases h:v.mode=0
  . rw[if_pos h,if_pos h]
  rw[if_neg h,if_neg h];omega
def Z9:∀{vs:List Var}{a:List Int},okA vs a->okA vs (qJ vs a).1
 |[],[],_=>trivial
 | v::vs,x::xs,h=>by
  have h1:=Z9 h.2;have h2:=h.1;have:=KA v;unfold qJ;split
  . exact⟨h2,h1⟩
  split
  . exact⟨h2,h1⟩
  rename_i b;rw[if_neg b]at h2;split
  . refine⟨?_,h1⟩;rw[if_neg b];omega
  refine⟨?_,h1⟩;rw[if_neg b];omega
 |[],_::_,h=>h.elim
 |_::_,[],h=>h.elim
def qcc:∀{vs:List Var}{a:List Int},okA vs a->(qJ vs a).2=true->(qJ vs a).1=qZ vs
 |[],[],_,_=>rfl
 | v::vs,x::xs,h,b=>by
  have h2:=h.1;unfold qJ at b⊢;by_cases h1:(qJ vs xs).2=false
  . rw[if_pos h1]at b;cases b
  have e:(qJ vs xs).2=true:=by simpa using h1
  have ih:=qcc h.2 e;rw[if_neg h1]at b⊢;show _=(if v.mode=0 then v.value else 0)::qZ vs;by_cases c:v.mode=0
  . rw[if_pos c]at h2⊢;rw[if_pos c,ih,h2]
  rw[if_neg c]at b⊢;rw[if_neg c];by_cases d:x+1<(zG v:Nat)
  . rw[if_pos d]at b;cases b
  rw[if_neg d,ih]
 |[],_::_,h,_=>h.elim
 |_::_,[],h,_=>h.elim
def qhT{n}(h:0<n):List.range n=0::List.range' 1 (n-1):=by
 cases n with
 |zero=>omega
 |succ n=>rw[qCF,qC0];simp
def yG:∀(vs),wu vs (qZ vs)=yS vs
 |[]=>rfl
 | v::vs=>by
  show wu (v::vs) ((if v.mode=0 then v.value else 0)::qZ vs)=_;by_cases h:v.mode=0
  . rw[if_pos h,Y0 h,qbD h,yG vs]
  rw[if_neg h,QW h,qbE h,yG vs,qhT (KA v),qBJ];rfl
def Qv:∀{vs:List Var}{a:List Int},okA vs a->wu vs a=a::if(qJ vs a).2=true then [] else wu vs (qJ vs a).1
 |[],[],_=>rfl
 | v::vs,x::xs,h=>by
  have ih:=Qv h.2;have h2:=h.1;by_cases h1:(qJ vs xs).2=false
  . have e:qJ (v::vs) (x::xs)=(x::(qJ vs xs).1,false):=(by rw[qJ,if_pos h1]);rw[h1,if_neg (by simp)]at ih;rw[e,if_neg (by simp)];by_cases b:v.mode=0
    . rw[Y0 b,Y0 b,ih];rfl
    rw[QW b,QW b,ih];rfl
  have f:(qJ vs xs).2=true:=by simpa using h1
  rw[f,if_pos rfl]at ih;by_cases b:v.mode=0
  . have e:qJ (v::vs) (x::xs)=(x::(qJ vs xs).1,true):=(by rw[qJ,if_neg h1,if_pos b]);rw[e,if_pos rfl,Y0 b,ih];rfl
  rw[if_neg b]at h2;by_cases d:x+1<(zG v:Nat)
  . have e:qJ (v::vs) (x::xs)=((x+1)::(qJ vs xs).1,false):=(by rw[qJ,if_neg h1,if_neg b,if_pos d]);have g:(x+1).toNat=x.toNat+1:=(by omega);have c:zG v-1-x.toNat=(zG v-1-(x.toNat+1))+1:=(by omega);have i:((x.toNat+1:Nat):Int)=x+1:=(by omega);rw[e,if_neg (by simp),QW b,ih,QW b,qcc h.2 f,yG,g,c,qC0,qBJ,i];rfl
  have e:qJ (v::vs) (x::xs)=(0::(qJ vs xs).1,true):=by rw[qJ,if_neg h1,if_neg b,if_neg d]
  have c:zG v-1-x.toNat=0:=by omega
  rw[e,if_pos rfl,QW b,ih,c];rfl
 |[],_::_,h=>h.elim
 |_::_,[],h=>h.elim
def qfj:∀(vs),(yS vs).length=2^((vs.map fun v=>if v.mode=0 then 0 else v.width.toNat).sum)
 |[]=>rfl
 | v::vs=>by
  by_cases h:v.mode=0
  . rw[qbD h,qBT,qfj vs];simp[h]
  rw[qbE h];have:∀(l:List Nat),(l.flatMap fun n:Nat=>(yS vs).map ((n:Int)::·)).length=l.length*(yS vs).length:=by
   intro l
   induction l with
   |nil=>simp
   |cons a r ih=>rw[qBJ,qBp,ih,qBT,qBB,qEb,qDn]
  rw[this,qDX,qfj vs];simp only[qBz,if_neg h,qDv,Nat.pow_add,zG]
def kD:∀{vs:List Var}{a:List Int},a∈yS vs↔okA vs a
 | [],a=>by
  cases a with
  |nil=>simp[yS,okA]
  |cons x xs=>simp[yS,okA]
 | v::vs,a=>by
  by_cases h:v.mode=0
  . rw[qbD h,qBH];constructor
    . rintro⟨b,hb,rfl⟩;exact⟨by rw[if_pos h],kD.1 hb⟩
    intro c
    cases a with
    |nil=>exact c.elim
    | cons x xs=>
     have h1:=c.1;rw[if_pos h]at h1;exact⟨xs,kD.2 c.2,by rw[h1]⟩
  rw[qbE h,qEX];constructor
  . rintro⟨n,e,d⟩;obtain⟨b,hb,rfl⟩:=qBH.1 d;have:=qCe.1 e;exact⟨by rw[if_neg h];omega,kD.1 hb⟩
  intro c
  cases a with
  |nil=>exact c.elim
  | cons x xs=>
   have h1:=c.1;rw[if_neg h]at h1;refine⟨x.toNat,qCe.2 (by omega),qBH.2 ⟨xs,kD.2 c.2,?_⟩⟩;rw[Int.toNat_of_nonneg h1.1]
noncomputable def yX(vs:List Var)(l:List Ex)(a:List Int):Bool:=l.all fun e=>decide (evalV (ke vs a) e≠0)
noncomputable def qdS(vs:List Var)(l:List Ex):Nat->List Int->Option (List Int)×Bool
 |0,_=>(none,false)
 |k+1,a=>if yX vs l a then(some a,(qJ vs a).2) else if(qJ vs a).2 then(none,true) else qdS vs l k (qJ vs a).1
def qgA{vs l}:∀(k){a:List Int},okA vs a->(wu vs a).length<=k->(qdS vs l k a).1=(wu vs a).find? (yX vs l)/\((qdS vs l k a).1=none->(qdS vs l k a).2=true)
 |0,a,h,b=>by rw[Qv h]at b;simp at b
 | k+1,a,h,b=>by
  rw[Qv h]at b⊢;unfold qdS;rw[qDS];by_cases d:yX vs l a=true
  . rw[if_pos d,d];exact⟨rfl,fun e=>by cases e⟩
  rw[if_neg d];have f:yX vs l a=false:=by simpa using d
  rw[f];by_cases c:(qJ vs a).2=true
  . rw[if_pos c,if_pos c];exact⟨rfl,fun _=>rfl⟩
  rw[if_neg c,if_neg c];rw[if_neg c]at b;exact qgA k (Z9 h) (by simp at b;omega)
noncomputable def jw(vs:List Var)(l:List Ex):Bool:=(yS vs).any (yX vs l)
def qoE{vs l k}(b:(yS vs).length<=k):((qdS vs l k (qZ vs)).1.isSome=jw vs l)/\((qdS vs l k (qZ vs)).1=none->(qdS vs l k (qZ vs)).2=true):=by
 have:=qgA (l:=l) k (Qn vs) (by rwa[yG]);rw[yG]at this;refine⟨?_,this.2⟩;rw[this.1,jw];generalize yS vs=L
 induction L with
 |nil=>rfl
 |cons a r ih=>rw[qDS,qDf];cases yX vs l a<;>simp[ih]
def vU(l:List Var)(a:List Int):List Signal:=(l.zip a).map fun q=>⟨q.1.name,q.2⟩
def JV(l a):ke l a=if a.length=l.length then vU l a else []:=rfl
def Q6{l:List Var}{a:List Int}{i:Nat}{v:Var}{x:Int}(h:l[i]?=some v)(h':a[i]?=some x):(vU l a)[i]?=some ⟨v.name,x⟩:=by
 unfold vU;rw[qBO,(qCA (z:=(v,x))).2 ⟨h,h'⟩];rfl
def ko{l a}(h:a.length=l.length):(vU l a).length=l.length:=by simp[vU,h]
def qgQ{l a}:(ke l a).length<=l.length:=by
 rw[JV];split
 . rename_i h;rw[ko h];exact qBs _
 simp
