import Derived.Test.YtafbccendejkeaaGreatDoorProg
import Derived.KernelRfl
import Derived.Test.YtafbccendejkeaaGreatDoorPv04
import Derived.Laws.RangeAny
import Derived.Shelf.Lay
import Derived.Shelf.Strings.Search1
import Derived.WalkKit
import Derived.ChangeArms
import Derived.DataReads
set_option maxRecDepth 100000
set_option maxHeartbeats 16000000
set_option linter.all false
namespace Go.Proofs.YtafbccendejkeaaGreatDoor
open Go Go.Abs Tryz Go.RowKit
@[simp]def D1:Dof prog 1=some ⟨1,8,[.nilf],.nilf,.fn,true⟩:=by kernel_rfl
@[simp]def D2:Dof prog 2=some ⟨1,8,[.int .i64 0],.int .i64 0,.int .i64,true⟩:=by kernel_rfl
@[simp]def D3:Dof prog 3=some ⟨1,8,[.int .i64 0],.int .i64 0,.int .i64,true⟩:=by kernel_rfl
@[simp]def D4:Dof prog 4=some ⟨1,1,[.bool false],.bool false,.bool,true⟩:=by kernel_rfl
@[simp]def D5:Dof prog 5=some ⟨1,1,[.int .u8 0],.int .u8 0,.int .u8,true⟩:=by kernel_rfl
@[simp]def D9:Dof prog 9=some ⟨1,16,[.str []],.str [],.str,true⟩:=by kernel_rfl
@[simp]def D22:Dof prog 22=some ⟨1,24,[.sl 0 [] .nil],.sl 0 [] .nil,.sl 54,true⟩:=by kernel_rfl
@[simp]def D23:Dof prog 23=some ⟨1,24,[.sl 0 [] .nil],.sl 0 [] .nil,.sl 79,true⟩:=by kernel_rfl
@[simp]def D24:Dof prog 24=some ⟨1,24,[.sl 0 [] .nil],.sl 0 [] .nil,.sl 82,true⟩:=by kernel_rfl
@[simp]def D25:Dof prog 25=some ⟨1,24,[.sl 0 [] .nil],.sl 0 [] .nil,.sl 28,true⟩:=by kernel_rfl
@[simp]def D27:Dof prog 27=some ⟨5,120,[.sl 0 [] .nil,.sl 0 [] .nil,.sl 0 [] .nil,.sl 0 [] .nil,.sl 0 [] .nil],.agg [.sl 0 [] .nil,.sl 0 [] .nil,.sl 0 [] .nil,.sl 0 [] .nil,.sl 0 [] .nil],.st [(0,22),(1,23),(2,23),(3,24),(4,25)],true⟩:=by kernel_rfl
@[simp]def D28:Dof prog 28=some ⟨1,24,[.sl 0 [] .nil],.sl 0 [] .nil,.sl 3,true⟩:=by kernel_rfl
@[simp]def D32:Dof prog 32=some ⟨1,8,[.int .i64 0],.int .i64 0,.int .i64,true⟩:=by kernel_rfl
@[simp]def D40:Dof prog 40=some ⟨1,8,[.int .u64 0],.int .u64 0,.int .u64,true⟩:=by kernel_rfl
@[simp]def D42:Dof prog 42=some ⟨2,16,[.int .u64 0,.int .u64 0],.agg [.int .u64 0,.int .u64 0],.st [(0,40),(1,40)],true⟩:=by kernel_rfl
@[simp]def D50:Dof prog 50=some ⟨2,16,[.int .i64 0,.int .i64 0],.agg [.int .i64 0,.int .i64 0],.st [(0,3),(1,3)],true⟩:=by kernel_rfl
@[simp]def D54:Dof prog 54=some ⟨4,40,[.str [],.int .i64 0,.int .i64 0,.int .i64 0],.agg [.str [],.int .i64 0,.int .i64 0,.int .i64 0],.st [(0,9),(1,3),(2,3),(3,3)],true⟩:=by kernel_rfl
@[simp]def D55:Dof prog 55=some ⟨1,8,[.nilp],.nilp,.ptr 67,true⟩:=by kernel_rfl
@[simp]def D62:Dof prog 62=some ⟨1,24,[.sl 0 [] .nil],.sl 0 [] .nil,.sl 150,true⟩:=by kernel_rfl
@[simp]def D64:Dof prog 64=some ⟨1,24,[.sl 0 [] .nil],.agg [.sl 0 [] .nil],.st [(0,62)],true⟩:=by kernel_rfl
@[simp]def D65:Dof prog 65=some ⟨1,8,[.nilf],.nilf,.fn,true⟩:=by kernel_rfl
@[simp]def D67:Dof prog 67=some ⟨11,216,[.sl 0 [] .nil,.sl 0 [] .nil,.sl 0 [] .nil,.sl 0 [] .nil,.sl 0 [] .nil,.sl 0 [] .nil,.sl 0 [] .nil,.sl 0 [] .nil,.int .i64 0,.bool false,.nilf],.agg [.sl 0 [] .nil,.sl 0 [] .nil,.sl 0 [] .nil,.sl 0 [] .nil,.sl 0 [] .nil,.sl 0 [] .nil,.sl 0 [] .nil,.sl 0 [] .nil,.int .i64 0,.bool false,.nilf],.st [(0,27),(5,23),(6,28),(7,64),(8,3),(9,4),(10,65)],true⟩:=by kernel_rfl
@[simp]def D79:Dof prog 79=some ⟨4,56,[.int .i64 0,.int .i64 0,.str [],.sl 0 [] .nil],.agg [.int .i64 0,.int .i64 0,.str [],.sl 0 [] .nil],.st [(0,3),(1,3),(2,9),(3,23)],true⟩:=by kernel_rfl
@[simp]def D80:Dof prog 80=some ⟨1,24,[.sl 0 [] .nil],.sl 0 [] .nil,.sl 210,true⟩:=by kernel_rfl
@[simp]def D82:Dof prog 82=some ⟨2,32,[.int .i64 0,.sl 0 [] .nil],.agg [.int .i64 0,.sl 0 [] .nil],.st [(0,3),(1,80)],true⟩:=by kernel_rfl
@[simp]def D96:Dof prog 96=some ⟨1,8,[.nilm],.nilm,.map 3 3,true⟩:=by kernel_rfl
@[simp]def qA9:Dof prog 103=some ⟨2,32,[.sl 0 [] .nil,.int .i64 0],.agg [.sl 0 [] .nil,.int .i64 0],.st [(0,64),(1,3)],true⟩:=by kernel_rfl
@[simp]def qA8:Dof prog 104=some ⟨1,8,[.nilf],.nilf,.fn,true⟩:=by kernel_rfl
@[simp]def qA7:Dof prog 106=some ⟨1,8,[.nilf],.nilf,.fn,true⟩:=by kernel_rfl
@[simp]def qA6:Dof prog 108=some ⟨1,8,[.nilp],.nilp,.ptr 42,true⟩:=by kernel_rfl
@[simp]def qA5:Dof prog 117=some ⟨1,8,[.nilf],.nilf,.fn,true⟩:=by kernel_rfl
@[simp]def qA4:Dof prog 119=some ⟨3,24,[.bool false,.int .u64 0,.int .u64 0],.agg [.bool false,.int .u64 0,.int .u64 0],.st [(0,4),(1,40),(2,40)],true⟩:=by kernel_rfl
@[simp]def qA3:Dof prog 126=some ⟨1,24,[.sl 0 [] .nil],.sl 0 [] .nil,.sl 80,true⟩:=by kernel_rfl
@[simp]def qxT:Dof prog 133=some ⟨1,8,[.nilm],.nilm,.map 135 3,true⟩:=by kernel_rfl
@[simp]def qA2:Dof prog 135=some ⟨2,16,[.int .i64 0,.int .i64 0],.agg [.int .i64 0,.int .i64 0],.st [(0,3),(1,3)],true⟩:=by kernel_rfl
@[simp]def qA1:Dof prog 148=some ⟨2,16,[.int .i64 0,.int .i64 0],.agg [.int .i64 0,.int .i64 0],.arr 2 3,true⟩:=by kernel_rfl
@[simp]def qA0:Dof prog 150=some ⟨3,24,[.int .i64 0,.int .i64 0,.int .i64 0],.agg [.int .i64 0,.int .i64 0,.int .i64 0],.st [(0,3),(1,3),(2,3)],true⟩:=by kernel_rfl
@[simp]def qAZ:Dof prog 151=some ⟨1,8,[.nilf],.nilf,.fn,true⟩:=by kernel_rfl
@[simp]def qAs:Dof prog 164=some ⟨1,24,[.sl 0 [] .nil],.sl 0 [] .nil,.sl 215,true⟩:=by kernel_rfl
@[simp]def qAY:Dof prog 171=some ⟨1,8,[.nilf],.nilf,.fn,true⟩:=by kernel_rfl
@[simp]def qAX:Dof prog 174=some ⟨1,8,[.nilp],.nilp,.ptr 184,true⟩:=by kernel_rfl
@[simp]def qAW:Dof prog 180=some ⟨16,128,[.int .i64 0,.int .i64 0,.int .i64 0,.int .i64 0,.int .i64 0,.int .i64 0,.int .i64 0,.int .i64 0,.int .i64 0,.int .i64 0,.int .i64 0,.int .i64 0,.int .i64 0,.int .i64 0,.int .i64 0,.int .i64 0],.agg [.int .i64 0,.int .i64 0,.int .i64 0,.int .i64 0,.int .i64 0,.int .i64 0,.int .i64 0,.int .i64 0,.int .i64 0,.int .i64 0,.int .i64 0,.int .i64 0,.int .i64 0,.int .i64 0,.int .i64 0,.int .i64 0],.arr 16 3,true⟩:=by kernel_rfl
@[simp]def qAV:Dof prog 182=some ⟨1,8,[.nilm],.nilm,.map 9 3,true⟩:=by kernel_rfl
@[simp]def qAU:Dof prog 184=some ⟨8,176,[.sl 0 [] .nil,.sl 0 [] .nil,.sl 0 [] .nil,.sl 0 [] .nil,.sl 0 [] .nil,.sl 0 [] .nil,.sl 0 [] .nil,.nilm],.agg [.sl 0 [] .nil,.sl 0 [] .nil,.sl 0 [] .nil,.sl 0 [] .nil,.sl 0 [] .nil,.sl 0 [] .nil,.sl 0 [] .nil,.nilm],.st [(0,64),(1,27),(6,28),(7,182)],true⟩:=by kernel_rfl
@[simp]def qAT:Dof prog 187=some ⟨3,24,[.int .i64 0,.int .i64 0,.int .i64 0],.agg [.int .i64 0,.int .i64 0,.int .i64 0],.st [(0,3),(1,3),(2,3)],true⟩:=by kernel_rfl
@[simp]def qAS:Dof prog 188=some ⟨1,8,[.nilf],.nilf,.fn,true⟩:=by kernel_rfl
@[simp]def qAR:Dof prog 195=some ⟨1,8,[.int .u64 0],.int .u64 0,.int .u64,true⟩:=by kernel_rfl
@[simp]def qz5:Dof prog 197=some ⟨1,8,[.nilm],.nilm,.map 150 4,true⟩:=by kernel_rfl
@[simp]def qAQ:Dof prog 199=some ⟨1,24,[.sl 0 [] .nil],.sl 0 [] .nil,.sl 4,true⟩:=by kernel_rfl
@[simp]def qAP:Dof prog 210=some ⟨4,32,[.int .i64 0,.int .i64 0,.int .i64 0,.bool false],.agg [.int .i64 0,.int .i64 0,.int .i64 0,.bool false],.st [(0,3),(1,3),(2,3),(3,4)],true⟩:=by kernel_rfl
@[simp]def qAO:Dof prog 212=some ⟨1,24,[.sl 0 [] .nil],.agg [.sl 0 [] .nil],.st [(0,164)],true⟩:=by kernel_rfl
@[simp]def qAr:Dof prog 215=some ⟨2,24,[.str [],.int .i64 0],.agg [.str [],.int .i64 0],.st [(0,9),(1,3)],true⟩:=by kernel_rfl
@[simp]def qAN:Dof prog 217=some ⟨1,24,[.sl 0 [] .nil],.sl 0 [] .nil,.sl 171,true⟩:=by kernel_rfl
@[simp]def qAM:Dof prog 223=some ⟨1,24,[.sl 0 [] .nil],.sl 0 [] .nil,.sl 9,true⟩:=by kernel_rfl
@[simp]def qAL:Dof prog 239=some ⟨1,24,[.sl 0 [] .nil],.sl 0 [] .nil,.sl 180,true⟩:=by kernel_rfl
@[simp]def qAK:Dof prog 249=some ⟨1,8,[.nilp],.nilp,.ptr 311,true⟩:=by kernel_rfl
@[simp]def qxS:Dof prog 251=some ⟨1,8,[.nilm],.nilm,.map 187 3,true⟩:=by kernel_rfl
@[simp]def qAJ:Dof prog 253=some ⟨3,24,[.nilp,.nilf,.nilm],.agg [.nilp,.nilf,.nilm],.st [(0,249),(1,188),(2,251)],true⟩:=by kernel_rfl
@[simp]def qAI:Dof prog 275=some ⟨5,72,[.int .i64 0,.int .i64 0,.int .i64 0,.sl 0 [] .nil,.sl 0 [] .nil],.agg [.int .i64 0,.int .i64 0,.int .i64 0,.sl 0 [] .nil,.sl 0 [] .nil],.st [(0,3),(1,3),(2,32),(3,223),(4,223)],true⟩:=by kernel_rfl
@[simp]def qAH:Dof prog 286=some ⟨9,184,[.sl 0 [] .nil,.sl 0 [] .nil,.sl 0 [] .nil,.sl 0 [] .nil,.sl 0 [] .nil,.sl 0 [] .nil,.sl 0 [] .nil,.bool false,.int .i64 0],.agg [.sl 0 [] .nil,.sl 0 [] .nil,.sl 0 [] .nil,.sl 0 [] .nil,.sl 0 [] .nil,.sl 0 [] .nil,.sl 0 [] .nil,.bool false,.int .i64 0],.st [(0,27),(5,23),(6,28),(7,4),(8,3)],true⟩:=by kernel_rfl
@[simp]def qz4:Dof prog 291=some ⟨1,24,[.sl 0 [] .nil],.sl 0 [] .nil,.sl 326,true⟩:=by kernel_rfl
@[simp]def qAG:Dof prog 296=some ⟨1,24,[.sl 0 [] .nil],.sl 0 [] .nil,.sl 23,true⟩:=by kernel_rfl
@[simp]def qxR:Dof prog 309=some ⟨1,8,[.nilm],.nilm,.map 150 3,true⟩:=by kernel_rfl
@[simp]def qAF:Dof prog 311=some ⟨3,40,[.sl 0 [] .nil,.nilm,.bool false],.agg [.sl 0 [] .nil,.nilm,.bool false],.st [(0,62),(1,309),(2,4)],true⟩:=by kernel_rfl
@[simp]def qAE:Dof prog 313=some ⟨1,8,[.nilm],.nilm,.map 9 4,true⟩:=by kernel_rfl
@[simp]def qAD:Dof prog 323=some ⟨1,24,[.sl 0 [] .nil],.sl 0 [] .nil,.sl 5,true⟩:=by kernel_rfl
@[simp]def qz3:Dof prog 326=some ⟨2,16,[.int .i64 0,.int .i64 0],.agg [.int .i64 0,.int .i64 0],.st [(0,3),(1,3)],true⟩:=by kernel_rfl
@[simp]def qAC:Dof prog 338=some ⟨1,2,[.int .u16 0],.int .u16 0,.int .u16,true⟩:=by kernel_rfl
@[simp]def qAB:Dof prog 357=some ⟨24,24,[.int .u8 0,.int .u8 0,.int .u8 0,.int .u8 0,.int .u8 0,.int .u8 0,.int .u8 0,.int .u8 0,.int .u8 0,.int .u8 0,.int .u8 0,.int .u8 0,.int .u8 0,.int .u8 0,.int .u8 0,.int .u8 0,.int .u8 0,.int .u8 0,.int .u8 0,.int .u8 0,.int .u8 0,.int .u8 0,.int .u8 0,.int .u8 0],.agg [.int .u8 0,.int .u8 0,.int .u8 0,.int .u8 0,.int .u8 0,.int .u8 0,.int .u8 0,.int .u8 0,.int .u8 0,.int .u8 0,.int .u8 0,.int .u8 0,.int .u8 0,.int .u8 0,.int .u8 0,.int .u8 0,.int .u8 0,.int .u8 0,.int .u8 0,.int .u8 0,.int .u8 0,.int .u8 0,.int .u8 0,.int .u8 0],.arr 24 5,true⟩:=by kernel_rfl
abbrev Str:=List UInt8
structure Var where
 name:Str
 width:Int
 mode:Int
 value:Int
structure Weight where
 lo:Int
 hi:Int
 weight:Int
 each:Bool
structure Dist where
 var:Int
 weights:List Weight
inductive Ex where
 |mk (op n:Int) (name:Str) (args:List Ex)
structure Problem where
 vars:List Var
 hard:List Ex
 soft:List Ex
 dists:List Dist
 groups:List (List Int)
structure Signal where
 name:Str
 value:Int
def Ex.op:Ex->Int|.mk o _ _ _=>o
def Ex.n:Ex->Int|.mk _ n _ _=>n
def Ex.name:Ex->Str|.mk _ _ s _=>s
def Ex.args:Ex->List Ex|.mk _ _ _ a=>a
@[simp]def Ex.op_mk{o n s a}:(Ex.mk o n s a).op=o:=rfl
def qFu:=@Ex.op_mk
@[simp]def Ex.n_mk{o n s a}:(Ex.mk o n s a).n=n:=rfl
@[simp]def Ex.name_mk{o n s a}:(Ex.mk o n s a).name=s:=rfl
def qFv:=@Ex.name_mk
@[simp]def Ex.args_mk{o n s a}:(Ex.mk o n s a).args=a:=rfl
def qFw:=@Ex.args_mk
@[simp]def qG(v:Var):List AV:=[.str v.name,.int .i64 v.width,.int .i64 v.mode,.int .i64 v.value]
@[simp]def qy(w:Weight):List AV:=[.int .i64 w.lo,.int .i64 w.hi,.int .i64 w.weight,.bool w.each]
@[simp]def zn(d:Dist):List AV:=[.int .i64 d.var,.sl 4 (d.weights.map qy) .none]
@[simp]def qh(n:Int):List AV:=[.int .i64 n]
@[simp]def jo(s:Str):List AV:=[.str s]
@[simp]def qH(s:Signal):List AV:=[.str s.name,.int .i64 s.value]
mutual
def qp:Ex->List AV
 |.mk o n s a=>[.int .i64 o,.int .i64 n,.str s,.sl 4 (qip a) .none]
def qip:List Ex->List (List AV)
 |[]=>[]
 |a::r=>qp a::qip r
end
@[simp]def qoG:∀l,qip l=l.map qp
 |[]=>rfl
 |a::r=>by simp[qip,qoG r]
def qc(e):qp e=[.int .i64 e.op,.int .i64 e.n,.str e.name,.sl 4 (e.args.map qp) .none]:=by cases e;simp[qp]
@[simp]def qA(l:List Int):List AV:=[.sl 1 (l.map qh) .none]
@[simp]def qu(p:Problem):List AV:=[.sl 4 (p.vars.map qG) .none,.sl 4 (p.hard.map qp) .none,.sl 4 (p.soft.map qp) .none,.sl 2 (p.dists.map zn) .none,.sl 1 (p.groups.map qA) .none]
@[simp]def qyy(l:List Var):q9 (l.map qG)=true:=zq (fun x=>by simp) l
@[simp]def qwY(l:List Weight):q9 (l.map qy)=true:=zq (fun x=>by simp) l
@[simp]def qzB(l:List Dist):q9 (l.map zn)=true:=zq (fun x=>by simp) l
@[simp]def qAd(l:List Int):q9 (l.map qh)=true:=zq (fun x=>by simp) l
@[simp]def qAc(l:List Str):q9 (l.map jo)=true:=zq (fun x=>by simp) l
@[simp]def qwZ(l:List Signal):q9 (l.map qH)=true:=zq (fun x=>by simp) l
@[simp]def qzA(l:List (List Int)):q9 (l.map qA)=true:=zq (fun x=>by simp) l
mutual
def qw0:∀e,qx (qp e)=true
 | .mk o n s a=>by
  have:=qu8 a;simp[qp,this];simpa using this
def qu8:∀l,q9 (qip l)=true
 |[]=>rfl
 |a::r=>by simp only[qip,q9,qw0 a,qu8 r,qFl]
end
@[simp]def nrE(e):qx (qp e)=true:=qw0 e
@[simp]def qu9(l:List Ex):q9 (l.map qp)=true:=zq (fun x=>nrE x) l
def qX:Tryz.prog.follows .mixedOrders=true:=by kernel_rfl
abbrev Fits{α:Type}(l:List α):Prop:=l.length<9223372036854775808
def zo{α:Type}(p:α->Bool):List α->Int->Int
 |[],_=>-1
 |v::r,i=>if p v then i else zo p r (i+1)
def qa9{α p}:∀{l:List α}{i:Int},0<=i->(0<=zo p l i↔l.any p=true)
 |[],i,_=>by simp[zo]
 | v::r,i,h=>by
  simp only[zo,qDc];split
  . rename_i hp;simp[hp,h]
  rename_i hp;simp[hp,qa9 (l:=r) (i:=i+1) (by omega)]
@[simp]def qk9{α:Type}(p:α->Bool)(l:List α):decide (0<=zo p l 0)=l.any p:=by
 rw[qB7,decide_eq_true_iff];exact qa9 (by omega)
def qdQ:List Str:=[[99,108,97,115,115],[101,120,116,101,110,100,115],[114,97,110,100],[114,97,110,100,99],[115,116,97,116,101],[99,111,110,115,116,114,97,105,110,116],[115,111,102,116],[100,105,115,116],[105,102],[101,108,115,101],[101,97,99,104],[105,110],[115,111,108,118,101],[98,101,102,111,114,101],[105,110,115,105,100,101],[112,114,111,112,101,114,116,121],[115,101,113],[97,110,100],[111,114],[110,111,116],[115,101,116],[104,111,108,100],[112,108,97,105,110],[114,101,112,101,97,116]]
def wG(n:Int):Bool:=decide (97<=n)&&decide (n<=122)
def Yj(n:Int):Bool:=decide (48<=n)&&decide (n<=57)
def wg(n:Int):Bool:=wG n||Yj n||(decide (65<=n)&&decide (n<=90))||decide (n=95)
def Jb(c:UInt8):Bool:=wg c.toNat
def Q5:Str->Bool
 |[]=>false
 |c::r=>wG c.toNat&&(c::r).all Jb
def z8(s:Str):Bool:=Q5 s&&decide (s.length<=16)&&!qdQ.contains s
def qeE{s}(h:z8 s=true):∀c∈s,Jb c=true:=by
 simp only[z8,qBf]at h;obtain⟨⟨h,_⟩,_⟩:=h
 cases s with
 |nil=>simp
 | cons c r=>
  simp only[Q5,qBf]at h;exact fun x hx=>qBk.1 h.2 x hx
def wZ{s}(h:z8 s=true):∀c∈s,c≠91:=by
 intro c hc e;have:=qeE h c hc;subst e
 revert this
 decide
def qaW{s}(h:z8 s=true):s≠[]:=by
 rintro rfl;simp[z8,Q5]at h
def zT(a:Str)(i:Nat):Str:=a++[91,UInt8.ofNat (48+i),93]
@[simp]def qqp{a i}:(zT a i).length=a.length+3:=by simp[zT]
def WE{a b i j}(hi:i<8)(hj:j<8)(h:zT a i=zT b j):a=b/\i=j:=by
 obtain⟨h1,h2⟩:=List.append_inj' h rfl;refine⟨h1,?_⟩;simp only[qDt,true_and,and_true]at h2;have:=congrArg UInt8.toNat h2;simp only[UInt8.toNat_ofNat']at this;omega
def jD(s a:Str)(i:Nat):Prop:=i<8/\z8 a=true/\s=zT a i
def jD.unique{s a b i j}(h:jD s a i)(h':jD s b j):a=b/\i=j:=WE h.1 h'.1 (h.2.2.symm.trans h'.2.2)
open Classical in
noncomputable def wk(s:Str):Option (Str×Nat):=if h:∃p:Str×Nat,jD s p.1 p.2 then some h.choose else none
def vI{s a i}(h:jD s a i):wk s=some (a,i):=by
 have hex:∃p:Str×Nat,jD s p.1 p.2:=⟨(a,i),h⟩;unfold wk;rw[dif_pos hex];obtain⟨h1,h2⟩:=hex.choose_spec.unique h;rw[<- h1,<- h2]
def wa{s a i}:wk s=some (a,i)↔jD s a i:=by
 constructor
 . intro h;unfold wk at h;split at h
   . rename_i hex;have:=hex.choose_spec
     rwa[Option.some.inj h]at this
   cases h
 exact vI
def ka{s}:wk s=none↔∀a i,¬jD s a i:=by
 constructor
 . intro h a i hi;rw[vI hi]at h;cases h
 intro h
 cases e:wk s with
 |none=>rfl
 |some p=>exact absurd (wa.1 (show wk s=some (p.1,p.2) from e)) (h _ _)
noncomputable def wq(s:Str):Bool:=z8 s||(wk s).isSome
def yf(s:Str):Str:=s.takeWhile (· != 91)
def Ko(s:Str):Str:=(s.dropWhile (· != 91)).tail
def qqs{s}(h:s.contains 91=true):s=yf s++91::Ko s:=by
 unfold yf Ko
 induction s with
 |nil=>simp at h
 | cons c r ih=>
  by_cases hc:c=91
  . subst hc;simp
  have:r.contains 91=true:=by
   simp only[List.contains_cons,qDa,beq_iff_eq]at h;rcases h with h|h
   . exact absurd h.symm hc
   exact h
  have hb:(c != 91)=true:=by simpa using hc
  rw[qEu,List.dropWhile_cons,if_pos hb,if_pos hb,qBB,<- ih this]
def qig{a:Str}{t:Str}(h:∀c∈a,c≠91):yf (a++91::t)=a:=by
 unfold yf
 induction a with
 |nil=>simp
 | cons c r ih=>
  have hb:(c != 91)=true:=by simpa using h c (by simp)
  rw[qBB,qEu,if_pos hb,ih fun x hx=>h x (by simp[hx])]
def qhx{a:Str}{t:Str}(h:∀c∈a,c≠91):Ko (a++91::t)=t:=by
 unfold Ko
 induction a with
 |nil=>simp
 | cons c r ih=>
  have hb:(c != 91)=true:=by simpa using h c (by simp)
  rw[qBB,List.dropWhile_cons,if_pos hb,ih fun x hx=>h x (by simp[hx])]
def qoH{a i}:(zT a i).contains 91=true:=by simp[zT]
def jD.has{s a i}(h:jD s a i):s.contains 91=true/\yf s=a/\Ko s=[UInt8.ofNat (48+i),93]:=by
 obtain⟨h1,h2,rfl⟩:=h;exact⟨qoH,qig (wZ h2),qhx (wZ h2)⟩
def KY{s}(h:s.contains 91=false):wk s=none:=by
 rw[ka];intro a i hi;rw[hi.has.1]at h;cases h
def qU{α:Type}(f:α->Int):List α->Int
 |[]=>0
 |a::r=>if f a=0 then qU f r else f a
def yh{α f}:∀{l m:List α},qU f (l++m)=if qU f l=0 then qU f m else qU f l
 |[],m=>by simp[qU]
 | a::r,m=>by
  simp only[qBB,qU];split
  . exact yh
  rename_i h;simp
def zC{α f}:∀{l:List α},qU f l=0↔∀a∈l,f a=0
 |[]=>by simp[qU]
 | a::r=>by
  simp only[qU,qBz,forall_eq_or_imp];split
  . rename_i h;simp[h,zC]
  rename_i h;simp[h]
noncomputable def j5(v:Var):Int :=
 if wq v.name=false then 7
 else if v.width<1\/8<v.width\/v.mode<0\/2<v.mode\/v.value<0\/(2:Int)^v.width.toNat<=v.value\/(v.mode≠0/\v.value≠0) then 1
 else 0
def Qr(l:List Var)(name:Str):Bool:=l.any fun v=>v.name==name
def Qy(l:List Var)(i:Nat):Bool:=match l[i]? with
 |some v=>Qr (l.take i) v.name
 |none=>false
def qqq(l:List Var):Bool:=(List.range l.length).any (Qy l)
open Classical in
noncomputable def WX(l:List Var)(name:Str):Bool:=match wk name with
 |some (a,i+1)=>!Qr l (zT a i)
 |_=>false
def yG:List Var->Int
 |[]=>0
 |v::r=>(if v.mode≠0 then v.width else 0)+yG r
noncomputable def jj(l:List Var):Int :=
 if 16<l.length then 2
 else if qU j5 l≠0 then qU j5 l
 else if qqq l=true then 8
 else if l.any (fun v=>WX l v.name)=true then 10
 else if 20<yG l then 2
 else 0
mutual
def Ex.ind{p:Ex->Prop}(h:∀e,(∀a∈e.args,p a)->p e):∀e,p e
 |.mk o n s a=>h _ (by simpa using Ex.indL h a)
def Ex.indL{p:Ex->Prop}(h:∀e,(∀a∈e.args,p a)->p e):∀(l:List Ex),∀a∈l,p a
 |[],_,hm=>by cases hm
 | e::r,a,hm=>by
  rcases qBz.1 hm with hm|hm
  . rw[hm];exact Ex.ind h e
  exact Ex.indL h r a hm
end
def qFX:=@Ex.ind
mutual
def pre:Ex->List Ex
 |.mk o n s a=>.mk o n s a::wD a
def wD:List Ex->List Ex
 |[]=>[]
 |e::r=>pre e++wD r
end
def jF(e):pre e=e::wD e.args:=by cases e;simp[pre]
@[simp]def qwI:wD []=[]:=by simp[wD]
@[simp]def yJ{e r}:wD (e::r)=pre e++wD r:=by simp[wD]
def vy:∀{l m:List Ex},wD (l++m)=wD l++wD m
 |[],m=>by simp
 |e::r,m=>by simp[vy (l:=r),qBQ]
mutual
def hgt:Ex->Nat
 |.mk _ _ _ a=>Jv a+1
def Jv:List Ex->Nat
 |[]=>0
 |e::r=>max (hgt e) (Jv r)
end
def wH(e):hgt e=Jv e.args+1:=by cases e;simp[hgt]
@[simp]def qom:Jv []=0:=by simp[Jv]
@[simp]def Jc{e r}:Jv (e::r)=max (hgt e) (Jv r):=by simp[Jv]
def qgC{l e}(h:e∈l):hgt e<=Jv l:=by
 induction l with
 |nil=>cases h
 | cons a r ih=>
  rcases qBz.1 h with rfl|h
  . simp;omega
  have:=ih h;simp;omega
def qkO{e a}(h:a∈e.args):hgt a<hgt e:=by
 have:=qgC h;rw[wH e];omega
def Z6{l x}:x∈wD l↔∃a∈l,x∈pre a:=by
 induction l with
 |nil=>simp
 |cons e r ih=>simp[ih]
def zB(op:Int):Int :=
 if op=1\/op=2\/op=24 then 0
 else if op=3\/op=4\/op=5\/op=6\/op=25 then 1
 else if op=22 then 3
 else if op=23 then -1
 else if op<1\/25<op then -1
 else 2
def qk(e:Ex):Bool :=
 if e.op=23 then decide (e.args.length%2=1/\3<=e.args.length/\e.args.length<=33)
 else decide ((e.args.length:Int)=zB e.op)
noncomputable def qt(e:Ex):Int :=
 if e.op<1\/25<e.op then 1
 else if(e.op=1/\(e.n<0\/65535<e.n))\/(e.op≠1/\e.n≠0) then 1
 else if(¬(e.op=2\/e.op=3\/e.op=24)/\e.name≠[])\/qk e=false then 1
 else if(e.op=2/\wq e.name=false)\/((e.op=3\/e.op=24)/\z8 e.name=false) then 7
 else 0
def W4(e:Ex):Int:=IntKind.i64.wrap (pre e).length
noncomputable def zk(e:Ex):Int :=
 if qU qt (pre e)=0/\(24<hgt e\/400<W4 e) then 2 else qU qt (pre e)
def WT(ops:List Int)(out:List Str)(e:Ex):List Str:=if ops.contains e.op&&!out.contains e.name then out++[e.name] else out
def zO(ops:List Int)(e:Ex):List Str:=(pre e).foldl (WT ops) []
def qpn{ops out e s}:s∈WT ops out e↔s∈out\/(ops.contains e.op=true/\s=e.name):=by
 unfold WT;by_cases h1:e.op∈ops
 . by_cases h2:e.name∈out
   . simp only[qFg.2 h1,qFg.2 h2,qFm,qDN,qBE,if_false,true_and];constructor
     . exact .inl
     rintro(h|rfl)
     . exact h
     exact h2
   . simp[h1,h2]
 simp[h1]
def qdg{ops s}:∀{l:List Ex}{out:List Str},s∈l.foldl (WT ops) out↔s∈out\/∃e∈l,ops.contains e.op=true/\s=e.name
 |[],out=>by simp
 | e::r,out=>by
  rw[qBP,qdg,qpn];simp only[qBz,exists_eq_or_imp];constructor
  . rintro((h|h)|h)
    . exact .inl h
    . exact .inr (.inl h)
    . exact .inr (.inr h)
  rintro(h|h|h)
  . exact .inl (.inl h)
  . exact .inl (.inr h)
  exact .inr h
def yd{ops e s}:s∈zO ops e↔∃x∈pre e,ops.contains x.op=true/\s=x.name:=by
 unfold zO;rw[qdg];simp
def Yq(e:Ex):Bool:=(pre e).any fun x=>decide (x.op=3\/x.op=24)
def Zx(l:List Var)(e:Ex):Bool:=(pre e).any fun x=>decide (x.op=2)&&!Qr l x.name
def QZ{e}:decide (0<(zO [3,24] e).length)=Yq e:=by
 rw[qB7,decide_eq_true_iff,List.length_pos_iff_exists_mem,Yq,qBJ];constructor
 . rintro⟨s,hs⟩;obtain⟨x,h1,h2,_⟩:=yd.1 hs;exact⟨x,h1,by simpa using h2⟩
 rintro⟨x,h1,h2⟩;exact⟨x.name,yd.2 ⟨x,h1,by simpa using h2,rfl⟩⟩
def QR{l e}:(zO [2] e).any (fun s=>!Qr l s)=Zx l e:=by
 rw[qB7,Zx,qBJ,qBJ];constructor
 . rintro⟨s,hs,h⟩;obtain⟨x,h1,h2,rfl⟩:=yd.1 hs;exact⟨x,h1,by simp only[qBf,decide_eq_true_eq];exact⟨by simpa using h2,h⟩⟩
 rintro⟨x,h1,h2⟩;simp only[qBf,decide_eq_true_eq]at h2;exact⟨x.name,yd.2 ⟨x,h1,by simpa using h2.1,rfl⟩,h2.2⟩
noncomputable def zy(l:List Var)(e:Ex):Int :=
 if zk e≠0 then zk e else if Yq e=true then 9 else if Zx l e=true then 7 else 0
def yQ(l:List Var)(i:Int):Bool:=decide (0<=i)&&(l[i.toNat]?).any fun v=>v.mode != 0
def zV(w:Weight):Bool:=decide (w.lo<0)||decide (w.hi<w.lo)||decide (65535<w.hi)||decide (w.weight<0)||decide (1000<w.weight)
def jW(l:List Var)(d:List Dist)(i:Nat):Int:=match d[i]? with
 |some x=>if yQ l x.var=false then 1 else if(d.take i).any (fun y=>y.var==x.var)=true then 8 else if 16<x.weights.length then 2 else if x.weights.any zV=true then 1 else 0
 |none=>0
def yC(l:List Var)(d:List Dist):Int:=qU (jW l d) (List.range d.length)
def yi(l:List Var)(g:List (List Int)):Prop:=(∀x∈g,x≠[])/\(∀i∈g.flatten,yQ l i=true)/\g.flatten.Nodup/\∀i:Nat,i<l.length->yQ l i=true->(i:Int)∈g.flatten
open Classical in
noncomputable def zH(l:List Var)(g:List (List Int)):Int:=if yi l g then 0 else 1
noncomputable def qg(p:Problem):Int :=
 if jj p.vars≠0 then jj p.vars
 else if qU (zy p.vars) (p.hard++p.soft)≠0 then qU (zy p.vars) (p.hard++p.soft)
 else if yC p.vars p.dists≠0 then yC p.vars p.dists
 else zH p.vars p.groups
def zM(l:List Var)(i:Nat):Int:=match l[i]? with
 |some v=>v.width
 |none=>0
end Go.Proofs.YtafbccendejkeaaGreatDoor
namespace Go.Abs
open Go Go.RowKit
def qme(P:Program)(rs:List ResultVar)(Q:AV->St->Prop)(env:Env)(U:St):Prop :=
 match qfQ (Dof P) rs env U with
 |some l=>Q (Vo l) U
 |none=>False
def qaj(P:Program)(rs:List ResultVar)(Q:AV->St->Prop):Exit->Env->St->Prop
 |.ret,env,U=>qme P rs Q env U
 |.normal,env,U=>qme P rs Q env U
 |_,_,_=>False
attribute [simp] qme qaj
section
variable {P:Program}{G:Glo}{U:St}{f:FuncId}{args:List AV}{Q:AV->St->Prop}
def qj.vcO {fn c} (o) (hm : P.follows .mixedOrders = true) (hf : P.funcs[f]? = some fn) (hb : fn.body = some c) (hk : (jI fn.ntmps o c && decide (args.length ≤ fn.ntmps) && fn.name != "runtime.NumGoroutine") = true)
 (h:vcC P G o c (Za args) U (qaj P fn.results.toList Q)):qj P G f args U Q:=by
 simp only[qBf,decide_eq_true_eq,bne_iff_ne,ne_eq]at hk;refine qj.of_body hf hb hk.2 hk.1.2 (AWp.mono (yH hm c hk.1.1 h) fun e env U hq=>?_);have key:qme P fn.results.toList Q env U->∃l,qfQ (Dof P) fn.results.toList env U=some l/\Q (Vo l) U:=fun h=>by
  unfold qme at h;split at h
  . rename_i l hl;exact⟨l,hl,h⟩
  exact h.elim
 cases e with
 |ret=>exact⟨.inl rfl,key hq⟩
 |normal=>exact⟨.inr rfl,key hq⟩
 |_=>exact hq.elim
def qj.vc {fn c} (hm : P.follows .mixedOrders = true) (hf : P.funcs[f]? = some fn) (hb : fn.body = some c) (hk : (jI fn.ntmps o0 c && decide (args.length ≤ fn.ntmps) && fn.name != "runtime.NumGoroutine") = true)
 (h:vcC P G o0 c (Za args) U (qaj P fn.results.toList Q)):qj P G f args U Q:=qj.vcO o0 hm hf hb hk h
end
end Go.Abs
namespace Go.Proofs.YtafbccendejkeaaGreatDoor
open Go Go.Abs Tryz Go.RowKit
def ZT{S:Type}(stp:S->Ex->S×Bool):S->List Ex->S×Bool
 |s,[]=>(s,true)
 |s,e::r=>if(stp s e).2=true then ZT stp (stp s e).1 r else((stp s e).1,false)
def KC{S}{stp:S->Ex->S×Bool}:∀{s:S}{l m:List Ex},ZT stp s (l++m)=if(ZT stp s l).2=true then ZT stp (ZT stp s l).1 m else ZT stp s l
 |s,[],m=>by simp[ZT]
 | s,e::r,m=>by
  simp only[qBB,ZT];split
  . exact KC
  simp
def KB{S}{stp:S->Ex->S×Bool}(h:∀s e,(stp s e).2=true):∀(s:S) (l),ZT stp s l=(l.foldl (fun s e=>(stp s e).1) s,true)
 |s,[]=>rfl
 |s,e::r=>by simp only[ZT,h,if_true,qBP];exact KB h _ r
def Vz{f}:∀(s) (l),(ZT (fun _ e=>(f e,f e==0)) s l).1=if l=[] then s else qU f l
 |s,[]=>rfl
 | s,e::r=>by
  simp only[ZT,qU,beq_iff_eq,reduceCtorEq,if_false];by_cases h:f e=0
  . rw[if_pos h,if_pos h,Vz];split
    . rename_i hr;subst hr;simp[qU,h]
    rfl
  rw[if_neg h,if_neg h]
def qft{m n}:IntKind.i64.wrap (IntKind.i64.wrap m+n)=IntKind.i64.wrap (m+n):=by
 simp[IntKind.wrap,IntKind.bits,IntKind.signed];omega
def V4{n}:∀(l:List Ex),l.foldl (fun s _=>IntKind.i64.wrap (s+1)) (IntKind.i64.wrap n)=IntKind.i64.wrap (n+l.length)
 |[]=>by simp
 | e::r=>by
  rw[qBP,qft,V4 r];congr 1;simp;omega
def wI{l g}(h:[]∈g):¬yi l g:=fun⟨h1,_⟩=>h1 _ h rfl
def V0{l g i}(h:i∈g.flatten)(hr:yQ l i=false):¬yi l g:=fun⟨_,h2,_⟩=>by
 have:=h2 i h;rw[hr]at this;cases this
def qih{l g i done rest}(h:g.flatten=done++i::rest)(hi:i∈done):¬yi l g:=fun⟨_,_,h3,_⟩=>by
 rw[h,qCa]at h3;exact h3.2.2 i hi i (by simp) rfl
def qeO{l:List Var}{g:List (List Int)}{i:Nat}(hi:i<l.length)(hr:yQ l i=true)(h:(i:Int)∉g.flatten):¬yi l g:=fun⟨_,_,_,h4⟩=>h (h4 i hi hr)
def JD{l i}(h:yQ l i=true):0<=i/\i<l.length:=by
 simp only[yQ,qBf,decide_eq_true_eq]at h;obtain⟨h0,h1⟩:=h;refine⟨h0,?_⟩;apply Classical.byContradiction;intro hn;rw[qBI (by omega)]at h1;simp at h1
def qc8{l g}(h1:∀x∈g,x≠[])(h2:∀i∈g.flatten,0<=i/\i<(l.length:Int)):
 yi l g↔∀i:Nat,i<l.length->g.flatten.count (i:Int)=if yQ l i=true then 1 else 0:=by
 constructor
 . rintro⟨_,k2,k3,k4⟩ i hi;split
   . rename_i hr;have:=List.nodup_iff_count.1 k3 (i:Int);have:=qEB.2 (k4 i hi hr);omega
   rename_i hr;apply List.count_eq_zero.2;intro hm;exact hr (k2 _ hm)
 intro h;have cnt:∀i∈g.flatten,g.flatten.count i=1/\yQ l i=true:=by
  intro i hi;obtain⟨a,b⟩:=h2 i hi;have hc:=h i.toNat (by omega);rw[show((i.toNat:Nat):Int)=i by omega]at hc;have:=qEB.2 hi;split at hc
  . rename_i hr;exact⟨hc,hr⟩
  omega
 refine⟨h1,fun i hi=>(cnt i hi).2,?_,?_⟩
 . rw[List.nodup_iff_count];intro i;by_cases hi:i∈g.flatten
   . rw[(cnt i hi).1];exact qBl _
   rw[List.count_eq_zero.2 hi];omega
 intro i hi hr;have hc:=h i hi;rw[if_pos hr]at hc;exact qEB.1 (by omega)
mutual
def yT:Ex->Int->Int
 |.mk _ _ _ a,d=>wE a d 1
def wE:List Ex->Int->Int->Int
 |[],_,n=>n
 |x::r,d,n=>if n<100/\d<30 then wE r d (IntKind.i64.wrap (n+yT x (IntKind.i64.wrap (d+1)))) else n
end
def qcI(e d):yT e d=wE e.args d 1:=by cases e;simp[yT]
@[simp]def qhZ{d n}:wE [] d n=n:=by simp[wE]
@[simp]def KX{x r d n}:wE (x::r) d n=if n<100/\d<30 then wE r d (IntKind.i64.wrap (n+yT x (IntKind.i64.wrap (d+1)))) else n:=by simp[wE]
mutual
def jr:Ex->Nat->Bool
 |.mk o n s a,d=>if 25<d\/(d=0/\60<yT (.mk o n s a) 0) then false else Jo a (d+1)
def Jo:List Ex->Nat->Bool
 |[],_=>true
 |x::r,d=>jr x d&&Jo r d
end
def WK(e d):jr e d=if 25<d\/(d=0/\60<yT e 0) then false else Jo e.args (d+1):=by cases e;simp[jr]
@[simp]def qt6{d}:Jo [] d=true:=by simp[Jo]
@[simp]def qti{x r d}:Jo (x::r) d=(jr x d&&Jo r d):=by simp[Jo]
def JZ{l d}:Jo l d=l.all fun x=>jr x d:=by
 induction l with
 |nil=>simp
 |cons x r ih=>simp[ih]
def qdy:∀(e) (d),jr e d=true->hgt e+d<=26:=by
 refine qFX fun e ih d h=>?_
 rw[WK]at h;split at h
 . cases h
 rename_i hd;rw[wH];have:∀(l:List Ex),(∀x∈l,jr x (d+1)=true)->(∀x∈l,x∈e.args)->Jv l+(d+1)<=26:=by
  intro l
  induction l with
  |nil=>intro _ _;simp;omega
  | cons x r ihl=>
   intro h1 h2;have a1:=ih x (h2 x (by simp)) (d+1) (h1 x (by simp));have a2:=ihl (fun y hy=>h1 y (by simp[hy])) (fun y hy=>h2 y (by simp[hy]));simp;omega
 rw[JZ,qBk]at h;have:=this e.args h (fun _ h=>h);omega
def jY(p:Problem):Bool :=
 !(decide (20<p.vars.length)||decide (20<p.hard.length)||decide (20<p.soft.length)||decide (20<p.dists.length)||decide (20<p.groups.length)) &&
 p.hard.all (jr · 0)&&p.soft.all (jr · 0)&&p.dists.all (fun d=>decide (d.weights.length<=20))&&p.groups.all (fun g=>decide (g.length<=20))
def GG(g:Nat):AV:=match g with
 |0=>.rptr [.sl 1 (qdQ.map jo) .none]
 |_=>.any
noncomputable def okzN (n:Nat):Bool:=match prog.funcs[n]? with | some fn=>(match fn.body with | some c=>jI fn.ntmps o0 c && fn.name != "runtime.NumGoroutine" | none=>true) | none=>true
def okzE:List Nat:=[78,147,241]
noncomputable def okzB(k:Nat):Bool:=(List.range 54).all fun i=>okzE.contains (54*k+i)||okzN (54*k+i)
def oz0:okzB 0=true:=by kernel_rfl
def oz1:okzB 1=true:=by kernel_rfl
def oz2:okzB 2=true:=by kernel_rfl
def oz3:okzB 3=true:=by kernel_rfl
def oz4:okzB 4=true:=by kernel_rfl
def oz5:okzB 5=true:=by kernel_rfl
def oz6:okzB 6=true:=by kernel_rfl
def oz7:okzB 7=true:=by kernel_rfl
def qyx:∀k<8,okzB k=true
 |0,_=>oz0|1,_=>oz1|2,_=>oz2|3,_=>oz3|4,_=>oz4|5,_=>oz5|6,_=>oz6|7,_=>oz7
 |_+8,h=>by omega
def okzF {n : FuncId} {fn : Func} {c} {args : List AV} (hf : prog.funcs[n]? = some fn) (hb : fn.body = some c) (ha : (!okzE.contains n && decide (args.length ≤ fn.ntmps)) = true) : (jI fn.ntmps o0 c && decide (args.length ≤ fn.ntmps) && fn.name != "runtime.NumGoroutine") = true := by
 have hs:prog.funcs.size=430:=by kernel_rfl
 have hn:=(qB3.1 hf).1;rw[hs]at hn;have h:=qBk.1 (qyx (n/54) (by omega)) (n%54) (qB5.2 (Nat.mod_lt _ (by decide)));simp only[Nat.div_add_mod]at h;simp only[qBf,qCA]at ha;rw[ha.1,qDu]at h;simp only[okzN,hf,hb,qBf]at h;simp only[qBf];exact⟨⟨h.1,ha.2⟩,h.2⟩
def okzQ{n:FuncId}{fn:Func}{c}{args:List AV}{r}{G:Nat->AV}(hf:prog.funcs[n]?=some fn)(hb:fn.body=some c)(ha:(!okzE.contains n&&decide (args.length<=fn.ntmps))=true)
 (h:vcC prog G o0 c (Za args) ⟨[],[]⟩ (Wn prog false fn.results.toList r)):Pure prog G n args r:=qFZ qX hf hb (okzF hf hb ha) h
section
variable (G:Nat->AV)
def qvz(l:List Str)(s:Str)(hl:Fits l):Pure prog G 370 [.sl 1 (l.map jo) .none,.str s] (.bool (l.any (· == s))):=by
 refine okzQ func370 rfl rfl ?_;simp;refine qFW (fun n env U=>∃i,i<=l.length/\n=l.length-i/\env 0=.sl 1 (l.map jo) .none/\env 1=.str s/\env 5=.int .i64 i/\U=⟨[],[]⟩/\l.any (· == s)=(l.drop i).any (· == s)) l.length ⟨0,by simp⟩ ?_;rintro n env U ⟨i,hi,rfl,h0,h1,h5,rfl,hf⟩
 cases hv:l[i]? with
 | some v=>
  obtain⟨hc,hv'⟩:=qBa.1 hv;rw[ze hv]at hf;by_cases he:v=s
  . subst he;simp[h0,h1,h5,hc,hv',hf]
  have he':(v==s)=false:=by simpa using he
  simp[h0,h1,h5,hc,hv',he];refine⟨_,by omega,i+1,by omega,rfl,wr (by omega) (by omega),?_⟩;rw[hf,qDc,he',qDu]
 | none=>
  have hc:¬i<l.length:=by simp at hv;omega
  have hd:l.drop i=[]:=by simp;omega
  have hz:∀x∈l,¬x=s:=by
   intro x hx e;have:l.any (· == s)=true:=qBJ.2 ⟨x,hx,by simp[e]⟩;rw[hf,hd]at this;cases this
  simp[h0,h5,hc];exact hz
def qgD(l:List Str)(s:Str)(hl:Fits l):Pure prog G 333 [.sl 1 (l.map jo) .none,.str s] (.bool (l.any (· == s))):=by
 refine okzQ func333 rfl rfl ?_;simp;refine qFW (fun n env U=>∃i,i<=l.length/\n=l.length-i/\env 0=.sl 1 (l.map jo) .none/\env 1=.str s/\env 5=.int .i64 i/\U=⟨[],[]⟩/\l.any (· == s)=(l.drop i).any (· == s)) l.length ⟨0,by simp⟩ ?_;rintro n env U ⟨i,hi,rfl,h0,h1,h5,rfl,hf⟩
 cases hv:l[i]? with
 | some v=>
  obtain⟨hc,hv'⟩:=qBa.1 hv;rw[ze hv]at hf;by_cases he:v=s
  . subst he;simp[h0,h1,h5,hc,hv',hf]
  have he':(v==s)=false:=by simpa using he
  simp[h0,h1,h5,hc,hv',he];refine⟨_,by omega,i+1,by omega,rfl,wr (by omega) (by omega),?_⟩;rw[hf,qDc,he',qDu]
 | none=>
  have hc:¬i<l.length:=by simp at hv;omega
  have hd:l.drop i=[]:=by simp;omega
  have hz:∀x∈l,¬x=s:=by
   intro x hx e;have:l.any (· == s)=true:=qBJ.2 ⟨x,hx,by simp[e]⟩;rw[hf,hd]at this;cases this
  simp[h0,h5,hc];exact hz
def qoj(l:List Str)(s:Str)(hl:Fits l):Pure prog G 354 [.sl 1 (l.map jo) .none,.str s] (.int .i64 (zo (fun v=>s==v) l 0)):=by
 refine okzQ func354 rfl rfl ?_;simp;refine qFW (fun n env U=>∃i,i<=l.length/\n=l.length-i/\env 0=.sl 1 (l.map jo) .none/\env 1=.str s/\env 7=.int .i64 l.length/\env 8=.int .i64 i/\U=⟨[],[]⟩/\zo (fun v=>s==v) l 0=zo (fun v=>s==v) (l.drop i) i) l.length ⟨0,by simp⟩ ?_;rintro n env U ⟨i,hi,rfl,h0,h1,h7,h8,rfl,hf⟩
 cases hv:l[i]? with
 | some v=>
  obtain⟨hc,hv'⟩:=qBa.1 hv;rw[ze hv]at hf;by_cases he:s=v
  . subst he;simp[h0,h1,h7,h8,hc,hv',hf,zo]
  have he':(s==v)=false:=by simpa using he
  simp[h0,h1,h7,h8,hc,hv',he];refine⟨_,by omega,i+1,by omega,rfl,wr (by omega) (by omega),?_⟩;rw[hf,zo,he'];simp
 | none=>
  have hc:¬i<l.length:=by simp at hv;omega
  have hd:l.drop i=[]:=by simp;omega
  simp[h0,h7,h8,hc,hf,hd,zo]
def ZA(l:List Str)(s:Str)(hl:Fits l):Pure prog G 311 [.sl 1 (l.map jo) .none,.str s] (.bool (l.any (fun v=>s==v))):=by
 refine okzQ func311 rfl rfl ?_;simp;refine qFJ (qoj G l s hl) (by simp) ?_;simp
def qoh(l s)(hl:Fits l):Pure prog G 353 [.sl 1 (l.map qh) .none,.int .i64 s] (.int .i64 (zo (fun v=>s==v) l 0)):=by
 refine okzQ func353 rfl rfl ?_;simp;refine qFW (fun n env U=>∃i,i<=l.length/\n=l.length-i/\env 0=.sl 1 (l.map qh) .none/\env 1=.int .i64 s/\env 7=.int .i64 l.length/\env 8=.int .i64 i/\U=⟨[],[]⟩/\zo (fun v=>s==v) l 0=zo (fun v=>s==v) (l.drop i) i) l.length ⟨0,by simp⟩ ?_;rintro n env U ⟨i,hi,rfl,h0,h1,h7,h8,rfl,hf⟩
 cases hv:l[i]? with
 | some v=>
  obtain⟨hc,hv'⟩:=qBa.1 hv;rw[ze hv]at hf;by_cases he:s=v
  . subst he;simp[h0,h1,h7,h8,hc,hv',hf,zo]
  have he':(s==v)=false:=by simpa using he
  simp[h0,h1,h7,h8,hc,hv',he];refine⟨_,by omega,i+1,by omega,rfl,wr (by omega) (by omega),?_⟩;rw[hf,zo,he'];simp
 | none=>
  have hc:¬i<l.length:=by simp at hv;omega
  have hd:l.drop i=[]:=by simp;omega
  simp[h0,h7,h8,hc,hf,hd,zo]
def qe2(l s)(hl:Fits l):Pure prog G 310 [.sl 1 (l.map qh) .none,.int .i64 s] (.bool (l.any (fun v=>s==v))):=by
 refine okzQ func310 rfl rfl ?_;simp;refine qFJ (qoh G l s hl) (by simp) ?_;simp
def qeU(l:List Var)(s:Str)(hl:Fits l):Pure prog G 159 [.sl 4 (l.map qG) .none,.str s] (.int .i64 (zo (fun v=>v.name==s) l 0)):=by
 refine okzQ func159 rfl rfl ?_;simp;refine qFW (fun n env U=>∃i,i<=l.length/\n=l.length-i/\env 0=.sl 4 (l.map qG) .none/\env 1=.str s/\env 5=.int .i64 i/\U=⟨[],[]⟩/\zo (fun v=>v.name==s) l 0=zo (fun v=>v.name==s) (l.drop i) i) l.length ⟨0,by simp⟩ ?_;rintro n env U ⟨i,hi,rfl,h0,h1,h5,rfl,hf⟩
 cases hv:l[i]? with
 | some v=>
  obtain⟨hc,hv'⟩:=qBa.1 hv;rw[ze hv]at hf;by_cases he:v.name=s
  . subst he;simp[h0,h1,h5,hc,hv',hf,zo]
  have he':(v.name==s)=false:=by simpa using he
  simp[h0,h1,h5,hc,hv',he];refine⟨_,by omega,i+1,by omega,rfl,wr (by omega) (by omega),?_⟩;rw[hf,zo,he'];simp
 | none=>
  have hc:¬i<l.length:=by simp at hv;omega
  have hd:l.drop i=[]:=by simp;omega
  simp[h0,h5,hc,hf,hd,zo]
end
def Yf(G l p f first cap)(hl:Fits l)(h1:qx first=true)(h2:qx cap=true)
 (hp:∀v∈l,Pure prog G f (first++[.agg (qG v)]++cap) (.bool (p v))):Pure prog G 251 [.sl 4 (l.map qG) .none,.fn f first cap] (.int .i64 (zo p l 0)):=by
 refine qFZ qX func251 rfl (by kernel_rfl) ?_;simp;refine qFW (fun n env U=>∃i,i<=l.length/\n=l.length-i/\env 0=.sl 4 (l.map qG) .none/\env 1=.fn f first cap/\env 7=.int .i64 l.length/\env 8=.int .i64 i/\U=⟨[],[]⟩/\zo p l 0=zo p (l.drop i) i) l.length ⟨0,by simp⟩ ?_;rintro n env U ⟨i,hi,rfl,h0,h1',h7,h8,rfl,hf⟩
 cases hv:l[i]? with
 | some v=>
  obtain⟨hc,hv'⟩:=qBa.1 hv;rw[ze hv]at hf;simp[h0,h1',h7,h8,hc,hv',hf];refine qFJ (r:=.bool (p v)) (by simpa using hp v (qBb hv)) (by simp[yK,h1,h2]) ?_;simp[h0,h1',h7,h8,zo];refine⟨fun e=>by simp[e],fun e=>⟨_,by omega,i+1,by omega,rfl,wr (by omega) (by omega),by simp[e]⟩⟩
 | none=>
  have hc:¬i<l.length:=by simp at hv;omega
  have hd:l.drop i=[]:=by simp;omega
  simp[h0,h7,h8,hc,hf,hd,zo]
def Qz(G l p f first cap)(hl:Fits l)(h1:qx first=true)(h2:qx cap=true)
 (hp:∀v∈l,Pure prog G f (first++[.agg (qG v)]++cap) (.bool (p v))):Pure prog G 172 [.sl 4 (l.map qG) .none,.fn f first cap] (.bool (l.any p)):=by
 refine qFZ qX func172 rfl (by kernel_rfl) ?_;simp;refine qFJ (Yf G l p f first cap hl h1 h2 hp) (by simp[h1,h2]) ?_;simp
def qa4(G l p f first cap)(hl:Fits l)(h1:qx first=true)(h2:qx cap=true)
 (hp:∀v∈l,Pure prog G f (first++[.agg (zn v)]++cap) (.bool (p v))):Pure prog G 256 [.sl 2 (l.map zn) .none,.fn f first cap] (.int .i64 (zo p l 0)):=by
 refine qFZ qX func256 rfl (by kernel_rfl) ?_;simp;refine qFW (fun n env U=>∃i,i<=l.length/\n=l.length-i/\env 0=.sl 2 (l.map zn) .none/\env 1=.fn f first cap/\env 7=.int .i64 l.length/\env 8=.int .i64 i/\U=⟨[],[]⟩/\zo p l 0=zo p (l.drop i) i) l.length ⟨0,by simp⟩ ?_;rintro n env U ⟨i,hi,rfl,h0,h1',h7,h8,rfl,hf⟩
 cases hv:l[i]? with
 | some v=>
  obtain⟨hc,hv'⟩:=qBa.1 hv;rw[ze hv]at hf;simp[h0,h1',h7,h8,hc,hv',hf];refine qFJ (r:=.bool (p v)) (by simpa using hp v (qBb hv)) (by simp[yK,h1,h2]) ?_;simp[h0,h1',h7,h8,zo];refine⟨fun e=>by simp[e],fun e=>⟨_,by omega,i+1,by omega,rfl,wr (by omega) (by omega),by simp[e]⟩⟩
 | none=>
  have hc:¬i<l.length:=by simp at hv;omega
  have hd:l.drop i=[]:=by simp;omega
  simp[h0,h7,h8,hc,hf,hd,zo]
def YD(G l p f first cap)(hl:Fits l)(h1:qx first=true)(h2:qx cap=true)
 (hp:∀v∈l,Pure prog G f (first++[.agg (zn v)]++cap) (.bool (p v))):Pure prog G 180 [.sl 2 (l.map zn) .none,.fn f first cap] (.bool (l.any p)):=by
 refine qFZ qX func180 rfl (by kernel_rfl) ?_;simp;refine qFJ (qa4 G l p f first cap hl h1 h2 hp) (by simp[h1,h2]) ?_;simp
def qc5(G l p f first cap)(hl:Fits l)(h1:qx first=true)(h2:qx cap=true)
 (hp:∀v∈l,Pure prog G f (first++[.str v]++cap) (.bool (p v))):Pure prog G 255 [.sl 1 (l.map jo) .none,.fn f first cap] (.int .i64 (zo p l 0)):=by
 refine qFZ qX func255 rfl (by kernel_rfl) ?_;simp;refine qFW (fun n env U=>∃i,i<=l.length/\n=l.length-i/\env 0=.sl 1 (l.map jo) .none/\env 1=.fn f first cap/\env 7=.int .i64 l.length/\env 8=.int .i64 i/\U=⟨[],[]⟩/\zo p l 0=zo p (l.drop i) i) l.length ⟨0,by simp⟩ ?_;rintro n env U ⟨i,hi,rfl,h0,h1',h7,h8,rfl,hf⟩
 cases hv:l[i]? with
 | some v=>
  obtain⟨hc,hv'⟩:=qBa.1 hv;rw[ze hv]at hf;simp[h0,h1',h7,h8,hc,hv',hf];refine qFJ (r:=.bool (p v)) (by simpa using hp v (qBb hv)) (by simp[yK,h1,h2]) ?_;simp[h0,h1',h7,h8,zo];refine⟨fun e=>by simp[e],fun e=>⟨_,by omega,i+1,by omega,rfl,wr (by omega) (by omega),by simp[e]⟩⟩
 | none=>
  have hc:¬i<l.length:=by simp at hv;omega
  have hd:l.drop i=[]:=by simp;omega
  simp[h0,h7,h8,hc,hf,hd,zo]
def WG(G l p f first cap)(hl:Fits l)(h1:qx first=true)(h2:qx cap=true)
 (hp:∀v∈l,Pure prog G f (first++[.str v]++cap) (.bool (p v))):Pure prog G 177 [.sl 1 (l.map jo) .none,.fn f first cap] (.bool (l.any p)):=by
 refine qFZ qX func177 rfl (by kernel_rfl) ?_;simp;refine qFJ (qc5 G l p f first cap hl h1 h2 hp) (by simp[h1,h2]) ?_;simp
def Qq(G l p f first cap)(hl:Fits l)(h1:qx first=true)(h2:qx cap=true)
 (hp:∀v∈l,Pure prog G f (first++[.agg (qy v)]++cap) (.bool (p v))):Pure prog G 244 [.sl 4 (l.map qy) .none,.fn f first cap] (.int .i64 (zo p l 0)):=by
 refine qFZ qX func244 rfl (by kernel_rfl) ?_;simp;refine qFW (fun n env U=>∃i,i<=l.length/\n=l.length-i/\env 0=.sl 4 (l.map qy) .none/\env 1=.fn f first cap/\env 7=.int .i64 l.length/\env 8=.int .i64 i/\U=⟨[],[]⟩/\zo p l 0=zo p (l.drop i) i) l.length ⟨0,by simp⟩ ?_;rintro n env U ⟨i,hi,rfl,h0,h1',h7,h8,rfl,hf⟩
 cases hv:l[i]? with
 | some v=>
  obtain⟨hc,hv'⟩:=qBa.1 hv;rw[ze hv]at hf;simp[h0,h1',h7,h8,hc,hv',hf];refine qFJ (r:=.bool (p v)) (by simpa using hp v (qBb hv)) (by simp[yK,h1,h2]) ?_;simp[h0,h1',h7,h8,zo];refine⟨fun e=>by simp[e],fun e=>⟨_,by omega,i+1,by omega,rfl,wr (by omega) (by omega),by simp[e]⟩⟩
 | none=>
  have hc:¬i<l.length:=by simp at hv;omega
  have hd:l.drop i=[]:=by simp;omega
  simp[h0,h7,h8,hc,hf,hd,zo]
def Jl(G l p f first cap)(hl:Fits l)(h1:qx first=true)(h2:qx cap=true)
 (hp:∀v∈l,Pure prog G f (first++[.agg (qy v)]++cap) (.bool (p v))):Pure prog G 257 [.sl 4 (l.map qy) .none,.fn f first cap] (.bool (l.any p)):=by
 refine qFZ qX func257 rfl (by kernel_rfl) ?_;simp;refine qFJ (Qq G l p f first cap hl h1 h2 hp) (by simp[h1,h2]) ?_;simp
section
variable (G:Nat->AV)
def qaY(n):Pure prog G 349 [.int .i32 n] (.bool (wG n)):=by
 refine okzQ func349 rfl rfl ?_;by_cases h1:97<=n<;>by_cases h2:n<=122<;>simp[wG,h1,h2]
def qoL(n):Pure prog G 384 [.int .i32 n] (.bool (Yj n)):=by
 refine okzQ func384 rfl rfl ?_;by_cases h1:48<=n<;>by_cases h2:n<=57<;>simp[Yj,h1,h2]
def qfI(n):Pure prog G 329 [.int .u8 n] (.bool (wG n)):=by
 refine okzQ func329 rfl rfl ?_;by_cases h1:97<=n<;>by_cases h2:n<=122<;>simp[wG,h1,h2]
def qoM(n):Pure prog G 372 [.int .u8 n] (.bool (Yj n)):=by
 refine okzQ func372 rfl rfl ?_;by_cases h1:48<=n<;>by_cases h2:n<=57<;>simp[Yj,h1,h2]
def JO(n):Pure prog G 350 [.int .i32 n] (.bool (wg n)):=by
 refine okzQ func350 rfl rfl ?_;simp;refine qFJ (qaY G n) rfl ?_;cases hl:wG n
 . simp;refine qFJ (qoL G n) rfl ?_;cases hd:Yj n
   . by_cases h1:65<=n<;>by_cases h2:n<=90<;>by_cases h3:n=95<;>simp[wg,hl,hd,h1,h2,h3]
   simp[wg,hl,hd]
 simp[wg,hl]
def qog(n):Pure prog G 331 [.int .u8 n] (.bool (wg n)):=by
 refine okzQ func331 rfl rfl ?_;simp;refine qFJ (qfI G n) rfl ?_;cases hl:wG n
 . simp;refine qFJ (qoM G n) rfl ?_;cases hd:Yj n
   . by_cases h1:65<=n<;>by_cases h2:n<=90<;>by_cases h3:n=95<;>simp[wg,hl,hd,h1,h2,h3]
   simp[wg,hl,hd]
 simp[wg,hl]
end
section
variable (G:Nat->AV)
def qv1{s:Str}{pos}(h:pos<s.length)(hl:(s[pos]).toNat<128):Utf8.decode ⟨s.toArray⟩ pos=((s[pos]).toNat,1):=by
 have:=Go.decode_ascii ⟨s.toArray⟩ pos (by simpa[ByteArray.size] using h) hl;exact this
def qv2{s:Str}{pos}(h:pos<s.length)(hl:128<=(s[pos]).toNat):128<=(Utf8.decode ⟨s.toArray⟩ pos).1:=by
 have:=Go.decode_high ⟨s.toArray⟩ pos (by simpa[ByteArray.size] using h) hl;exact this.1
def qc4{n}(h:128<=n):wg n=false:=by
 simp[wg,wG,Yj];omega
def ZG{s}{c:UInt8}(h:c∈s)(hc:Jb c=false):Q5 s=false:=by
 cases s with
 |nil=>cases h
 | cons a r=>
  have:(a::r).all Jb=false:=by
   rw[qCu];intro e;rw[qBk.1 e c h]at hc;cases hc
  simp only[Q5,this,qDN]
def qhc{c:UInt8}{r:Str}(h:wG c.toNat=false):Q5 (c::r)=false:=by simp[Q5,h]
def qqT(s:Str):Pure prog G 305 [.str s] (.bool (Q5 s)):=by
 refine okzQ func305 rfl rfl ?_;simp;refine qFW (fun n env U=>∃pos,pos<=s.length/\n=s.length-pos/\env 0=.str s/\env 6=.iter 0/\U=⟨[.siter s pos],[]⟩/\(∀c∈s.take pos,Jb c=true)/\(0<pos->∀c r,s=c::r->wG c.toNat=true)) s.length ⟨0,by simp⟩ ?_;rintro n env U ⟨pos,hp,rfl,h0,h6,rfl,hall,hlow⟩;by_cases hlt:pos<s.length
 . have hmem:=qDf hlt;by_cases hc:(s[pos]).toNat<128
   . have hd:=qv1 hlt hc;have more:Jb s[pos]=true->∀c∈s.take (pos+1),Jb c=true:=by
      intro hi c hcm;rw[show s.take (pos+1)=s.take pos++[s[pos]] by rw[qBG,qBc hlt];rfl,qBp]at hcm;rcases hcm with hcm|hcm
      . exact hall c hcm
      rwa[qBR.1 hcm]
     rcases qCC pos with rfl|hpos
     . simp[h0,h6,qaT,hlt,hd];refine qFJ (qaY G _) rfl ?_;cases hl:wG (s[0].toNat:Int)
       . cases s with
         |nil=>simp at hlt
         |cons c r=>simpa using qhc hl
       simp;refine qFJ (JO G _) rfl ?_;cases hi:wg (s[0].toNat:Int)
       . simpa using ZG hmem hi
       simp[h0,h6];refine⟨_,by omega,1,by omega,rfl,rfl,more hi,fun _ c r e=>by subst e;exact hl⟩
     have hne:¬pos=0:=(by omega);simp[h0,h6,qaT,hlt,hd,hne];refine qFJ (JO G _) rfl ?_;cases hi:wg (s[pos].toNat:Int)
     . simpa using ZG hmem hi
     simp[h0,h6];refine⟨_,by omega,pos+1,by omega,rfl,rfl,more hi,fun _=>hlow hpos⟩
   have hd:=qv2 hlt (by omega);have hi:=qc4 (n:=((Utf8.decode ⟨s.toArray⟩ pos).1:Int)) (by omega);have hl:wG ((Utf8.decode ⟨s.toArray⟩ pos).1:Int)=false:=by
    simp only[wg,qDy]at hi;exact hi.1.1.1
   have hb:=ZG hmem (qc4 (n:=(s[pos].toNat:Int)) (by omega));rcases qCC pos with rfl|hpos
   . simp[h0,h6,qaT,hlt];refine qFJ (qaY G _) rfl ?_;simpa[hl] using hb
   have hne:¬pos=0:=(by omega);simp[h0,h6,qaT,hlt,hne];refine qFJ (JO G _) rfl ?_;simpa[hi] using hb
 have he:pos=s.length:=by omega
 subst he
 cases s with
 |nil=>simp[h0,h6,qaT,Q5]
 | cons c r=>
  have h1:Q5 (c::r)=true:=by
   simp only[Q5,qBf];exact⟨hlow (by simp) c r rfl,qBk.2 fun x hx=>hall x (by simpa using hx)⟩
  simp[h0,h6,qaT,h1]
end
def qo4(s c w):
 Calls prog 385 #[.string s,.int .u8 c] w fun e w'=>e=.returned (.int .i64 (Lib.indexByte s.data.toList c.toNat.toUInt8))/\w'=w:=by
 have t3:=underlying3;have t5:=underlying5;have t9:=underlying9
 go_enter func385,Tryz.ntmps385
 go_wp2
 rw[run_callFunc_extern func394 (by kernel_rfl) (by kernel_rfl) (by kernel_rfl) (e:=Extern.BytealgIndexByte.indexByte) (by kernel_rfl),Lib.run_indexByteString];simp only[Result.andThen];rw[Oper.upon_value]
 go_wp2
 go_ret
 exact⟨rfl,rfl⟩
def qc6(G:Nat->AV)(s:Str)(c:Int):Pure prog G 385 [.str s,.int .u8 c] (.int .i64 (Lib.indexByte s c.toNat.toUInt8)):=by
 refine⟨by kernel_rfl,fun w0 ro vs hg hro hvs=>?_⟩;simp only[qi,qf]at hvs;obtain⟨v,vr,e1,rfl,v2,vr2,rfl,rfl,rfl⟩:=hvs;have:vs = #[.string ⟨s.toArray⟩,.int .u8 c]:=by rw[<- qDj (xs:=vs),e1]
 subst this;refine(qo4 _ _ _).mono ?_;rintro e w' ⟨rfl,rfl⟩;exact⟨_,ro,rfl,.refl _ _,fun _ _ _ h=>h,hro,fun _ _ _ h _=>h,by simp[qf]⟩
def qn3(s):qdQ.any (fun v=>s==v)=qdQ.contains s:=by
 rw[List.any_beq]
def qkD(s):qdQ.any (fun v=>v==s)=qdQ.contains s:=by
 rw[List.any_beq']
def qsx(s:Str):Pure prog GG 306 [.str s] (.bool (qdQ.contains s)):=by
 refine okzQ func306 rfl rfl ?_;simp[GG];refine qFJ (ZA GG qdQ s (by decide)) rfl ?_;rw[qn3];simp
def Qo(s:Str):Pure prog GG 248 [.str s] (.bool (z8 s)):=by
 refine okzQ func248 rfl rfl ?_;simp;refine qFJ (qqT GG s) rfl ?_;cases h1:Q5 s
 . simp[z8,h1]
 by_cases h2:s.length<=16
 . have h2':(s.length:Int)<=16:=(by omega);simp[h2'];refine qFJ (qsx s) rfl ?_;simp[z8,h1,h2]
 have h2':¬(s.length:Int)<=16:=by omega
 simp[z8,h1,h2,h2']
def qeG:Pure prog GG 371 [] (.sl 1 (qdQ.map jo) .none):=by
 refine okzQ func371 rfl rfl ?_;simp[qe,ql,qdQ]
def qsw(s:Str):Pure prog GG 330 [.str s] (.bool (qdQ.contains s)):=by
 refine okzQ func330 rfl rfl ?_;simp;refine qFJ qeG rfl ?_;refine qFJ (qvz GG qdQ s (by decide)) rfl ?_;rw[qkD];simp
def Qn(s:Str)(hs:Fits s):Pure prog GG 290 [.str s] (.bool (z8 s)):=by
 refine okzQ func290 rfl rfl ?_
 cases s with
 |nil=>simp[z8,Q5]
 | cons c r=>
  by_cases h16:(c::r).length<=16
  . have h16':¬(16:Int)<(r.length:Int)+1:=(by simp at h16;omega);simp[h16'];refine qFJ (qfI GG c.toNat) rfl ?_;cases hl:wG (c.toNat:Int)
    . simp[z8,Q5,hl]
    simp;refine qFJ (qsw (c::r)) rfl ?_;cases hk:qdQ.contains (c::r)
    . simp;refine qFW (fun n env U=>∃i,i<=(c::r).length/\n=(c::r).length-i/\env 0=.str (c::r)/\env 3=.int .i64 i/\U=⟨[],[]⟩/\∀x∈(c::r).take i,Jb x=true) (c::r).length ⟨0,by simp⟩ ?_;rintro n env U ⟨i,hi,rfl,h0,h3,rfl,hall⟩
      cases hv:(c::r)[i]? with
      | some v=>
       obtain⟨hc,hv'⟩:=qBa.1 hv;simp[h0,h3,show(i:Int)<r.length+1 by simp at hc;omega,hv];refine qFJ (qog GG v.toNat) rfl ?_;cases hin:wg (v.toNat:Int)
       . have:=ZG (qBb hv) (show Jb v=false from hin);simp[z8,this]
       simp[h0,h3];refine⟨_,by simp at hc;omega,i+1,by simp at hc;omega,rfl,wr (by omega) (by simp at hc hs;omega),?_⟩;intro x hx;rw[show(c::r).take (i+1)=(c::r).take i++[v] by rw[qBG,hv];rfl,qBp]at hx;rcases hx with hx|hx
       . exact hall x hx
       rwa[qBR.1 hx]
      | none=>
       have he:i=(c::r).length:=(by simp at hv hi;simp;omega);subst he;have h1:Q5 (c::r)=true:=by
        simp only[Q5,qBf];exact⟨hl,qBk.2 fun x hx=>hall x (by simpa using hx)⟩
       have hn:z8 (c::r)=true:=(by simp only[z8,h1,hk,decide_eq_true h16];rfl);simp[h0,h3,hn]
    have hn:z8 (c::r)=false:=(by simp only[z8,hk,qFm,qDN]);simp[hn]
  have h16':(16:Int)<(r.length:Int)+1:=by simp at h16;omega
  have:z8 (c::r)=false:=by
   have:decide ((c::r).length<=16)=false:=by simpa using h16
   simp only[z8,this,qDN,qDo]
  simp[h16',this]
def Zg{s:Str}:Lib.indexByte s 91=if s.contains 91=true then((yf s).length:Int) else -1:=by
 unfold yf
 induction s with
 |nil=>simp[Lib.indexByte]
 | cons c r ih=>
  by_cases hc:c=91
  . subst hc;simp[Lib.indexByte]
  have h1:(c==91)=false:=by simpa using hc
  simp only[Lib.indexByte,h1,qBE,if_false,ih,List.contains_cons];have h3:((91:UInt8)==c)=false:=by simpa using fun e=>hc e.symm
  have h4:(c != 91)=true:=by simpa using hc
  rw[h3,qDu,qEu,if_pos h4];by_cases h5:r.contains 91=true
  . rw[if_pos h5,if_pos h5];have:¬(((r.takeWhile (· != 91)).length:Int) == -1)=true:=by simp
    rw[if_neg this];simp
  rw[if_neg h5,if_neg h5];simp
def qgz(G:Nat->AV)(s:Str):Pure prog G 351 [.str s,.str [91]] (.int .i64 (Lib.indexByte s 91)):=by
 refine okzQ func351 rfl rfl ?_;by_cases h:[91]=s
 . subst h;simp[Lib.indexByte]
 simp[h];refine qFJ (qc6 G s 91) rfl ?_;simp
def qv3(G:Nat->AV)(s:Str)(hs:Fits s)(h:s.contains 91=true):Pure prog G 307 [.str s,.str [91]] (.tup [.str (yf s),.str (Ko s),.bool true]):=by
 refine okzQ func307 rfl rfl ?_;simp;refine qFJ (qgz G s) rfl ?_;have e:=qqs h;have hl:s.length=(yf s).length+1+(Ko s).length:=by
  have:=congrArg List.length e;rw[qBe,qBr]at this;omega
 have t1:s.take (yf s).length=yf s:=by
  conv=>lhs;arg 2;rw[e]
  simp
 have t2:s.drop ((yf s).length+1)=Ko s:=by
  conv=>lhs;arg 2;rw[e]
  simp
 rw[Zg,if_pos h];simp[zl,zS,show IntKind.i64.wrap (((yf s).length:Int)+1)=(yf s).length+1 from wr (by omega) (by omega),show((yf s).length:Int)+1<=s.length by omega,show(0:Int)<=(yf s).length+1 by omega,show(((yf s).length:Int)+1).toNat=(yf s).length+1 by omega,show(yf s).length<=s.length by omega,t1,t2]
def qtb(G:Nat->AV)(s:Str)(hs:Fits s)(h:s.contains 91=false):Pure prog G 307 [.str s,.str [91]] (.tup [.str s,.str [],.bool false]):=by
 refine okzQ func307 rfl rfl ?_;simp;refine qFJ (qgz G s) rfl ?_;rw[Zg,if_neg (by rw[h];decide)];simp
def qls(G:Nat->AV)(s:Str)(hs:Fits s)(h:s.contains 91=true):Pure prog G 249 [.str s,.str [91]] (.tup [.str (yf s),.str (Ko s),.bool true]):=by
 refine okzQ func249 rfl rfl ?_;simp;refine qFJ (qv3 G s hs h) rfl ?_;simp
def qe1(G:Nat->AV)(s:Str)(hs:Fits s)(h:s.contains 91=false):Pure prog G 249 [.str s,.str [91]] (.tup [.str s,.str [],.bool false]):=by
 refine okzQ func249 rfl rfl ?_;simp;refine qFJ (qtb G s hs h) rfl ?_;simp
def qm0(i:Nat)(h:i<9):Pure prog GG 396 [.int .i64 i] (.str [UInt8.ofNat (48+i)]):=by
 refine okzQ func396 rfl rfl ?_;have h11:i<10:=by omega
 have h37:(0:Int)<=(i:Int)+1:=by omega
 simp[show(i:Int)<10 by omega,show IntKind.i64.wrap ((i:Int)+1)=(i:Int)+1 from wr (by omega) (by omega),zl,zS,show(i:Int)+1<=36 by omega,show(i:Int)<=(i:Int)+1 by omega];have:i=0\/i=1\/i=2\/i=3\/i=4\/i=5\/i=6\/i=7\/i=8:=by omega
 rcases this with rfl|rfl|rfl|rfl|rfl|rfl|rfl|rfl|rfl<;>rfl
def qyW(i:Nat)(h:i<9):Pure prog GG 308 [.int .i64 i] (.str [UInt8.ofNat (48+i)]):=by
 refine okzQ func308 rfl rfl ?_;simp;refine qFJ (r:=.str [UInt8.ofNat (48+i)]) ?_ rfl ?_
 . refine okzQ func352 rfl rfl ?_;simp;refine qFJ (r:=.str [UInt8.ofNat (48+i)]) ?_ rfl ?_
   . refine okzQ func389 rfl rfl ?_;have h3:i<100:=(by omega);simp[show(0:Int)<=i by omega,show(i:Int)<100 by omega];exact qFJ (qm0 i h) rfl (by simp)
   simp
 simp
def qsv(i:Nat)(h:i<8):Pure prog GG 308 [.int .i64 i] (.str [UInt8.ofNat (48+i)]):=qyW i (by omega)
def JT(a:Str)(i:Nat)(hi:i<8)(ha:a.length<=1000):Pure prog GG 250 [.str a,.int .i64 i] (.str (zT a i)):=by
 refine okzQ func250 rfl rfl ?_;have h4:a.length+1+1<=4611686018427387904:=by omega
 simp[show a.length+1<=4611686018427387904 by omega];refine qFJ (qsv i hi) rfl ?_;simp[show a.length+(1+1)<=4611686018427387904 by omega,show a.length+(1+(1+1))<=4611686018427387904 by omega,zT]
def wF{s}(h:z8 s=true):s.length<=16:=by
 simp only[z8,qBf,decide_eq_true_eq]at h;exact h.1.2
def qoI{s i}(hi:i<8)(hn:z8 (yf s)=true)(h:s=zT (yf s) i):(wk s).isSome=true:=by
 rw[vI (a:=yf s) (i:=i) ⟨hi,hn,h⟩];rfl
def qoJ{s}(h:∀i,i<8->s≠zT (yf s) i):wk s=none:=by
 rw[ka];rintro a i hi;have:=hi.has.2.1;exact h i hi.1 (by rw[this];exact hi.2.2)
def qdo{s}(h:z8 (yf s)=false):wk s=none:=by
 rw[ka];rintro a i hi;have:=hi.has.2.1;rw[this,hi.2.1]at h;cases h
def qnW(s:Str)(hs:Fits s):Pure prog GG 170 [.str s] (.bool (wq s)):=by
 refine okzQ func170 rfl rfl ?_;simp;refine qFJ (Qo s) rfl ?_;cases hn:z8 s
 . simp;by_cases hc:s.contains 91=true
   . refine qFJ (qls GG s hs hc) rfl ?_;simp;refine qFJ (Qo (yf s)) rfl ?_;cases hh:z8 (yf s)
     . simp[wq,hn,qdo hh]
     simp;refine qFW (fun n env U=>∃i:Nat,i<=8/\n=8-i/\env 0=.str s/\env 3=.str (yf s)/\env 22=.int .i64 i/\U=⟨[],[]⟩/\∀j,j<i->s≠zT (yf s) j) 8 ⟨0,by simp⟩ ?_;rintro n env U ⟨i,hi,rfl,h0,h3,h22,rfl,hall⟩;by_cases h8:i<8
     . have h8':(i:Int)<8:=(by omega);simp[h0,h3,h22,h8'];refine qFJ (JT (yf s) i h8 (by have:=wF hh;omega)) rfl ?_;by_cases he:s=zT (yf s) i
       . have hv:wq s=true:=(by simp[wq,qoI h8 hh he]);rw[<- he];simp[h0,hv]
       simp[h0,h3,h22,he];refine⟨_,by omega,i+1,by omega,rfl,wr (by omega) (by omega),?_⟩;intro j hj e;rcases qCn.1 hj with hj|rfl
       . exact hall j hj e
       exact he e
     have h8':¬(i:Int)<8:=(by omega);have hv:wq s=false:=by
      have:=qoJ fun j hj=>hall j (by omega)
      simp[wq,hn,this]
     simp[h0,h3,h22,h8',hv]
   have hc':s.contains 91=false:=(by simpa using hc);refine qFJ (qe1 GG s hs hc') rfl ?_;simp[wq,hn,KY hc']
 simp[wq,hn]
def qkZ:∀(i:Nat),i<8->Pure prog GG 291 [.int .i64 i] (.str [UInt8.ofNat (48+i)]):=by
 have key:∀(i:Nat),i<8->IntKind.i64.wrap (-(i:Int)) = -i/\(-(i:Int)).tmod 10 = -i/\IntKind.i64.wrap (48+(i:Int))=48+i/\IntKind.u8.wrap (48+(i:Int))=48+i/\IntKind.i64.wrap (-((i:Int)/10))=0/\(48+(i:Int)).toNat=48+i:=by decide
 intro i hi;obtain⟨k1,k2,k3,k4,k5,k6⟩:=key i hi;refine okzQ func291 rfl rfl ?_;simp;have below:Pure prog GG 319 [.int .i64 i] (.int .i64 (-i)):=by
  refine okzQ func319 rfl rfl ?_;by_cases h0:i=0
  . subst h0;simp
  have:0<i:=by omega
  simp[this,k1]
 refine qFJ below rfl ?_;refine qFW (fun n env U=>n=1/\env 0=.int .i64 i/\env 3=.str []/\env 4=.int .i64 (-i)/\U=⟨[],[]⟩) 1 ⟨rfl,by simp⟩ ?_;rintro n env U ⟨rfl,h0,h3,h4,rfl⟩;simp[h0,h3,h4,k2,k3,k4,k5,k6,qe,ql,yF,bytesOf]
def JS(a:Str)(i:Nat)(hi:i<8)(ha:a.length<=1000):Pure prog GG 228 [.str a,.int .i64 i] (.str (zT a i)):=by
 refine okzQ func228 rfl rfl ?_;have h4:a.length+1+1<=4611686018427387904:=by omega
 simp[show a.length+1<=4611686018427387904 by omega];refine qFJ (qkZ i hi) rfl ?_;simp[show a.length+(1+1)<=4611686018427387904 by omega,show a.length+(1+(1+1))<=4611686018427387904 by omega,zT]
noncomputable def qbi(s:Str):AV:=match wk s with
 |some (a,i)=>.tup [.str a,.int .i64 i,.bool true]
 |none=>.tup [.str [],.int .i64 0,.bool false]
def Ji{s a i}(h:jD s a i):qbi s=.tup [.str a,.int .i64 i,.bool true]:=by simp[qbi,vI h]
def vH{s}(h:wk s=none):qbi s=.tup [.str [],.int .i64 0,.bool false]:=by simp[qbi,h]
def qx9{c:UInt8}(h1:48<=c.toNat)(h2:c.toNat<56):UInt8.ofNat (48+(c.toNat-48))=c:=by
 have:48+(c.toNat-48)=c.toNat:=by omega
 rw[this];simp
def qc0{s t}{c:UInt8}(hn:z8 t=true)(h1:48<=c.toNat)(h2:c.toNat<56)(h:s=t++[91,c,93]):jD s t (c.toNat-48) :=
 ⟨by omega,hn,by rw[h,zT,qx9 h1 h2]⟩
def qdn{s a i}(h:jD s a i):s=a++[91,UInt8.ofNat (48+i),93]/\(UInt8.ofNat (48+i)).toNat=48+i/\i<8:=by
 refine⟨h.2.2,?_,h.1⟩;have:=h.1;simp;omega
def qaa(s:Str)(hs:Fits s):Pure prog GG 335 [.str s] (qbi s):=by
 refine okzQ func335 rfl rfl ?_;simp;cases hc:s.contains 91
 . refine qFJ (qe1 GG s hs hc) rfl ?_;rw[vH (KY hc)];simp
 refine qFJ (qls GG s hs hc) rfl ?_;simp;refine qFJ (Qo (yf s)) rfl ?_;cases hn:z8 (yf s)
 . rw[vH (qdo hn)];simp
 have no:(∀c,Ko s=[c,93]->¬(48<=c.toNat/\c.toNat<56))->qbi s=.tup [.str [],.int .i64 0,.bool false]:=by
  intro h;refine vH (ka.2 fun a i hi=>?_);obtain⟨e1,e2,e3⟩:=qdn hi;exact h _ hi.has.2.2 ⟨by omega,by omega⟩
 cases ht:Ko s with
 |nil=>rw[no (by simp[ht])];simp
 | cons c r1=>
  cases r1 with
  |nil=>rw[no (by simp[ht])];simp
  | cons d r2=>
   cases r2 with
   | cons e r3=>
    rw[no (by simp[ht])];simp[show ¬((r3.length:Int)+1+1+1=2) by omega]
   | nil=>
    by_cases hd:d=93
    . subst hd;by_cases h1:48<=c.toNat
      . have h1':¬(c.toNat:Int)<48:=(by omega);by_cases h2:c.toNat<56
        . have h2':¬(56:Int)<=c.toNat:=(by omega);have e:jD s (yf s) (c.toNat-48):=qc0 hn h1 h2 (by have:=qqs hc;rwa[ht]at this);rw[Ji e];have w3:((c.toNat:Int)-48)=((c.toNat-48:Nat):Int):=(by omega);simp[h1',h2',yF,show IntKind.u8.wrap ((c.toNat:Int)-48)=c.toNat-48 by simp[IntKind.wrap,IntKind.bits,IntKind.signed];omega,show IntKind.i64.wrap ((c.toNat:Int)-48)=c.toNat-48 from wr (by omega) (by omega)];omega
        have h2':(56:Int)<=c.toNat:=(by omega);rw[no (fun c' e=>by rw[ht]at e;cases e;omega)];simp[h1',h2']
      have h1':(c.toNat:Int)<48:=(by omega);rw[no (fun c' e=>by rw[ht]at e;cases e;omega)];simp[h1']
    have hd':¬(d.toNat:Int)=93:=by
     intro e;exact hd (UInt8.toNat_inj.1 (by simp;omega))
    rw[no (fun c' e=>by rw[ht]at e;cases e;exact absurd rfl hd)];simp[hd']
def qob(s:Str)(hs:Fits s):Pure prog GG 295 [.str s] (.bool (wq s)):=by
 refine okzQ func295 rfl rfl ?_;simp
 cases he:wk s with
 | some p=>
  obtain⟨a,i⟩:=p;refine qFJ (by have:=qaa s hs;rw[Ji (wa.1 he)]at this;exact this) rfl ?_;simp[wq,he]
 | none=>
  refine qFJ (by have:=qaa s hs;rwa[vH he]at this) rfl ?_;simp;refine qFJ (Qo s) rfl ?_;simp[wq,he]
def qyB{s:Str}(h:3<=s.length):∃t x y z,s=t++[x,y,z]:=by
 refine⟨s.take (s.length-3),s[s.length-3]'(by omega),s[s.length-2]'(by omega),s[s.length-1]'(by omega),?_⟩;have e:s.drop (s.length-3)=[s[s.length-3]'(by omega),s[s.length-2]'(by omega),s[s.length-1]'(by omega)]:=by
  rw[qBx (by omega),qBx (by omega),qBx (by omega),List.drop_eq_nil_of_le (by omega)];simp only[qDt,and_true,true_and];exact⟨by congr 1;omega,by congr 1;omega⟩
 rw[<- e,qBX]
def qiq{s}(h:s.length<4):wk s=none:=by
 rw[ka];intro a i hi;have:=qaW hi.2.1;have:=qBv.2 this;rw[hi.2.2]at h;simp at h;omega
def qfF(s:Str)(hs:Fits s):Pure prog GG 393 [.str s] (qbi s):=by
 refine okzQ func393 rfl rfl ?_;by_cases h4:s.length<4
 . have h4':(s.length:Int)<4:=(by omega);rw[vH (qiq h4)];simp[h4']
 obtain⟨t,x,y,z,rfl⟩:=qyB (s:=s) (by omega);have hl:(t++[x,y,z]).length=t.length+3:=by simp
 rw[Fits,hl]at hs;rw[hl]at h4;have no:¬(x=91/\z=93/\48<=y.toNat/\y.toNat<56/\z8 t=true)->qbi (t++[x,y,z])=.tup [.str [],.int .i64 0,.bool false]:=by
  intro h;refine vH (ka.2 fun a i hi=>h ?_);obtain⟨e1,e2,e3⟩:=qdn hi;obtain⟨e4,e5⟩:=List.append_inj' e1 rfl;cases e5;subst e4;exact⟨rfl,rfl,by omega,by omega,hi.2.1⟩
 have h4':¬(t.length:Int)+3<4:=by omega
 have w1:IntKind.i64.wrap ((t.length:Int)+3-1)=((t.length+2:Nat):Int):=by rw[wr (by omega) (by omega)];omega
 have w2:IntKind.i64.wrap ((t.length:Int)+3-2)=((t.length+1:Nat):Int):=by rw[wr (by omega) (by omega)];omega
 have w3:IntKind.i64.wrap (t.length:Int)=t.length:=wr (by omega) (by omega);have g1:(t++[x,y,z])[t.length+2]?=some z:=by simp
 have g2:(t++[x,y,z])[t.length+1]?=some y:=by simp
 have g3:(t++[x,y,z])[t.length]?=some x:=by simp
 have g4:(t++[x,y,z]).take t.length=t:=by simp
 have n1:((t.length:Int)+2).toNat=t.length+2:=by omega
 have n2:((t.length:Int)+1).toNat=t.length+1:=by omega
 have p1:(0:Int)<=(t.length:Int)+2:=by omega
 have p2:(0:Int)<=(t.length:Int)+1:=by omega
 have hn210:=Qn t (show t.length<_ by omega);have yes:x=91->z=93->48<=y.toNat->y.toNat<56->z8 t=true->qbi (t++[x,y,z])=.tup [.str t,.int .i64 ((y.toNat:Int)-48),.bool true]:=by
  rintro rfl rfl h1 h2 h3;rw[Ji (qc0 h3 h1 h2 rfl)];congr 4;omega
 generalize hS:t++[x,y,z]=S at *;generalize t.length=T at *;have q1:=(qBa.1 g1).2;have q2:=(qBa.1 g2).2;have q3:=(qBa.1 g3).2;have le3:(T:Int)<=(T:Int)+3:=by omega
 by_cases hz:z=93
 . by_cases hx:x=91
   . subst hx hz;have wy1:IntKind.i64.wrap (y.toNat:Int)=y.toNat:=(by have:=y.toNat_lt;exact wr (by omega) (by omega));have wy2:IntKind.i64.wrap ((y.toNat:Int)-48)=y.toNat-48:=(by have:=y.toNat_lt;exact wr (by omega) (by omega));by_cases h1:48<=y.toNat
     . by_cases h2:y.toNat<56
       . have h1':¬(y.toNat:Int)-48<0:=(by omega);have h2':¬(8:Int)<=(y.toNat:Int)-48:=(by omega);simp[hl,h4',w1,w2,w3,q1,q2,q3,le3,g4,n1,n2,p1,p2,yF,wy1,wy2,h1',h2',zl,zS];refine qFJ hn210 rfl ?_;cases hnt:z8 t
         . rw[no (fun h=>by rw[hnt]at h;cases h.2.2.2.2)];simp
         rw[yes rfl rfl h1 h2 hnt];simp
       . rw[no (fun h=>h2 h.2.2.2.1)];have h1':¬(y.toNat:Int)-48<0:=(by omega);simp[hl,h4',w1,w2,w3,q1,q2,q3,le3,g4,n1,n2,p1,p2,yF,wy1,wy2,h1',show(8:Int)<=(y.toNat:Int)-48 by omega,zl,zS]
     rw[no (fun h=>h1 h.2.2.1)];simp[hl,h4',w1,w2,w3,q1,q2,q3,le3,g4,n1,n2,p1,p2,yF,wy1,wy2,show(y.toNat:Int)-48<0 by omega,zl,zS]
   . have hx':¬(x.toNat:Int)=91:=by
      intro e;exact hx (UInt8.toNat_inj.1 (by simp;omega))
     rw[no (fun h=>hx h.1)];subst hz;simp[hl,h4',w1,w2,w3,q1,q2,q3,n1,n2,p1,p2,hx']
 have hz':¬(z.toNat:Int)=93:=by
  intro e;exact hz (UInt8.toNat_inj.1 (by simp;omega))
 rw[no (fun h=>hz h.2.1)];simp[hl,h4',w1,w2,w3,q1,q2,q3,n1,n2,p1,p2,hz']
def qoa(s:Str)(hs:Fits s):Pure prog GG 374 [.str s] (.bool (wq s)):=by
 refine okzQ func374 rfl rfl ?_;simp
 cases he:wk s with
 | some p=>
  obtain⟨a,i⟩:=p;refine qFJ (by have:=qfF s hs;rw[Ji (wa.1 he)]at this;exact this) rfl ?_;simp[wq,he]
 | none=>
  refine qFJ (by have:=qfF s hs;rwa[vH he]at this) rfl ?_;simp;refine qFJ (Qn s hs) rfl ?_;simp[wq,he]
def qnV(s:Str)(hs:Fits s):Pure prog GG 227 [.str s] (.bool (wq s)):=by
 refine okzQ func227 rfl rfl ?_;simp;refine qFJ (Qn s hs) rfl ?_;cases hn:z8 s
 . simp;refine qFW (fun n env U=>∃k:Nat,1<=k/\k<=s.length+1/\n=s.length+1-k/\env 0=.str s/\env 3=.int .i64 k/\U=⟨[],[]⟩/\∀a i,jD s a i->¬a.length<k) s.length ⟨1,by simp,by simp,by simp,by simp,by simp,rfl,fun a i hi=>by have:=qBv.2 (qaW hi.2.1);omega⟩ ?_;rintro n env U ⟨k,hk1,hk,rfl,h0,h3,rfl,hall⟩;by_cases hlt:k<s.length
   . have hlt':(k:Int)<s.length:=(by omega);have step:(∀a i,jD s a i->a.length≠k)->∀a i,jD s a i->¬a.length<k+1:=fun h a i hi hl=>by
      rcases qCn.1 hl with h1|h1
      . exact hall a i hi h1
      exact h a i hi h1
     have at91:∀a i,jD s a i->a.length=k->s[k]=91/\s.take k=a:=fun a i hi hl=>by
      obtain⟨_,_,rfl⟩:=hi;subst hl;simp[zT]
     have hw:IntKind.i64.wrap ((k:Int)+1)=((k+1:Nat):Int):=(by rw[wr (by omega) (by omega)];omega);by_cases hc:s[k]=91
     . simp[h0,h3,hlt,hc,zl,zS,show k<=s.length by omega];refine qFJ (Qn (s.take k) (by simp;omega)) rfl ?_;cases ht:z8 (s.take k)
       . simp[h0,h3,hw];refine⟨_,by omega,k+1,by omega,by omega,rfl,rfl,fun a i hi=>Nat.not_lt.1 (step (fun a i hi hl=>?_) a i hi)⟩;have:=(at91 a i hi hl).2;rw[this,hi.2.1]at ht;cases ht
       simp[h0,h3];refine qFW (fun n env U=>∃i:Nat,i<=8/\n=8-i/\env 0=.str s/\env 3=.int .i64 k/\env 4=.int .i64 i/\U=⟨[],[]⟩/\∀j,j<i->s≠zT (s.take k) j) 8 ⟨0,by simp[h0,h3]⟩ ?_;rintro n env U ⟨i,hi,rfl,h0,h3,h4,rfl,hin⟩;by_cases h8:i<8
       . have h8':(i:Int)<8:=(by omega);simp[h0,h3,h4,h8',zl,zS,show(k:Int)<=s.length by omega];refine qFJ (JS (s.take k) i h8 (by have:=wF ht;omega)) rfl ?_;by_cases he:s=zT (s.take k) i
         . have hv:wq s=true:=(by simp[wq,vI (show jD s (s.take k) i from⟨h8,ht,he⟩)]);rw[<- he];simp[h0,hv]
         simp[h0,h3,h4,he];refine⟨_,by omega,i+1,by omega,rfl,wr (by omega) (by omega),?_⟩;intro j hj e;rcases qCn.1 hj with hj|rfl
         . exact hin j hj e
         exact he e
       have h8':¬(i:Int)<8:=(by omega);simp[h0,h3,h4,h8',hw];refine⟨_,by omega,k+1,by omega,by omega,rfl,rfl,fun a i hi=>Nat.not_lt.1 (step (fun a i' hi' hl=>?_) a i hi)⟩;have:=(at91 a i' hi' hl).2;exact hin i' (by have:=hi'.1;omega) (by rw[this];exact hi'.2.2)
     have hc':¬(s[k].toNat:Int)=91:=by
      intro e;exact hc (UInt8.toNat_inj.1 (by simp;omega))
     simp[h0,h3,hlt,hc',hw];refine⟨_,by omega,k+1,by omega,by omega,rfl,rfl,fun a i hi=>Nat.not_lt.1 (step (fun a i hi hl=>?_) a i hi)⟩;exact hc (at91 a i hi hl).1
   have hlt':¬(k:Int)<s.length:=(by omega);have hv:wq s=false:=by
    have:=ka.2 fun a i hi=>hall a i hi (by rw[hi.2.2]at hlt;simp at hlt;omega)
    simp[wq,hn,this]
   simp[h0,h3,hlt,hv]
 simp[wq,hn]
def qfN{S}{stp:S->Ex->S×Bool}{s:S}{e}:ZT stp s (pre e)=if(stp s e).2=true then ZT stp (stp s e).1 (wD e.args) else((stp s e).1,false):=by
 rw[jF,ZT]
def look{hd:List Blk}{c}(hc:hd.length=c){t k}:(hd++t)[c+k]?=t[k]?:=by
 subst hc;rw[qBm (by omega)];simp
def qnY{tail t:List Blk}{k:Nat}{b:Blk}(h:tail[k]?=some b):(tail++t)[k]?=some b:=by
 rw[qBq (qBa.1 h).1,h]
def Wen(e:Ex):Prop:=∀x∈pre e,Fits x.args/\Fits x.name
def Wen.fits{e}(h:Wen e):Fits e.args:=(h e (by rw[jF];simp)).1
def Wen.nm{e}(h:Wen e):Fits e.name:=(h e (by rw[jF];simp)).2
def Wen.arg{e a}(h:Wen e)(ha:a∈e.args):Wen a:=fun x hx=>h x (by rw[jF];exact qCK _ (Z6.2 ⟨a,ha,hx⟩))
section
variable {S:Type}{stp:S->Ex->S×Bool}{hd:S->List Blk}{T:S->List (Option Nat)}{c:Nat}{vf:FuncId}{cap:List AV}{m:S->Nat}
def qdK(stp:S->Ex->S×Bool)(hd:S->List Blk)(T:S->List (Option Nat))(vf:FuncId)(cap:List AV)(m:S->Nat):Prop :=
 ∀s tail e,Wen e->0<m s->qj prog GG vf (.agg (qp e)::cap) ⟨hd s++tail,T s⟩ (fun r U'=>r=.bool (stp s e).2/\∃t,U'=⟨hd (stp s e).1++(tail++t),T (stp s e).1⟩)
def qpK(hm:∀s e,m s<=m (stp s e).1+1):∀(s:S) (l),m s<=m (ZT stp s l).1+l.length
 |s,[]=>by simp[ZT]
 | s,e::r=>by
  simp only[ZT];split
  . have:=hm s e;have:=qpK hm (stp s e).1 r;simp;omega
  have:=hm s e;simp;omega
def qs4(hc:∀s,(hd s).length=c)(hm:∀s e,m s<=m (stp s e).1+1)(hv:qdK stp hd T vf cap m):∀e,Wen e->∀s tail kb kd,(pre e).length<=m s->tail[kb]?=some (.cells [.fn vf [] cap])->tail[kd]?=some (.cells [.fn 293 [] [.ptr (c+kb) 0,.ptr (c+kd) 0]]) ->
 qj prog GG 293 [.agg (qp e),.ptr (c+kb) 0,.ptr (c+kd) 0] ⟨hd s++tail,T s⟩ (fun r U'=>r=.bool (ZT stp s (pre e)).2/\∃t,U'=⟨hd (ZT stp s (pre e)).1++(tail++t),T (ZT stp s (pre e)).1⟩):=by
 refine qFX fun e ih hwe s tail kb kd hsz hb hd'=>?_
 rw[jF,qBr]at hsz;refine qj.vc qX func293 rfl (by kernel_rfl) ?_;have lx:∀s (t:List Blk) (x:Blk) (u:List Blk),(hd s++(tail++(t++x::u)))[c+(tail.length+t.length)]?=some x:=fun s t x u=>by
  rw[look (hc s),qBm (by omega),qBm (by omega)];simp
 have lx0:∀s (x:Blk) (u:List Blk),(hd s++(tail++(x::u)))[c+tail.length]?=some x:=fun s x u=>by
  have:=lx s [] x u;simpa using this
 simp[qc,hc,show ∀s t,(hd s++(tail++t))[c+kb]?=some (.cells [.fn vf [] cap]) from fun s t=>by rw[look (hc s),qnY hb],lx0];rw[<- qc e];refine qFN (hv s (tail++[.cells (qp e)]) e hwe (by omega)) ?_;rintro r U' ⟨rfl,t,rfl⟩;rw[show hd (stp s e).1++(tail++[Blk.cells (qp e)]++t)=hd (stp s e).1++(tail++(Blk.cells (qp e)::t)) by simp];cases hst:(stp s e).2
 . simp[qfN,hst]
 have hl:=hwe.fits;simp only[qc e];simp[hc];refine qFW (fun n env U=>∃i s' tl,i<=e.args.length/\n=e.args.length-i/\env 1=.ptr (c+kb) 0/\env 2=.ptr (c+kd) 0/\env 12=.sl 4 (e.args.map qp) .none/\env 13=.int .i64 e.args.length/\env 14=.int .i64 i/\U=⟨hd s'++(tail++tl),T s'⟩/\(wD (e.args.drop i)).length<=m s'/\ZT stp s (pre e)=ZT stp s' (wD (e.args.drop i))) e.args.length ⟨0,(stp s e).1,_,by simp,by simp,by simp,by simp,by simp,by simp,by simp,rfl,by have:=hm s e;simp;omega,by rw[qfN,hst];simp⟩ ?_;rintro n env U ⟨i,s',tl,hi,rfl,h1,h2,h12,h13,h14,rfl,hsz',hrun⟩
 cases hv':e.args[i]? with
 | none=>
  have hcn:¬i<e.args.length:=by simp at hv';omega
  rw[show e.args.drop i=[] by simp;omega]at hrun;simp[h12,h13,h14,hcn,hrun,ZT]
 | some a=>
  obtain⟨hcn,hve⟩:=qBa.1 hv';have hma:=qBb hv';rw[ze hv',yJ,KC]at hrun;rw[ze hv',yJ,qBe]at hsz';have hmr:=qpK hm s' (pre a);have set1:∀(z x:Blk),(hd s'++(tail++(tl++[z]))).set (c+(tail.length+tl.length)) x=hd s'++(tail++(tl++[x])):=fun z x=>by
   rw[qBO,if_neg (by rw[hc];omega),hc,qBO,if_neg (by omega),qBO,if_neg (by omega)];have:c+(tail.length+tl.length)-c-tail.length-tl.length=0:=by omega
   rw[this];rfl
  simp[h2,h12,h13,h14,hcn,hve,qc a,hc,set1,show ∀s t,(hd s++(tail++t))[c+kd]?=some (.cells [.fn 293 [] [.ptr (c+kb) 0,.ptr (c+kd) 0]]) from fun s t=>by rw[look (hc s),qnY hd']];rw[<- qc a];refine qFN (ih a hma (hwe.arg hma) s' (tail++(tl++[.cells (qp a)])) kb kd (by omega) (qnY hb) (qnY hd')) ?_;rintro r U' ⟨rfl,t',rfl⟩;cases hr:(ZT stp s' (pre a)).2
  . rw[hr]at hrun;simp only[qBE,if_false]at hrun;simp[hrun,hr]
  rw[hr]at hrun;simp only[if_true]at hrun;simp[h1,h2,h12,h13,h14];exact⟨_,by omega,i+1,by omega,rfl,wr (by omega) (by omega),_,⟨⟨_,rfl⟩,rfl⟩,by omega,hrun⟩
def qdW(hc:∀s,(hd s).length=c)(hm:∀s e,m s<=m (stp s e).1+1)(hv:qdK stp hd T vf cap m)(e)(hwe:Wen e)(s:S)(hsz:(pre e).length<=m s)(tail):
 qj prog GG 232 [.agg (qp e),.fn vf [] cap] ⟨hd s++tail,T s⟩ (fun r U'=>∃t,U'=⟨hd (ZT stp s (pre e)).1++(tail++t),T (ZT stp s (pre e)).1⟩):=by
 refine qj.vc qX func232 rfl (by kernel_rfl) ?_;have set2:∀(x y z w:Blk),(hd s++(tail++[x,y,z])).set (c+(tail.length+(1+1))) w=hd s++(tail++[x,y,w]):=fun x y z w=>by
  rw[qBO,if_neg (by rw[hc];omega),hc,qBO,if_neg (by omega)];have:c+(tail.length+(1+1))-c-tail.length=2:=by omega
  rw[this];rfl
 have l0:∀(x:Blk) (u:List Blk),(hd s++(tail++(x::u)))[c+tail.length]?=some x:=fun x u=>by
  rw[look (hc s),qBm (by omega)];simp
 have l2:∀(x y z:Blk) (u:List Blk),(hd s++(tail++(x::y::z::u)))[c+(tail.length+(1+1))]?=some z:=fun x y z u=>by
  rw[look (hc s),qBm (by omega)];have:tail.length+(1+1)-tail.length=2:=by omega
  rw[this];rfl
 simp[qc e,hc,l2];rw[<- qc e];have k:=qs4 hc hm hv e hwe s (tail++[.cells (qp e),.cells [.fn vf [] cap],.cells [.fn 293 [] [.ptr (c+(tail.length+1)) 0,.ptr (c+(tail.length+1)+1) 0]]]) (tail.length+1) (tail.length+1+1) hsz
  (by
    rw[qBm (by omega)];have:tail.length+1-tail.length=1:=by omega
    rw[this];rfl)
  (by
    rw[qBm (by omega)];have:tail.length+1+1-tail.length=2:=by omega
    rw[this];rfl)
 refine qFN k ?_;rintro r U' ⟨_,t,rfl⟩;exact⟨_,by rw[qBQ]⟩
end
def K9{α:Type}{R:Nat->α->Prop}:∀(n:Nat),(∀i,i<n->∃y,R i y)->∃l:List α,l.length=n/\∀i y,l[i]?=some y->R i y
 |0,_=>⟨[],rfl,by simp⟩
 | n+1,h=>by
  obtain⟨l,h1,h2⟩:=K9 n fun i hi=>h i (by omega)
  obtain⟨y,hy⟩:=h n (by omega);refine⟨l++[y],by simp[h1],fun i z hz=>?_⟩;rw[qCc]at hz;split at hz
  . exact h2 i z hz
  rename_i hi;have:i-l.length=0:=by
   rcases qCC (i-l.length) with h0|h0
   . exact h0
   rw[qBI (by simp;omega)]at hz;cases hz
  rw[this]at hz;cases hz;have:i=n:=by omega
  subst this;exact hy
section
variable {H:Type}{enc:TypeId×Value->H}{w:World}{base:Nat}{held:Bool}
abbrev KMw(w:World):Kn:=Go.Abs.K0 (qhL w)
def qi.get{K:Kn}:∀{l:List AV}{vs:List Value},qi K l vs->vs.length=l.length/\∀(j:Nat) (a:AV),l[j]?=some a->∃v,vs[j]?=some v/\qf K a v
 |[],_,h=>by simp only[qi]at h;subst h;simp
 | a::r,_,h=>by
  simp only[qi]at h;obtain⟨v,vr,rfl,h1,h2⟩:=h;obtain⟨k1,k2⟩:=qi.get h2;refine⟨by simp[k1],fun j b hj=>?_⟩
  cases j with
  |zero=>simp at hj;subst hj;exact⟨v,rfl,h1⟩
  |succ j=>simp at hj;exact k2 j b hj
def KJ{α:Type}{t e sz:Nat}{en:α->List AV}{good:α->Prop}{X:DataW H->Prop}{n:Nat}(ht:prog.underlying t=some (.slice e))(hsz:prog.cellsOf e=sz)(hpos:0<sz)
 (hat:∀y,(en y).all AV.atom=true/\(en y).length=sz)
 (hel:∀cs x,DataW.trod enc prog w base (fun _=>true) held n e cs=some x->X x.1->∃y,qi (KMw w) (en y) cs/\good y)
 {cs:List Value} {x:DataW H×List MemPlace} (h:DataW.trod enc prog w base (fun _=>true) held (n+1) t cs=some x) (hX:∀E S,x.1=.slice E S->∀d∈E,X d):
 ∃(l:List α) (v:Value),cs=[v]/\qf (KMw w) (.sl sz (l.map en) .none) v/\Fits l/\(∀y∈l,good y)/\∀N,(∀E S,x.1=.slice E S->E.length<=N)->l.length<=N:=by
 rcases DataW.trod_slice ht h with⟨rfl,rfl⟩|⟨a,len,cap,elems,rest,m,hm,rfl,rfl,hb,hl,hc,hlen,hel',hsp,_⟩
 . exact⟨[],_,rfl,by simp only[qf];exact .inl ⟨⟨none,rfl,.inl rfl⟩,rfl,trivial⟩,by simp,by simp,by simp⟩
 have hnm:n=m:=by omega
 subst hnm;rw[hsz]at hel' hsp;have one:∀i,i<len->∃y,∃cs',w.cells? base (a.add (i*sz)) sz=some cs'/\qi (KMw w) (en y) cs'/\good y:=by
  intro i hi;have:=hel' i hi;rw[qBc (by omega)]at this;obtain⟨cs',h1,h2⟩:=qCM.1 this;obtain⟨y,h3,h4⟩:=hel cs' _ h2 (hX _ _ rfl _ (List.mem_map_of_mem (qDf _)));exact⟨y,cs',h1,h3,h4⟩
 by_cases h0:cap=0
 . have hl0:len=0:=(by omega);subst h0 hl0;exact⟨[],_,rfl,by simp only[qf];exact .inl ⟨⟨some a,rfl,.inr trivial⟩,rfl,trivial⟩,by simp,by simp,by simp⟩
 have spot:a.spot=none:=by
  have rd:∃cs',w.cells? base (a.add 0) sz=some cs':=by
   by_cases hl0:0<len
   . obtain⟨_,cs',h1,_⟩:=one 0 hl0;rw[qCY]at h1;exact⟨cs',h1⟩
   obtain⟨hr1,hr2⟩:=hsp rfl;have:=hr2 0 (by omega);rw[qBc (by omega),show len+0=0 by omega,qCY]at this;obtain⟨cs',h1,_⟩:=qCM.1 this;exact⟨cs',h1⟩
  obtain⟨cs',h1⟩:=rd;obtain⟨_,hlen',hc'⟩:=World.cells?_some h1;have:=hc' 0 hpos;rw[qBc (by omega)]at this
  cases hs:a.spot with
  |none=>rfl
  | some s=>
   simp only[Addr.add,if_true]at this;unfold World.cell? at this;rw[hs]at this;split at this<;>simp at this
 obtain⟨b,o,s⟩:=a;simp only at spot;subst spot;obtain⟨l,hl1,hl2⟩:=K9 len one;refine⟨l,_,rfl,?_,by rw[Fits,hl1];simp only[maxLen]at hc;omega,fun y hy=>?_,fun N hN=>?_⟩
 . simp only[qf];refine .inr ⟨b,o,cap,by simp[hl1],by simpa[hl1] using hl,qF3 b sz _ o fun i r e=>?_,trivial⟩;rw[qBD,qBj]at e;obtain⟨y,hy,rfl⟩:=e;obtain⟨cs',h1,h2,_⟩:=hl2 i y hy;obtain⟨h3,h4⟩:=hat y;obtain⟨_,hlen',hc'⟩:=World.cells?_some h1;obtain⟨g1,g2⟩:=qi.get h2;refine⟨h4,h3,qF2 b _ _ fun j z hz=>?_⟩;obtain⟨v,hv1,hv2⟩:=g2 j z hz;have hjl:j<sz:=(by rw[<- hlen'];exact(qBa.1 hv1).1);refine⟨v,?_,hv2⟩;have:=hc' j hjl;rw[hv1]at this;show w.cell? ⟨b,o+i*sz+j,none⟩=some v;rw[<- this];congr 1;simp only[Addr.add];by_cases hi0:i*sz=0
   . rw[if_pos hi0];by_cases hj0:j=0
     . rw[if_pos hj0,hi0,hj0];simp
     rw[if_neg hj0,hi0];simp
   rw[if_neg hi0];by_cases hj0:j=0
   . rw[if_pos hj0,hj0];simp
   rw[if_neg hj0]
 . obtain⟨i,hi⟩:=qBT hy;obtain⟨_,_,_,hg⟩:=hl2 i y hi;exact hg
 have:=hN _ _ rfl;simp only[qBM]at this;omega
def vu{α:Type}{t e sz:Nat}{en:α->List AV}{good:α->Prop}{n:Nat}(ht:prog.underlying t=some (.slice e))(hsz:prog.cellsOf e=sz)(hpos:0<sz)
 (hat:∀y,(en y).all AV.atom=true/\(en y).length=sz)
 (hel:∀cs x,DataW.trod enc prog w base (fun _=>true) held n e cs=some x->∃y,qi (KMw w) (en y) cs/\good y)
 {cs:List Value} {x:DataW H×List MemPlace} (h:DataW.trod enc prog w base (fun _=>true) held (n+1) t cs=some x):
 ∃(l:List α) (v:Value),cs=[v]/\qf (KMw w) (.sl sz (l.map en) .none) v/\Fits l/\∀y∈l,good y:=by
 obtain⟨l,v,h1,h2,h3,h4,_⟩:=KJ (X:=fun _=>True) ht hsz hpos hat (fun cs x h _=>hel cs x h) h (fun _ _ _ _ _=>trivial);exact⟨l,v,h1,h2,h3,h4⟩
end
end Go.Proofs.YtafbccendejkeaaGreatDoor
namespace Go.Abs
open Go Go.RowKit
inductive Fr where
 |seq (y:Code)
 |block (id:Nat)
 |loop (n:Env->St->Prop)
 |scope
inductive Ct where
 |run (d lw:Bool) (rest:List Oper)
 |plan (ac:List Nat) (s:Sch)
section
variable (P:Program)(G:Glo)(o:Opts)
def itp:List Fr->(Exit->Env->St->Prop)->Exit->Env->St->Prop
 |[],Q=>Q
 |.seq y::ks,Q=>vl (fun env U=>vcC P G o y env U (itp ks Q)) (itp ks Q)
 |.block id::ks,Q=>vm id (itp ks Q)
 |.loop n::ks,Q=>vl n (itp ks Q)
 |.scope::ks,Q=>qqI (itp ks Q)
def kC(c:Code)(env:Env)(U:St)(ks:List Fr)(Q:Exit->Env->St->Prop):Prop:=vcC P G o c env U (itp P G o ks Q)
def kX(e:Exit)(env:Env)(U:St)(ks:List Fr)(Q:Exit->Env->St->Prop):Prop:=itp P G o ks Q e env U
def kT(ops:Array Oper)(ct:Ct)(env:Env)(U:St)(ks:List Fr)(Q:Exit->Env->St->Prop):Prop:=match ct with
 |.run d lw rest=>vcR P G o.mu ops d lw rest env U (fun env U=>itp P G o ks Q .normal env U)
 |.plan ac s=>vcS P G o.mu ac ops s env U (fun env U=>itp P G o ks Q .normal env U)
def kO(ops:Array Oper)(d:Bool)(op:Op)(dst:Option Nat)(ct:Ct)(env:Env)(U:St)(ks:List Fr)(Q:Exit->Env->St->Prop):Prop :=
 jT P G o.mu d op env U (fun v U'=>kT P G o ops ct (upd env dst v) U' ks Q)
def kS(ops:Array Oper)(x:Option (AV×St))(dst:Option Nat)(ct:Ct)(env:Env)(ks:List Fr)(Q:Exit->Env->St->Prop):Prop :=
 jO x (fun v U'=>kT P G o ops ct (upd env dst v) U' ks Q)
def kY(ops:Array Oper)(l:Option (List (AV×St)))(x:Option (AV×St))(dst:Option Nat)(ct:Ct)(env:Env)(ks:List Fr)(Q:Exit->Env->St->Prop):Prop :=
 vcX l x (fun v U'=>kT P G o ops ct (upd env dst v) U' ks Q)
def kFn(ops:Array Oper)(d:Bool)(f:AV)(args:List AV)(U:St)(dst:Option Nat)(ct:Ct)(env:Env)(ks:List Fr)(Q:Exit->Env->St->Prop):Prop :=
 qx7 P G d f args U (fun v U'=>kT P G o ops ct (upd env dst v) U' ks Q)
def qb(ops:Array Oper)(d:Bool)(g:FuncId)(args:List AV)(U:St)(dst:Option Nat)(ct:Ct)(env:Env)(ks:List Fr)(Q:Exit->Env->St->Prop):Prop :=
 qa P G d g args U (fun v U'=>kT P G o ops ct (upd env dst v) U' ks Q)
def kCd(v:AV)(x y:Code)(env:Env)(U:St)(ks:List Fr)(Q:Exit->Env->St->Prop):Prop:=match v with
 |.bool b=>(b=true->kC P G o x env U ks Q)/\(b=false->kC P G o y env U ks Q)
 |_=>False
def kGv(ops:Array Oper)(d:Bool)(t:Nat)(v:AV)(b:Bool)(op:Op)(dst:Option Nat)(ct:Ct)(env:Env)(U:St)(ks:List Fr)(Q:Exit->Env->St->Prop):Prop:=match v with
 |.bool c=>((c==b)=true->kO P G o ops d op dst ct (upd env (some t) (.bool b)) U ks Q)/\((c==b)=false->kT P G o ops ct (upd (upd env (some t) (.bool (!b))) dst (.tup [])) U ks Q)
 |.tup []=>kT P G o ops ct (upd env dst (.tup [])) U ks Q
 |_=>False
def kG(ops:Array Oper)(d:Bool)(x:Option Nat)(b:Bool)(op:Op)(dst:Option Nat)(ct:Ct)(env:Env)(U:St)(ks:List Fr)(Q:Exit->Env->St->Prop):Prop:=match x with
 |some t=>kGv P G o ops d t (env t) b op dst ct env U ks Q
 |none=>kT P G o ops ct (upd env dst (.tup [])) U ks Q
def qK(c:Code)(env:Env)(U:St)(ks:List Fr)(Q:Exit->Env->St->Prop):Prop:=qC P G o c env U (itp P G o ks Q)
def kP(ops:Array Oper)(x:Option Oper)(d:Bool)(ct:Ct)(env:Env)(U:St)(ks:List Fr)(Q:Exit->Env->St->Prop):Prop:=match x with
 |some u=>vcG P G o.mu d ops u env U (fun env v U'=>kT P G o ops ct (upd env u.dst v) U' ks Q)
 |none=>False
end
section
variable {P:Program}{G:Glo}{o:Opts}{env:Env}{U:St}{ks:List Fr}{Q:Exit->Env->St->Prop}
@[simp ↓]def qyR:kC P G o .skip env U ks Q=kX P G o .normal env U ks Q:=by simp only[kC,kX,vcC]
@[simp ↓]def qzU:kC P G o .ret env U ks Q=kX P G o .ret env U ks Q:=by simp only[kC,kX,vcC]
@[simp ↓]def qyT{id}:kC P G o (.exit id) env U ks Q=kX P G o (.exit id) env U ks Q:=by simp only[kC,kX,vcC]
@[simp ↓]def qzT{x y}:kC P G o (.seq x y) env U ks Q=kC P G o x env U (.seq y::ks) Q:=by simp only[kC,vcC,itp]
@[simp ↓]def qxj{id x}:kC P G o (.block id x) env U ks Q=kC P G o x env U (.block id::ks) Q:=by simp only[kC,vcC,itp]
@[simp ↓]def qxf{x}:kC P G o (.scope x) env U ks Q=kC P G o x env U (.scope::ks) Q:=by simp only[kC,vcC,itp]
@[simp ↓]def qxg{l}:kC P G o (.label l) env U ks Q=kX P G o .normal env U ks Q:=by simp only[kC,kX,vcC]
@[simp ↓]def qp5:kX P G o .ret env U (.scope::ks) Q=kX P G o .ret env U ks Q:=z0 rfl
@[simp ↓]def qyU{c x y}:kC P G o (.cond c x y) env U ks Q=kCd P G o (ev G env c) x y env U ks Q:=by
 simp only[kC,vcC,kCd,qho];split<;>simp_all[]
@[simp ↓]def qyS{x}:kC P G o (.loop x) env U ks Q=qK P G o x env U ks Q:=by simp only[kC,qK,vcC]<;>rfl
@[simp ↓]def qvt{id l}:kC P G o (.region id l.toArray false) env U ks Q=kT P G o l.toArray (.run false (o.lw.contains id) l) env U ks Q:=by simp only[kC,kT,vcC]
@[simp ↓ high]def qt2{id l}:kC P G o0 (.region id l.toArray false) env U ks Q=kT P G o0 l.toArray (.run false false l) env U ks Q:=by simp only[kC,kT,vcC];rfl
@[simp ↓ high]def qt1{m x y id l}:kC P G ⟨m,x,[],y⟩ (.region id l.toArray false) env U ks Q=kT P G ⟨m,x,[],y⟩ l.toArray (.run false false l) env U ks Q:=by simp only[kC,kT,vcC];rfl
@[simp ↓ high]def qxh{m y id l}:kC P G ⟨m,[],[],y⟩ (.region id l.toArray true) env U ks Q=kT P G ⟨m,[],[],y⟩ l.toArray (.run true false l) env U ks Q:=by simp[kC,kT,vcC]
@[simp ↓]def qxi{id l}:kC P G o0 (.region id l.toArray true) env U ks Q=kT P G o0 l.toArray (.run true false l) env U ks Q:=by simp[kC,kT,vcC,o0]
def JJ{id l}(h:o.fk.lookup id=none):kC P G o (.region id l.toArray true) env U ks Q=kT P G o l.toArray (.run true (o.lw.contains id) l) env U ks Q:=by simp only[kC,kT,vcC,h]
def qP{id}{l:List Oper}{s ac}(h:o.fk.lookup id=some (s,ac)):kC P G o (.region id l.toArray true) env U ks Q=kT P G o l.toArray (.plan ac s) env U ks Q:=by simp only[kC,kT,vcC,h]
@[simp]def qxd{x y}:kCd P G o (.bool true) x y env U ks Q=kC P G o x env U ks Q:=by simp[kCd]
@[simp]def qvs{x y}:kCd P G o (.bool false) x y env U ks Q=kC P G o y env U ks Q:=by simp[kCd]
@[simp low]def qxe{b x y}:kCd P G o (.bool b) x y env U ks Q=((b=true->kC P G o x env U ks Q)/\(b=false->kC P G o y env U ks Q)):=z0 rfl
@[simp ↓]def qzF{e}:kX P G o e env U [] Q=Q e env U:=z0 rfl
@[simp ↓]def qzE{y}:kX P G o .normal env U (.seq y::ks) Q=kC P G o y env U ks Q:=z0 rfl
@[simp ↓]def qtV{y}:kX P G o .ret env U (.seq y::ks) Q=kX P G o .ret env U ks Q:=z0 rfl
@[simp ↓]def qsr{y i}:kX P G o (.exit i) env U (.seq y::ks) Q=kX P G o (.exit i) env U ks Q:=z0 rfl
@[simp ↓]def qw3{id}:kX P G o .normal env U (.block id::ks) Q=kX P G o .normal env U ks Q:=z0 rfl
@[simp ↓]def qp7{id}:kX P G o .ret env U (.block id::ks) Q=kX P G o .ret env U ks Q:=z0 rfl
@[simp ↓]def qn5{id i}:kX P G o (.exit i) env U (.block id::ks) Q=if i=id then kX P G o .normal env U ks Q else kX P G o (.exit i) env U ks Q:=by
 simp only[kX,itp,vm]
@[simp ↓]def qyD{n}:kX P G o .normal env U (.loop n::ks) Q=n env U:=z0 rfl
@[simp ↓]def qss{n}:kX P G o .ret env U (.loop n::ks) Q=kX P G o .ret env U ks Q:=z0 rfl
@[simp ↓]def qp6{n i}:kX P G o (.exit i) env U (.loop n::ks) Q=kX P G o (.exit i) env U ks Q:=z0 rfl
end
section
variable {P:Program}{G:Glo}{o:Opts}{ops:Array Oper}{d lw:Bool}{env:Env}{U:St}{ks:List Fr}{Q:Exit->Env->St->Prop}{dst:Option Nat}{op:Op}{ct:Ct}
@[simp ↓]def qzH:kT P G o ops (.run d lw []) env U ks Q=kX P G o .normal env U ks Q:=z0 rfl
@[simp ↓]def qzG{type pos}{after:Array Edge}{rest}:
 kT P G o ops (.run d false ({dst:=dst,op:=op,type:=type,pos:=pos,after:=after,guard:=none}::rest)) env U ks Q=kO P G o ops d op dst (.run d false rest) env U ks Q:=by
 simp only[kT,kO];rw[qq1]
@[simp ↓]def qw4{type pos}{after:Array Edge}{rest j b}:
 kT P G o ops (.run d false ({dst:=dst,op:=op,type:=type,pos:=pos,after:=after,guard:=some (j,b)}::rest)) env U ks Q=kG P G o ops d ((ops[j]?).bind (·.dst)) b op dst (.run d false rest) env U ks Q:=by
 simp only[kT];rw[qi0];unfold vW kG;generalize (ops[j]?).bind (·.dst)=x
 cases x with
 |none=>rfl
 | some t=>
  simp only[kGv];generalize env t=v
  cases v with
  |tup vs=>cases vs<;>rfl
  |_=>rfl
@[simp ↓]def qyG{ac}:kT P G o ops (.plan ac .done) env U ks Q=kX P G o .normal env U ks Q:=by simp only[kT,vcS,kX]
@[simp ↓]def qyE{ac dp k s}:kT P G o ops (.plan ac (.step k dp s)) env U ks Q=kP P G o ops (ops[k]?) (match ops[k]? with|some u=>zc o.mu ac k u.op != 9|none=>false) (.plan ac s) env U ks Q:=by
 simp only[kT,vcS,kP];split<;>rename_i h<;>simp[h]
@[simp]def qzI{type pos}{after:Array Edge}:kP P G o ops (some {dst:=dst,op:=op,type:=type,pos:=pos,after:=after,guard:=none}) d ct env U ks Q=kO P G o ops d op dst ct env U ks Q:=by
 simp only[kP,vcG,kO]
@[simp]def qyQ{t b}:kG P G o ops d (some t) b op dst ct env U ks Q=kGv P G o ops d t (env t) b op dst ct env U ks Q:=z0 rfl
@[simp]def qyP{t b}:kGv P G o ops d t (.tup []) b op dst ct env U ks Q=kT P G o ops ct (upd env dst (.tup [])) U ks Q:=z0 rfl
@[simp]def qzO{t}:kGv P G o ops d t (.bool true) true op dst ct env U ks Q=kO P G o ops d op dst ct (upd env (some t) (.bool true)) U ks Q:=by simp[kGv]
@[simp]def qzR{t}:kGv P G o ops d t (.bool false) false op dst ct env U ks Q=kO P G o ops d op dst ct (upd env (some t) (.bool false)) U ks Q:=by simp[kGv]
@[simp]def qzP{t}:kGv P G o ops d t (.bool true) false op dst ct env U ks Q=kT P G o ops ct (upd (upd env (some t) (.bool true)) dst (.tup [])) U ks Q:=by simp[kGv]
@[simp]def qzQ{t}:kGv P G o ops d t (.bool false) true op dst ct env U ks Q=kT P G o ops ct (upd (upd env (some t) (.bool false)) dst (.tup [])) U ks Q:=by simp[kGv]
@[simp low]def qxc{t c}:kGv P G o ops d t (.bool c) true op dst ct env U ks Q=((c=true->kO P G o ops d op dst ct (upd env (some t) (.bool true)) U ks Q)/\(c=false->kT P G o ops ct (upd (upd env (some t) (.bool false)) dst (.tup [])) U ks Q)):=by simp[kGv]
@[simp low]def qvr{t c}:kGv P G o ops d t (.bool c) false op dst ct env U ks Q=((c=false->kO P G o ops d op dst ct (upd env (some t) (.bool false)) U ks Q)/\(c=true->kT P G o ops ct (upd (upd env (some t) (.bool true)) dst (.tup [])) U ks Q)):=by simp[kGv]
@[simp]def qyH{v U}:kS P G o ops (some (v,U)) dst ct env ks Q=kT P G o ops ct (upd env dst v) U ks Q:=z0 rfl
@[simp]def qyI:kS P G o ops none dst ct env ks Q=False:=z0 rfl
@[simp]def qyC{x}:kY P G o ops none x dst ct env ks Q=kS P G o ops x dst ct env ks Q:=by simp only[kY,kS];rw[qam]
@[simp]def qzD{v τ x}:kY P G o ops (some [(v,τ)]) x dst ct env ks Q=kT P G o ops ct (upd env dst v) τ ks Q:=by simp only[kY];rw[qqZ]
@[simp]def qzC{v v' τ τ' x}:kY P G o ops (some [(v,τ),(v',τ')]) x dst ct env ks Q=(kT P G o ops ct (upd env dst v) τ ks Q/\kT P G o ops ct (upd env dst v') τ' ks Q):=by simp only[kY];rw[qqY]
@[simp]def qzS{g first args cap}:kFn P G o ops d (.fn g first cap) args U dst ct env ks Q=qb P G o ops d g (kg first args cap) U dst ct env ks Q:=z0 rfl
@[simp ↓]def qyO{f a t}:kO P G o ops d (.call {callee:=.value f,args:=a,argTypes:=t}) dst ct env U ks Q=kFn P G o ops d (ev G env f) (qbE G env a.toList) U dst ct env ks Q:=z0 rfl
@[simp ↓]def qyL{x}:kO P G o ops d (.move x) dst ct env U ks Q=kS P G o ops (sem (Dof P) G env U (.move x)) dst ct env ks Q:=by simp only[kO,kS];rw[qi3]
@[simp ↓]def qvq{x}:kO P G o ops d (.assign x) dst ct env U ks Q=kS P G o ops (sem (Dof P) G env U (.assign x)) dst ct env ks Q:=by simp only[kO,kS];rw[qd1]
@[simp ↓]def qyK{a b c}:kO P G o ops d (.pick a b c) dst ct env U ks Q=kS P G o ops (sem (Dof P) G env U (.pick a b c)) dst ct env ks Q:=by simp only[kO,kS];rw[qi2]
@[simp ↓]def qxb{t}:kO P G o ops d (.alloc t) dst ct env U ks Q=kS P G o ops (sem (Dof P) G env U (.alloc t)) dst ct env ks Q:=by simp only[kO,kS];rw[qhn]
@[simp ↓]def qzN{t x}:kO P G o ops d (.box t x) dst ct env U ks Q=kS P G o ops (sem (Dof P) G env U (.box t x)) dst ct env ks Q:=by simp only[kO,kS];rw[qmD]
@[simp ↓]def qw9{t p}:kO P G o ops d (.build t p) dst ct env U ks Q=kS P G o ops (sem (Dof P) G env U (.build t p)) dst ct env ks Q:=by simp only[kO,kS];rw[qhl]
@[simp ↓]def qn9{t n p}:kO P G o ops d (.buildSlice t n p) dst ct env U ks Q=kS P G o ops (sem (Dof P) G env U (.buildSlice t n p)) dst ct env ks Q:=by simp only[kO,kS];rw[Kg]
@[simp ↓]def qyM{t x}:kO P G o ops d (.load t x) dst ct env U ks Q=kS P G o ops (sem (Dof P) G env U (.load t x)) dst ct env ks Q:=by simp only[kO,kS];rw[qi4]
@[simp ↓]def qw5{t x y}:kO P G o ops d (.store t x y) dst ct env U ks Q=kS P G o ops (sem (Dof P) G env U (.store t x y)) dst ct env ks Q:=by simp only[kO,kS];rw[qhh]
@[simp ↓]def qst{x}:kO P G o ops d (.nilCheck x) dst ct env U ks Q=kS P G o ops (sem (Dof P) G env U (.nilCheck x)) dst ct env ks Q:=by simp only[kO,kS];rw[qan]
@[simp ↓]def qxa{b t u x y}(h:b≠.eql)(h':b≠.neq):kO P G o ops d (.binOp b t x y u) dst ct env U ks Q=kS P G o ops (sem (Dof P) G env U (.binOp b t x y u)) dst ct env ks Q:=by simp only[kO,kS];rw[qhm h h']
@[simp ↓]def qzM{t u x y}:kO P G o ops d (.binOp .eql t x y u) dst ct env U ks Q=kY P G o ops (qkn d false (Dof P) t (ev G env x) (ev G env y) U) (sem (Dof P) G env U (.binOp .eql t x y u)) dst ct env ks Q:=by simp only[kO,kY];rw[qmB]
@[simp ↓]def qzJ{t u x y}:kO P G o ops d (.binOp .neq t x y u) dst ct env U ks Q=kY P G o ops (qkn d true (Dof P) t (ev G env x) (ev G env y) U) (sem (Dof P) G env U (.binOp .neq t x y u)) dst ct env ks Q:=by simp only[kO,kY];rw[qmy]
@[simp ↓]def qyJ{u t x}:kO P G o ops d (.unOp u t x) dst ct env U ks Q=kS P G o ops (sem (Dof P) G env U (.unOp u t x)) dst ct env ks Q:=by simp only[kO,kS];rw[qi1]
@[simp ↓]def qtY{t u x}:kO P G o ops d (.convert t u x) dst ct env U ks Q=kS P G o ops (sem (Dof P) G env U (.convert t u x)) dst ct env ks Q:=by simp only[kO,kS];rw[qbU]
@[simp ↓]def qsu{f:Fn}{a b}:kO P G o ops d (.makeFunc f a b) dst ct env U ks Q=kS P G o ops (sem (Dof P) G env U (.makeFunc f a b)) dst ct env ks Q:=by simp only[kO,kS];rw[qao]
@[simp ↓]def qtW{t r}:kO P G o ops d (.makeMap t r) dst ct env U ks Q=kS P G o ops (sem (Dof P) G env U (.makeMap t r)) dst ct env ks Q:=by simp only[kO,kS];rw[qbS]
def Z9{t x y}(hmu:o.mu=false):kO P G o ops d (.makeSlice t x y) dst ct env U ks Q=kS P G o ops (sem (Dof P) G env U (.makeSlice t x y)) dst ct env ks Q:=by
 simp only[kO,kS];cases d
 . rw[Zc,hmu,qkr,qam]
 rw[Kf]
@[simp ↓]def qn7{u lw v t x y}:kO P G ⟨false,u,lw,v⟩ ops d (.makeSlice t x y) dst ct env U ks Q=kS P G ⟨false,u,lw,v⟩ ops (sem (Dof P) G env U (.makeSlice t x y)) dst ct env ks Q:=Z9 rfl
@[simp ↓]def qn8{t x y}:kO P G o0 ops d (.makeSlice t x y) dst ct env U ks Q=kS P G o0 ops (sem (Dof P) G env U (.makeSlice t x y)) dst ct env ks Q:=Z9 rfl
@[simp ↓]def qn6{u lw v t x y}:kO P G ⟨true,u,lw,v⟩ ops false (.makeSlice t x y) dst ct env U ks Q=kY P G ⟨true,u,lw,v⟩ ops (mkX (Dof P) true U t (ev G env x) (ev G env y)) (sem (Dof P) G env U (.makeSlice t x y)) dst ct env ks Q:=by simp only[kO,kY];rw[Zc]
@[simp ↓]def qw6{t x lo hi mx}:kO P G o ops d (.slice t x lo hi mx) dst ct env U ks Q=kS P G o ops (sem (Dof P) G env U (.slice t x lo hi mx)) dst ct env ks Q:=by simp only[kO,kS];rw[qhi]
@[simp ↓]def qqa{t x i}:kO P G o ops d (.fieldAddr t x i) dst ct env U ks Q=kS P G o ops (sem (Dof P) G env U (.fieldAddr t x i)) dst ct env ks Q:=by simp only[kO,kS];rw[W2]
@[simp ↓]def qw8{t x i}:kO P G o ops d (.field t x i) dst ct env U ks Q=kS P G o ops (sem (Dof P) G env U (.field t x i)) dst ct env ks Q:=by simp only[kO,kS];rw[qhk]
@[simp ↓]def qp9{t x y}:kO P G o ops d (.indexAddr t x y) dst ct env U ks Q=kS P G o ops (sem (Dof P) G env U (.indexAddr t x y)) dst ct env ks Q:=by simp only[kO,kS];rw[W0]
@[simp ↓]def qw7{t x y}:kO P G o ops d (.index t x y) dst ct env U ks Q=kS P G o ops (sem (Dof P) G env U (.index t x y)) dst ct env ks Q:=by simp only[kO,kS];rw[qhj]
@[simp ↓]def qvp{t x y k}:kO P G o ops d (.lookup t x y k) dst ct env U ks Q=kS P G o ops (sem (Dof P) G env U (.lookup t x y k)) dst ct env ks Q:=by simp only[kO,kS];rw[qd0]
@[simp ↓]def qp8{t x y z}:kO P G o ops d (.mapUpdate t x y z) dst ct env U ks Q=kS P G o ops (sem (Dof P) G env U (.mapUpdate t x y z)) dst ct env ks Q:=by simp only[kO,kS];rw[WZ]
@[simp ↓]def qtX{x i}:kO P G o ops d (.extract x i) dst ct env U ks Q=kS P G o ops (sem (Dof P) G env U (.extract x i)) dst ct env ks Q:=by simp only[kO,kS];rw[qbT]
@[simp ↓]def qzL{a t}:kO P G o ops d (.call {callee:=.builtin .len,args:=a,argTypes:=t}) dst ct env U ks Q=kS P G o ops (sem (Dof P) G env U (.call {callee:=.builtin .len,args:=a,argTypes:=t})) dst ct env ks Q:=by simp only[kO,kS];rw[qmA]
@[simp ↓]def qzK{a t}:kO P G o ops d (.call {callee:=.builtin .min,args:=a,argTypes:=t}) dst ct env U ks Q=kS P G o ops (sem (Dof P) G env U (.call {callee:=.builtin .min,args:=a,argTypes:=t})) dst ct env ks Q:=by simp only[kO,kS];rw[qmz]
@[simp ↓]def qkG{a t}(hmu:o.mu=false):kO P G o ops d (.call {callee:=.builtin .append,args:=a,argTypes:=t}) dst ct env U ks Q=kS P G o ops (sem (Dof P) G env U (.call {callee:=.builtin .append,args:=a,argTypes:=t})) dst ct env ks Q:=by simp only[kO,kS,hmu];rw[qd2]
@[simp ↓]def qtZ{s x t u}(hmu:o.mu=true):kO P G o ops false (.call {callee:=.builtin .append,args:=#[s,x],argTypes:=#[t,u]}) dst ct env U ks Q=kY P G o ops ((zr (Dof P) U t u (ev G env s) (ev G env x)).map fun p=>[p]) (sem (Dof P) G env U (.call {callee:=.builtin .append,args:=#[s,x],argTypes:=#[t,u]})) dst ct env ks Q:=by simp only[kO,kY,hmu];rw[qbV]
@[simp ↓]def qyN{x y t u}:kO P G o ops false (.call {callee:=.builtin .copy,args:=#[x,y],argTypes:=#[t,u]}) dst ct env U ks Q=kY P G o ops ((kE (Dof P) U t (ev G env x) (ev G env y)).map fun p=>[p]) none dst ct env ks Q:=by simp only[kO,kY];rw[qi5]
@[simp ↓]def qt0{a t}:kO P G o0 ops d (.call {callee:=.builtin .append,args:=a,argTypes:=t}) dst ct env U ks Q=kS P G o0 ops (sem (Dof P) G env U (.call {callee:=.builtin .append,args:=a,argTypes:=t})) dst ct env ks Q:=qkG rfl
end
section
@[simp]def qxK  : AV.atom (.any)=false:=rfl
@[simp]def qtu  : qV (.any)=none:=rfl
@[simp]def qyu  : pl1 (.any)=.any:=rfl
@[simp]def qyo  : pl2 (.any)=.any:=rfl
@[simp]def qu0  : plain (.any)=.any:=rfl
@[simp]def qxC  {H}:k0 H (.any)=.any:=rfl
@[simp]def qxw  {H}:vU H (.any)=.any:=rfl
@[simp]def qy8  {H}:fin H (.any)=.any:=rfl
@[simp]def qwh{b}:AV.atom (.bool b)=true:=rfl
@[simp]def qqG{b}:qV (.bool b)=some [.bool b]:=rfl
@[simp]def qwW{b}:pl1 (.bool b)=.bool b:=rfl
@[simp]def qwQ{b}:pl2 (.bool b)=.bool b:=rfl
@[simp]def qtR{b}:plain (.bool b)=.bool b:=rfl
@[simp]def qvS{b H}:k0 H (.bool b)=.bool b:=rfl
@[simp]def qvM{b H}:vU H (.bool b)=.bool b:=rfl
@[simp]def qxr{b H}:fin H (.bool b)=.bool b:=rfl
@[simp]def qxJ{k n}:AV.atom (.int k n)=true:=rfl
@[simp]def qtt{k n}:qV (.int k n)=some [.int k n]:=rfl
@[simp]def qyt{k n}:pl1 (.int k n)=.int k n:=rfl
@[simp]def qyn{k n}:pl2 (.int k n)=.int k n:=rfl
@[simp]def quZ{k n}:plain (.int k n)=.int k n:=rfl
@[simp]def qxB{k n H}:k0 H (.int k n)=.int k n:=rfl
@[simp]def qxv{k n H}:vU H (.int k n)=.int k n:=rfl
@[simp]def qy7{k n H}:fin H (.int k n)=.int k n:=rfl
@[simp]def qxG{s:List UInt8}:AV.atom (.str s)=true:=rfl
@[simp]def qtq{s:List UInt8}:qV (.str s)=some [.str s]:=rfl
@[simp]def qyq{s:List UInt8}:pl1 (.str s)=.str s:=rfl
@[simp]def qyk{s:List UInt8}:pl2 (.str s)=.str s:=rfl
@[simp]def quW{s:List UInt8}:plain (.str s)=.str s:=rfl
@[simp]def qxy{s:List UInt8}{H}:k0 H (.str s)=.str s:=rfl
@[simp]def qxs{s:List UInt8}{H}:vU H (.str s)=.str s:=rfl
@[simp]def qy4{s:List UInt8}{H}:fin H (.str s)=.str s:=rfl
@[simp]def qwd  : AV.atom (.nilp)=true:=rfl
@[simp]def qqC  : qV (.nilp)=some [.nilp]:=rfl
@[simp]def qwS  : pl1 (.nilp)=.nilp:=rfl
@[simp]def qwM  : pl2 (.nilp)=.nilp:=rfl
@[simp]def qtN  : plain (.nilp)=.nilp:=rfl
@[simp]def qvO  {H}:k0 H (.nilp)=.nilp:=rfl
@[simp]def qvI  {H}:vU H (.nilp)=.nilp:=rfl
@[simp]def qxn  {H}:fin H (.nilp)=.nilp:=rfl
@[simp]def qxH{b o}:AV.atom (.ptr b o)=true:=rfl
@[simp]def qtr{b o}:qV (.ptr b o)=some [.ptr b o]:=rfl
@[simp]def qyr{b o}:pl1 (.ptr b o)=.ptr b o:=rfl
@[simp]def qyl{b o}:pl2 (.ptr b o)=.ptr b o:=rfl
@[simp]def quX{b o}:plain (.ptr b o)=.ptr b o:=rfl
@[simp]def qxz{b o H}:k0 H (.ptr b o)=.ptr b o:=rfl
@[simp]def qxt{b o H}:vU H (.ptr b o)=.ptr b o:=rfl
@[simp]def qy5{b o H}:fin H (.ptr b o)=.ptr b o:=rfl
@[simp]def qwc{c}:AV.atom (.rptr c)=true:=rfl
@[simp]def qqB{c}:qV (.rptr c)=some [.rptr c]:=rfl
@[simp]def qwR{c}:pl1 (.rptr c)=.rptr c:=rfl
@[simp]def qwL{c}:pl2 (.rptr c)=.rptr c:=rfl
@[simp]def qtM{c}:plain (.rptr c)=.rptr c:=rfl
@[simp]def qvN{c H}:k0 H (.rptr c)=.rptr c:=rfl
@[simp]def qvG{c H}:vU H (.rptr c)=.rptr c:=rfl
@[simp]def qxl{c H}:fin H (.rptr c)=.rptr c:=rfl
@[simp]def qwe  : AV.atom (.nilm)=true:=rfl
@[simp]def qqD  : qV (.nilm)=some [.nilm]:=rfl
@[simp]def qwT  : pl1 (.nilm)=.nilm:=rfl
@[simp]def qwN  : pl2 (.nilm)=.nilm:=rfl
@[simp]def qtO  : plain (.nilm)=.nilm:=rfl
@[simp]def qvP  {H}:k0 H (.nilm)=.nilm:=rfl
@[simp]def qvJ  {H}:vU H (.nilm)=.nilm:=rfl
@[simp]def qxo  {H}:fin H (.nilm)=.nilm:=rfl
@[simp]def qxI{b}:AV.atom (.map b)=true:=rfl
@[simp]def qts{b}:qV (.map b)=some [.map b]:=rfl
@[simp]def qys{b}:pl1 (.map b)=.map b:=rfl
@[simp]def qym{b}:pl2 (.map b)=.map b:=rfl
@[simp]def quY{b}:plain (.map b)=.map b:=rfl
@[simp]def qxA{b H}:k0 H (.map b)=.map b:=rfl
@[simp]def qxu{b H}:vU H (.map b)=.map b:=rfl
@[simp]def qy6{b H}:fin H (.map b)=.map b:=rfl
@[simp]def qwg{b}:AV.atom (.iter b)=true:=rfl
@[simp]def qqF{b}:qV (.iter b)=some [.iter b]:=rfl
@[simp]def qwV{b}:pl1 (.iter b)=.iter b:=rfl
@[simp]def qwP{b}:pl2 (.iter b)=.iter b:=rfl
@[simp]def qtQ{b}:plain (.iter b)=.iter b:=rfl
@[simp]def qvR{b H}:k0 H (.iter b)=.iter b:=rfl
@[simp]def qvL{b H}:vU H (.iter b)=.iter b:=rfl
@[simp]def qxq{b H}:fin H (.iter b)=.iter b:=rfl
@[simp]def qzi{f a c}:AV.atom (.fn f a c)=true:=rfl
@[simp]def qub{f a c}:qV (.fn f a c)=some [.fn f a c]:=rfl
@[simp]def qzz{f a c}:pl1 (.fn f a c)=.fn f a c:=rfl
@[simp]def qzx{f a c}:pl2 (.fn f a c)=.fn f a c:=rfl
@[simp]def qwK{f a c}:plain (.fn f a c)=.fn f a c:=rfl
@[simp]def qzb{f a c H}:k0 H (.fn f a c)=.fn f a c:=rfl
@[simp]def qza{f a c H}:vU H (.fn f a c)=.fn f a c:=rfl
@[simp]def qzW{f a c H}:fin H (.fn f a c)=.fn f a c:=rfl
@[simp]def qwf  : AV.atom (.nilf)=true:=rfl
@[simp]def qqE  : qV (.nilf)=some [.nilf]:=rfl
@[simp]def qwU  : pl1 (.nilf)=.nilf:=rfl
@[simp]def qwO  : pl2 (.nilf)=.nilf:=rfl
@[simp]def qtP  : plain (.nilf)=.nilf:=rfl
@[simp]def qvQ  {H}:k0 H (.nilf)=.nilf:=rfl
@[simp]def qvK  {H}:vU H (.nilf)=.nilf:=rfl
@[simp]def qxp  {H}:fin H (.nilf)=.nilf:=rfl
@[simp]def qzg{sz rows tok}:AV.atom (.sl sz rows tok)=true:=rfl
@[simp]def qt9{sz rows tok}:qV (.sl sz rows tok)=some [.sl sz rows tok]:=rfl
@[simp]def qrS{sz rows}  : pl1 (.sl sz rows .none)=.sl sz rows .none:=rfl
@[simp]def qrR{sz rows}  : pl2 (.sl sz rows .none)=.sl sz rows .none:=rfl
@[simp]def qnL{sz rows}  : plain (.sl sz rows .none)=.sl sz rows .none:=rfl
@[simp]def qqi{sz rows H}:k0 H (.sl sz rows .none)=.sl sz rows .none:=rfl
@[simp]def qqh{sz rows H}:vU H (.sl sz rows .none)=.sl sz rows .none:=rfl
@[simp]def qsR{sz rows H}:fin H (.sl sz rows .none)=.sl sz rows .none:=rfl
@[simp]def qtT{sz rows}  : pl1 (.sl sz rows .nil)=.sl sz rows .nil:=rfl
@[simp]def qtS{sz rows}  : pl2 (.sl sz rows .nil)=.sl sz rows .nil:=rfl
@[simp]def qpQ{sz rows}  : plain (.sl sz rows .nil)=.sl sz rows .nil:=rfl
@[simp]def qsU{sz rows H}:k0 H (.sl sz rows .nil)=.sl sz rows .nil:=rfl
@[simp]def qsT{sz rows H}:vU H (.sl sz rows .nil)=.sl sz rows .nil:=rfl
@[simp]def qt4{sz rows H}:fin H (.sl sz rows .nil)=.sl sz rows .nil:=rfl
@[simp]def qpT{sz rows}  : pl1 (.sl sz rows .tight)=.sl sz rows .tight:=rfl
@[simp]def qpR{sz rows}  : pl2 (.sl sz rows .tight)=.sl sz rows .tight:=rfl
@[simp]def qmn{sz rows}  : plain (.sl sz rows .tight)=.sl sz rows .tight:=rfl
@[simp]def qox{sz rows H}:k0 H (.sl sz rows .tight)=.sl sz rows .tight:=rfl
@[simp]def qov{sz rows H}:vU H (.sl sz rows .tight)=.sl sz rows .tight:=rfl
@[simp]def qqf{sz rows H}:fin H (.sl sz rows .tight)=.sl sz rows .tight:=rfl
@[simp]def qpU{sz rows t k}:pl1 (.sl sz rows (.chain t k))=.sl sz rows .none:=rfl
@[simp]def qpS{sz rows t k}:pl2 (.sl sz rows (.chain t k))=.sl sz rows .none:=rfl
@[simp]def qmo{sz rows t k}:plain (.sl sz rows (.chain t k))=.sl sz rows .none:=rfl
@[simp]def qoy{sz rows t k H}:k0 H (.sl sz rows (.chain t k))=.sl sz rows .none:=rfl
@[simp]def qow{sz rows t k H}:vU H (.sl sz rows (.chain t k))=.sl sz rows .none:=rfl
@[simp]def qqg{sz rows t k H}:fin H (.sl sz rows (.chain t k))=.sl sz rows .none:=rfl
@[simp]def qzh{b o l z}:AV.atom (.ms b o l z)=true:=rfl
@[simp]def qua{b o l z}:qV (.ms b o l z)=some [.ms b o l z]:=rfl
@[simp]def qzy{b o l z}:pl1 (.ms b o l z)=.ms b o l z:=rfl
@[simp]def qzw{b o l z}:pl2 (.ms b o l z)=.ms b o l z:=rfl
@[simp]def qwJ{b o l z}:plain (.ms b o l z)=.ms b o l z:=rfl
@[simp]def qxL{c}:AV.atom (.agg c)=false:=rfl
@[simp]def qxF{c}:AV.atom (.tup c)=false:=rfl
@[simp]def qtv{c}:qV (.agg c)=if c.all AV.atom=true then some c else none:=rfl
@[simp]def qt8{c}:qV (.tup c)=none:=rfl
@[simp]def qyp{c}:pl2 (.agg c)=.agg (c.map pl1):=rfl
@[simp]def qu1{c}:plain (.agg c)=.agg (c.map pl1):=rfl
@[simp]def qxx{c H}:vU H (.agg c)=.agg (c.map (k0 H)):=rfl
@[simp]def qy9{c H}:fin H (.agg c)=.agg (c.map (k0 H)):=rfl
@[simp]def quV{c}:plain (.tup c)=.tup (c.map pl2):=rfl
@[simp]def qy3{c H}:fin H (.tup c)=.tup (c.map (vU H)):=rfl
end
attribute [simp] qEZ qDG
attribute [simp] zt zX qM qe ql qZ JF qR TD.isSl TD.isPtr TD.isMap TD.isFn
section
variable {A t:List Blk}{k:Nat}{x:Blk}
@[simp]def qzk:(A++t)[A.length]?=t[0]?:=by rw[qBm (qBl _),qB9]
@[simp]def qzj:(A++t)[A.length+k]?=t[k]?:=by rw[qBm (by omega)];congr 1;try omega
def qd(h:A[k]?=some x)(t):(A++t)[k]?=some x:=by rw[qBq (qBa.1 h).1,h]
def kI{b}(h:A[b]?=some x)(t y):(A++t).set b y=A.set b y++t:=List.set_append_left _ _ (qBa.1 h).1
end
section
variable {P:Program}{G:Glo}{U:St}{f:FuncId}{args:List AV}{r:AV}
def Pure.kO {G : Nat → AV} {fn : Func} {c : Code} (o : Opts) (deep : Bool) (hm : P.follows .mixedOrders = true) (hf : P.funcs[f]? = some fn) (hb : fn.body = some c) (hk : (jI fn.ntmps o c && decide (args.length ≤ fn.ntmps) && fn.name != "runtime.NumGoroutine") = true)
 (h:kC P G o c (Za args) ⟨[],[]⟩ [] (Wn P deep fn.results.toList r)):Pure P G f args r:=Pure.vcO o deep hm hf hb hk h
def qFx:=@Pure.kO
def Pure.k {G : Nat → AV} {fn : Func} {c : Code} (hm : P.follows .mixedOrders = true) (hf : P.funcs[f]? = some fn) (hb : fn.body = some c) (hk : (jI fn.ntmps o0 c && decide (args.length ≤ fn.ntmps) && fn.name != "runtime.NumGoroutine") = true)
 (h:kC P G o0 c (Za args) ⟨[],[]⟩ [] (Wn P false fn.results.toList r)):Pure P G f args r:=qFZ hm hf hb hk h
def qj.kO {fn c Q} (o) (hm : P.follows .mixedOrders = true) (hf : P.funcs[f]? = some fn) (hb : fn.body = some c) (hk : (jI fn.ntmps o c && decide (args.length ≤ fn.ntmps) && fn.name != "runtime.NumGoroutine") = true)
 (h:kC P G o c (Za args) U [] (qaj P fn.results.toList Q)):qj P G f args U Q:=qj.vcO o hm hf hb hk h
def qFy:=@qj.kO
def qj.k {fn c Q} (hm : P.follows .mixedOrders = true) (hf : P.funcs[f]? = some fn) (hb : fn.body = some c) (hk : (jI fn.ntmps o0 c && decide (args.length ≤ fn.ntmps) && fn.name != "runtime.NumGoroutine") = true)
 (h:kC P G o0 c (Za args) U [] (qaj P fn.results.toList Q)):qj P G f args U Q:=qj.vc hm hf hb hk h
end
section
variable {P:Program}{G:Glo}{o:Opts}{ops:Array Oper}{d:Bool}{g:FuncId}{args args':List AV}{env:Env}{U:St}{ks:List Fr}{Q:Exit->Env->St->Prop}{dst:Option Nat}{ct:Ct}{r:AV}
def qb.call(h:Pure P G g args r)(hno:qx args=true)(hq:kT P G o ops ct (upd env dst r) U ks Q):qb P G o ops d g args U dst ct env ks Q:=qFJ h hno hq
def qFz:=@qb.call
def qb.less(h:Pure P G g args' r)(hno:qx args=true)(ha:zm args args')(hq:kT P G o ops ct (upd env dst r) U ks Q):qb P G o ops d g args U dst ct env ks Q:=qFK h hno ha hq
def qb.pure(h:Pure P G g args' r)(hno:qx (args.map plain)=true)(ha:zm (args.map plain) args')(hq:kT P G o ops ct (upd env dst r) U ks Q):qb P G o ops d g args U dst ct env ks Q:=qFY h hno ha hq
def qFA:=@qb.pure
def qb.lent(h:Pure P G g args' r)(hb:qt7 r=true)(ha:zm (args.map (frz U.H 8)) args')(hq:kT P G o ops ct (upd env dst r) U ks Q):qb P G o ops d g args U dst ct env ks Q:=qa.lent h hb ha hq
def qFB:=@qb.lent
def qb.acall{R}(h:qj P G g args U R)(hq:∀v U',R v U'->kT P G o ops ct (upd env dst v) U' ks Q):qb P G o ops false g args U dst ct env ks Q:=qFN h hq
def qFC:=@qb.acall
def qK.list{α:Type}(l:List α)(J:List α->Env->St->Prop){c:Code}(h0:J [] env U)
 (hs:∀d v r env U,l=d++v::r->l[d.length]?=some v->d.length<l.length->J d env U->kC P G o c env U (.loop (J (d++[v]))::ks) Q)
 (he:∀env U,J l env U->kC P G o c env U (.loop (fun _ _=>False)::ks) Q) (hp:yk c=true:=by rfl):qK P G o c env U ks Q:=qC.list l J h0 hs he hp
def qFD:=@qK.list
def qK.count(n)(J:Nat->Env->St->Prop){c}(h0:J 0 env U)
 (hs:∀i env U,i<n->J i env U->kC P G o c env U (.loop (J (i+1))::ks) Q)
 (he:∀env U,J n env U->kC P G o c env U (.loop (fun _ _=>False)::ks) Q) (hp:yk c=true:=by rfl):qK P G o c env U ks Q:=qC.count n J h0 hs he hp
def qK.gen{c}(I:Nat->Env->St->Prop)(n)(h:I n env U)(hr:∀n env U (R:Env->St->Prop),(∀m env U,m<n->I m env U->R env U)->I n env U->kC P G o c env U (.loop R::ks) Q):qK P G o c env U ks Q :=
 qFW I n h fun n env U hI=>hr n env U _ (fun m env U hm hI=>⟨m,hm,hI⟩) hI
def qFE:=@qK.gen
end
end Go.Abs
namespace Go.Proofs.YtafbccendejkeaaGreatDoor
open Go Go.Abs Tryz Go.RowKit
def okzP{n:FuncId}{fn:Func}{c}{args:List AV}{r}{G:Nat->AV}(hf:prog.funcs[n]?=some fn)(hb:fn.body=some c)(ha:(!okzE.contains n&&decide (args.length<=fn.ntmps))=true)
 (h:kC prog G o0 c (Za args) ⟨[],[]⟩ [] (Wn prog false fn.results.toList r)):Pure prog G n args r:=Pure.k qX hf hb (okzF hf hb ha) h
def okzA{n:FuncId}{fn:Func}{c}{args:List AV}{G:Glo}{U Q}(hf:prog.funcs[n]?=some fn)(hb:fn.body=some c)(ha:(!okzE.contains n&&decide (args.length<=fn.ntmps))=true)
 (h:kC prog G o0 c (Za args) U [] (qaj prog fn.results.toList Q)):qj prog G n args U Q:=qj.k qX hf hb (okzF hf hb ha) h
end Go.Proofs.YtafbccendejkeaaGreatDoor
namespace Go.Abs
open Go Go.RowKit
def jC{α:Type}(b sz:Nat)(en:α->List AV)(H:List Blk)(v:AV)(l:List α):Prop :=
 (l=[]/\v=.sl 0 [] .nil)\/(l≠[]/\v=.ms b 0 l.length sz/\H[b]?=some (.cells (l.flatMap en)))
section
variable {α:Type}{b sz:Nat}{en:α->List AV}{H:List Blk}{v:AV}{l m:List α}
def JX(hl:∀x,(en x).length=sz):∀(l:List α) (t),vS sz l.length (l.flatMap en++t)=l.map en
 |[],t=>by simp[vS]
 | a::r,t=>by
  have h1:((a::r).flatMap en++t).take sz=en a:=by
   rw[qBC,qBQ,qCo (by rw[hl];exact qBl _),qBh (by rw[hl];exact qBl _)]
  have h2:((a::r).flatMap en++t).drop sz=r.flatMap en++t:=by
   rw[qBC,qBQ,qCT (by rw[hl];exact qBl _),qBS (by rw[hl];exact qBl _),qBy]
  show((a::r).flatMap en++t).take sz::vS sz r.length (((a::r).flatMap en++t).drop sz)=en a::r.map en;rw[h1,h2,JX hl r t]
def ju(hl:∀x,(en x).length=sz):∀(l:List α),(l.flatMap en).length=l.length*sz
 |[]=>by simp
 |a::r=>by rw[qBC,qBe,hl,ju hl r,qBr,qDB];omega
def QP(hn:∀x,qx (en x)=true){n}:∀(l:List α),(l.map en).map (·.map (frz H n))=l.map en
 |[]=>rfl
 | a::r=>by
  have h:(en a).map (frz H n)=en a:=by
   have:=hn a;generalize en a=c at this
   induction c with
   |nil=>rfl
   | cons x y ih=>
    simp only[qx,qBf]at this;rw[qBn,qs this.1,ih this.2]
  rw[qBn,qBn,h,QP hn r]
def jC.frz(h:jC b sz en H v l)(hl:∀x,(en x).length=sz)(hn:∀x,qx (en x)=true)(ha:∀x,(en x).all AV.atom=true)(n):Leq (frz H (n+1) v) (.sl sz (l.map en) .none):=by
 rcases h with⟨rfl,rfl⟩|⟨hne,rfl,hb⟩
 . rw[qs (by simp)];simp
 have hc:=JX hl l [];rw[qBU]at hc;have hall:((vS sz l.length (l.flatMap en)).map (·.map (Abs.frz H n))).all (·.all AV.atom)=true:=by
  rw[hc,QP hn,qEp,qBk];intro x _;exact ha x
 unfold Abs.frz;simp only[qL,qBE,if_false,hb,qCq];rw[if_pos ⟨by rw[ju hl];omega,hall⟩,hc,QP hn];exact qFG _
def jC.append{D T ty e i j tok}(h:jC b sz en H v l)(hi:D ty=some i)(hd:i.d=.sl e)(hj:D e=some j)(hsz:j.size=sz)(h0:0<sz)(hz:j.zero.length=sz)(hbt:j.bytes<=256)
 (hl:∀x,(en x).length=sz) (hlen:l.length+m.length<=549755813888) (hm:m≠[]):
 ∃v' H',zr D ⟨H,T⟩ ty ty v (.sl sz (m.map en) tok)=some (v',⟨H',T⟩)/\jC H.length sz en H' v' (l++m)/\(∀(k) (x),H[k]?=some x->(l=[]\/k≠b)->H'[k]?=some x)/\H'.length=H.length+1:=by
 subst hsz;have hml:m.length≠0:=fun h=>hm (qEd.1 h)
 have hfl:(m.map en).flatten=m.flatMap en:=by rw[qCF]
 rcases h with⟨rfl,rfl⟩|⟨hne,rfl,hb⟩
 . refine⟨.ms H.length 0 m.length j.size,H++[.cells (m.flatMap en)],?_,?_,?_,by simp⟩
   . have:m.length<=549755813888:=by simpa using hlen
     simp[zr,zY,hi,hd,hj,h0,hz,hbt,YM,qR,hml,this,hm,hfl]
   . right;refine⟨by simpa using hm,by simp⟩
   . intro k x hk _;rw[qBq (qBa.1 hk).1,hk]
 have hfl2:=ju hl l;refine⟨.ms H.length 0 (l.length+m.length) j.size,H.set b .dead++[.cells (l.flatMap en++m.flatMap en)],?_,?_,?_,by simp⟩
 . have ht:(l.flatMap en).take (l.length*j.size)=l.flatMap en:=qBh (by omega);have hle:l.length*j.size<=(l.flatMap en).length:=(by omega);rw[hfl2]at hle;simp[zr,zY,hi,hd,hj,h0,hz,hbt,YM,qR,hml,hlen,hm,hfl,hb,hfl2,ht]
 . right;refine⟨by simp[hne],by simp⟩
 intro k x hk hkb;have hkb:=hkb.resolve_left hne;rw[qBq (by rw[qCD];exact(qBa.1 hk).1),qBd (Ne.symm hkb),hk]
def jC.append0{D T ty e i j sz2 tok}(h:jC b sz en H v l)(hi:D ty=some i)(hd:i.d=.sl e)(hj:D e=some j)(hne:l≠[]):
 zr D ⟨H,T⟩ ty ty v (.sl sz2 [] tok)=some (v,⟨H,T⟩):=by
 rcases h with⟨rfl,rfl⟩|⟨hne,rfl,hb⟩
 . exact absurd rfl hne
 simp only[zr,zY,hi,hd,hj,qR,YM];split<;>simp_all
def jC.frzNo(h:jC b sz en H v l)(hl:∀x,(en x).length=sz)(hn:∀x,qx (en x)=true)(ha:∀x,(en x).all AV.atom=true)(n):qL (Abs.frz H (n+1) v)=true:=by
 rcases h with⟨rfl,rfl⟩|⟨hne,rfl,hb⟩
 . rw[qs (by simp)];simp
 have hc:=JX hl l [];rw[qBU]at hc;have hall:((vS sz l.length (l.flatMap en)).map (·.map (Abs.frz H n))).all (·.all AV.atom)=true:=by
  rw[hc,QP hn,qEp,qBk];intro x _;exact ha x
 unfold Abs.frz;simp only[qL,qBE,if_false,hb,qCq];rw[if_pos ⟨by rw[ju hl];omega,hall⟩,hc,QP hn];simpa using zq hn l
def jC.lt(h:jC b sz en H v l)(hl:l≠[]):b<H.length:=by
 rcases h with⟨h,_⟩|⟨_,_,h⟩
 . exact absurd h hl
 exact(qBa.1 h).1
def jC.keep{H'}(h:jC b sz en H v l)(hk:∀x,l≠[]->H[b]?=some x->H'[b]?=some x):jC b sz en H' v l:=by
 rcases h with h|⟨h1,h2,h3⟩
 . exact .inl h
 exact .inr ⟨h1,h2,hk _ h1 h3⟩
def jC.at(h:jC b sz en H v l)(hl:l≠[]):v=.ms b 0 l.length sz/\H[b]?=some (.cells (l.flatMap en)):=by
 rcases h with⟨h,_⟩|⟨_,h1,h2⟩
 . exact absurd h hl
 exact⟨h1,h2⟩
end
section
variable {α:Type}{b sz:Nat}{en:α->List AV}{H:List Blk}{v:AV}{l m:List α}
def jC.appendK{P G o D T ty e i j tok}(h:jC b sz en H v l)(hi:D ty=some i)(hd:i.d=.sl e)(hj:D e=some j)(hsz:j.size=sz)(h0:0<sz)(hz:j.zero.length=sz)(hbt:j.bytes<=256)
 (hl:∀x,(en x).length=sz) (hlen:l.length+m.length<=549755813888):
 ∃ v' b' H',(∀ops dst ct env ks Q,kY P G o ops ((zr D ⟨H,T⟩ ty ty v (.sl sz (m.map en) tok)).map fun p=>[p]) (qr D ⟨H,T⟩ ty v (.sl sz (m.map en) tok)) dst ct env ks Q=kT P G o ops ct (upd env dst v') ⟨H',T⟩ ks Q) /\
  jC b' sz en H' v' (l++m)/\(b'=b\/b'=H.length)/\(∀(k) (x),H[k]?=some x->(l=[]\/k≠b)->H'[k]?=some x)/\H.length<=H'.length:=by
 by_cases hm:m=[]
 . subst hm;rw[qBU];by_cases hne:l=[]
   . rcases h with⟨rfl,rfl⟩|⟨hne',_⟩
     . refine⟨.sl 0 [] .nil,b,H,fun ops dst ct env ks Q=>?_,.inl ⟨rfl,rfl⟩,.inl rfl,fun k x hk _=>hk,qBl _⟩;subst hsz;have hX:zr D ⟨H,T⟩ ty ty (.sl 0 [] .nil) (.sl j.size [] tok)=none:=by
        simp[zr,zY,hi,hd,hj,qR,YM]
       have hA:qr D ⟨H,T⟩ ty (.sl 0 [] .nil) (.sl j.size [] tok)=some (.sl 0 [] .nil,⟨H,T⟩):=by
        simp[qr,hi,hd,hj,qZ,h0,hz,hbt]
       rw[qBN,hX,hA];simp
     . exact absurd hne hne'
   refine⟨v,b,H,fun ops dst ct env ks Q=>?_,h,.inl rfl,fun k x hk _=>hk,qBl _⟩;rw[qBN,h.append0 hi hd hj hne];simp
 obtain⟨v',H',h1,h2,h3,h4⟩:=h.append (T:=T) (tok:=tok) hi hd hj hsz h0 hz hbt hl hlen hm;refine⟨v',H.length,H',fun ops dst ct env ks Q=>?_,h2,.inr rfl,h3,by omega⟩;rw[h1];simp
end
section
variable {A t:List Blk}{b k:Nat}{x y:Blk}
end
def Qh{c}:∀(new) (pre) (off),zx (pre++c) (pre.length+off) new=pre++zx c off new
 | new,pre,off=>by
  induction new generalizing c off with
  |nil=>rfl
  | cons v r ih=>
   rw[zx,zx,qBY _ _ (by omega),qCk,qDb];exact ih (off+1)
def vw:∀(new c t),c.length=new.length->zx (c++t) 0 new=new++t:=by
 have gen:∀(new pre c t:List AV),c.length=new.length->zx (pre++(c++t)) pre.length new=pre++(new++t):=by
  intro new
  induction new with
  |nil=>intro pre c t h;have:c=[]:=qEd.1 h;subst this;simp[zx]
  | cons v r ih=>
   intro pre c t h
   cases c with
   |nil=>simp at h
   | cons x c=>
    have:=ih (pre++[v]) c t (by simpa using h);simp only[qBQ,qCW,qBe,qBK]at this;rw[zx]
    rwa[show(pre++(x::c++t)).set pre.length v=pre++v::(c++t) by simp]
 intro new c t h;simpa using gen new [] c t h
def QM{α:Type}{sz:Nat}{en:α->List AV}(hl:∀x,(en x).length=sz):∀(l:List α) (i:Nat) (v:α),i<l.length->zx (l.flatMap en) (i*sz) (en v)=(l.set i v).flatMap en
 |[],i,v,h=>by simp at h
 | a::r,0,v,_=>by
  rw[qBC,qCY,qEG,qBC];exact vw _ _ _ (by rw[hl,hl])
 | a::r,i+1,v,h=>by
  have h':i<r.length:=by simpa using h
  rw[qBC,qD3,qBC,<- QM hl r i v h',qDB,qDi];have:=Qh (c:=r.flatMap en) (en v) (en a) (i*sz)
  rwa[hl]at this
section
variable {P:Program}{G:Glo}{o:Opts}{env:Env}{U:St}{ks:List Fr}{Q:Exit->Env->St->Prop}
def qK.listR{α:Type}(l:List α)(J:List α->Env->St->Prop){c:Code}(h0:J [] env U)
 (hs:∀d v r env U (R:Env->St->Prop),(∀env U,J (d++[v]) env U->R env U)->l=d++v::r->l[d.length]?=some v->d.length<l.length->J d env U->kC P G o c env U (.loop R::ks) Q)
 (he:∀env U,J l env U->kC P G o c env U (.loop (fun _ _=>False)::ks) Q) (hp:yk c=true:=by rfl):qK P G o c env U ks Q :=
 qFD l J h0 (fun d v r env U h1 h2 h3 hJ=>hs d v r env U _ (fun _ _ h=>h) h1 h2 h3 hJ) he hp
def qFP:=@qK.listR
end
section
variable {P:Program}{G:Glo}{o:Opts}{env:Env}{U:St}{ks:List Fr}{Q:Exit->Env->St->Prop}
def qkH(hX:G.NoX){g:Operand}{pe gb:Nat}{cap:List AV}{x y:Code}(pre:St->Prop)(vals:List AV)(J:Nat->St->Prop)(hg:ev G env g=.fn gb [] cap)(hfw:qxQ P G gb cap pre vals)(hpre:∀i U,J i U->pre U)(hJ:J 0 U)
 (hs:∀i v U,vals[i]?=some v->J i U->kC P G o x (upd env (some pe) v) U [] (fun e env' U'=>e=.normal/\kC P G o y env' U' [] (fun e _ U''=>e=.normal/\J (i+1) U'')))
 (he:∀U,J vals.length U->kX P G o .normal env U ks Q):kC P G o (.rangeFunc g #[pe] x y) env U ks Q:=by
 unfold kC;simp only[vcC,hg];exact⟨pre,vals,J,hX,hfw,hpre,hJ,hs,he⟩
end
def qkW{H b off n c}(h:H[b]?=some (.cells c)):frz H (n+1) (.ptr b off)=.rptr ((c.drop off).map (frz H n)):=by
 rw[frz];simp[qL,h]
def qeQ{H n}{s:List UInt8}:frz H n (.str s)=.str s:=qs rfl
def Zw{H n k z}:frz H n (.int k z)=.int k z:=qs rfl
def qa5{H n z}:frz H n (.bool z)=.bool z:=qs rfl
section
variable {P:Program}{G:Glo}{o:Opts}{ops:Array Oper}{ac dp:List Nat}{env:Env}{U:St}{ks:List Fr}{Q:Exit->Env->St->Prop}
def kAl(P:Program)(G:Glo)(o:Opts)(ops:Array Oper)(ac:List Nat)(al:Alts)(env:Env)(U:St)(ks:List Fr)(Q:Exit->Env->St->Prop):Prop:=vX P G o.mu ac ops al env U (fun env U=>itp P G o ks Q .normal env U)
@[simp ↓]def qyF{al}:kT P G o ops (.plan ac (.fork al)) env U ks Q=kAl P G o ops ac al env U ks Q:=by simp only[kT,vcS,kAl]
@[simp ↓]def qyV:kAl P G o ops ac .nil env U ks Q=True:=by simp only[kAl,vX]
@[simp ↓]def qxk{k s r}:kAl P G o ops ac (.cons k s r) env U ks Q=(kP P G o ops (ops[k]?) (match ops[k]? with|some u=>zc o.mu ac k u.op != 9|none=>false) (.plan ac s) env U ks Q/\kAl P G o ops ac r env U ks Q):=by
 simp only[kAl,vX,kP,kT];congr 1;split<;>rename_i h<;>simp[h]
end
section
variable {α:Type}{sz t:Nat}{en:α->List AV}{T:List (Option Nat)}{a s m:List α}
end
section
variable {P:Program}{G:Glo}{o:Opts}{env:Env}{U:St}{ks:List Fr}{Q:Exit->Env->St->Prop}
end
section
variable {P:Program}{G:Glo}{U:St}{f:FuncId}{args args':List AV}{Q:AV->St->Prop}
def qj.leq(h:qj P G f args' U Q)(ha:zm args args'):qj P G f args U Q :=
 ⟨h.1,fun w0 ro0 K w vs hw hvs=>h.2 w0 ro0 K w vs hw (zm.rel _ _ ha hvs)⟩
end
section
variable {P:Program}{G:Glo}{o:Opts}{ops:Array Oper}{ct:Ct}{env:Env}{U:St}{ks:List Fr}{Q:Exit->Env->St->Prop}
end
def Vc{α:Type}(n sz:Nat)(en:α->List AV)(T:List (Option Nat))(v:AV)(l:List α):Prop :=
 (l=[]/\v=.sl 0 [] .nil)\/(l≠[]/\∃t,n<=t/\v=.sl sz (l.map en) (.chain t l.length)/\T[t]?=some (some l.length))
section
variable {α:Type}{n sz:Nat}{en:α->List AV}{T T':List (Option Nat)}{v:AV}{l m:List α}
def Vc.nil:Vc n sz en T (.sl 0 [] .nil) ([]:List α):=.inl ⟨rfl,rfl⟩
def Vc.ext(h:Vc n sz en T v l)(hT:T <+: T'):Vc n sz en T' v l:=by
 rcases h with h|⟨h1,t,h2,h3,h4⟩
 . exact .inl h
 obtain⟨u,rfl⟩:=hT;exact .inr ⟨h1,t,h2,h3,by rw[qBq (qBa.1 h4).1,h4]⟩
def qhU{T0 T:List (Option Nat)}(h:T0 <+: T){t}(ht:T0.length<=t)(x:Option Nat):T0 <+: T.set t x:=by
 obtain⟨u,rfl⟩:=h;rw[qBY _ _ ht];exact⟨_,rfl⟩
def Vc.append{T0 D ty e i j tok}(h:Vc T0.length sz en T v l)(hT:T0 <+: T)(hi:D ty=some i)(hd:i.d=.sl e)(hj:D e=some j)(hsz:j.size=sz)(h0:0<sz)(hz:j.zero.length=sz)(hb:j.bytes<=256)
 (hlen:l.length+m.length<=549755813888) (sz2) (h2:sz2=sz\/m=[]):
 ∃v' T',(∀H,qr D ⟨H,T⟩ ty v (.sl sz2 (m.map en) tok)=some (v',⟨H,T'⟩))/\Vc T0.length sz en T' v' (l++m)/\T0 <+: T':=by
 subst hsz;by_cases hm:m=[]
 . subst hm;rw[qBU];refine⟨v,T,fun H=>?_,h,hT⟩;rcases h with⟨rfl,rfl⟩|⟨hne,t,_,rfl,_⟩
   . simp[qr,hi,hd,hj,h0,hz,hb,qZ]
   have:l.length<=549755813888:=by simpa using hlen
   simp[qr,hi,hd,hj,h0,hz,hb,qZ,this]
 have h2:=h2.resolve_right hm;subst h2;rcases h with⟨rfl,rfl⟩|⟨hne,t,ht,rfl,hk⟩
 . have:m.length<=549755813888:=by simpa using hlen
   refine⟨.sl j.size (m.map en) (.chain T.length m.length),T++[some m.length],fun H=>?_,.inr ⟨by simpa using hm,T.length,?_,by simp⟩,hT.trans (qEC _ _)⟩
   . simp[qr,hi,hd,hj,h0,hz,hb,qZ,this,hm]
   obtain⟨u,rfl⟩:=hT;simp
 refine⟨.sl j.size ((l++m).map en) (.chain t (l.length+m.length)),T.set t (some (l.length+m.length)),fun H=>?_,.inr ⟨by simp[hne],t,ht,by simp,?_⟩,qhU hT ht _⟩
 . simp[qr,hi,hd,hj,h0,hz,hb,qZ,hlen,hm,hk]
 rw[qBg (qBa.1 hk).1];simp
end
def qkV{α:Type}{sz:Nat}{en:α->List AV}(hn:∀x,qx (en x)=true)(ha:∀x,(en x).all AV.atom=true)(H:List Blk)(k:Nat)(l:List α)(tok:Tok):Leq (Abs.frz H (k+1) (.sl sz (l.map en) tok)) (.sl sz (l.map en) .none):=by
 have hr:=QP (H:=H) hn (n:=k) l;have hall:((l.map en).map (·.map (Abs.frz H k))).all (·.all AV.atom)=true:=by
  rw[hr,qEp,qBk];intro x _;exact ha x
 by_cases hno:Abs.qL (.sl sz (l.map en) tok)=true
 . rw[qs hno];exact Leq.sl rfl
 rw[Abs.frz,if_neg hno];simp only[if_pos hall];rw[hr];exact qFG _
def qoq{α:Type}{sz sz'}{en:α->List AV}(hn:∀x,qx (en x)=true)(ha:∀x,(en x).all AV.atom=true)(H k)(l:List α)(tok)(h:sz=sz'\/l=[]):Leq (Abs.frz H (k+1) (.sl sz (l.map en) tok)) (.sl sz' (l.map en) .none):=by
 rcases h with rfl|rfl
 . exact qkV hn ha H k l tok
 by_cases hno:Abs.qL (.sl sz [] tok)=true
 . rw[qBN,qs hno];exact Leq.slnil
 rw[qBN,Abs.frz,if_neg hno];exact Leq.slnil
section
variable {P:Program}{G:Glo}{f:FuncId}{args:List AV}{U:St}{Q:AV->St->Prop}
def qj.up(h:qj P G f args U (fun r τ=>∃w,Leq r w/\Q w τ)):qj P G f args U Q :=
 ⟨h.1,fun w0 ro0 K w vs hw hvs=>(h.2 w0 ro0 K w vs hw hvs).mono fun e w' h=>h.imp (fun⟨v',v,U',K',h1,h2,h3,h4,u,h5,h6⟩=>⟨v',u,U',K',h1,h2,h3,qFF _ _ h5 h4,h6⟩) id⟩
end
section
variable {P:Program}{G:Glo}{o:Opts}{ops:Array Oper}{ct:Ct}{env:Env}{U:St}{ks:List Fr}{Q:Exit->Env->St->Prop}{dst:Option Nat}
end
section
variable {es:List (AV×AV×Nat)}{H:List Blk}{T:List (Option Nat)}{it m clk:Nat}{seen:List Nat}
end
