/- A part of the proof. -/
import Derived.Test.YtoibbcnfhhggnaaGreatDoorProg
import Derived.KernelRfl
import Derived.Test.YtoibbcnfhhggnaaGreatDoorPc06
import Derived.Laws.RangeAny
import Derived.Shelf.Lay
import Derived.Shelf.Strings.Search1
import Derived.WalkKit
import Derived.ChangeArms
import Derived.DataReads
set_option linter.unusedVariables false
set_option linter.unusedSimpArgs false
set_option maxRecDepth 100000
set_option maxHeartbeats 16000000
set_option linter.defProp false
section
namespace Go.Proofs.YtoibbcnfhhggnaaGreatDoor
open Go Go.Abs
@[simp]theorem D2:Dof Tryz.prog 2=some ⟨1,8,[.int .i64 0],.int .i64 0,.int .i64,true⟩:=by kernel_rfl
@[simp]theorem D3:Dof Tryz.prog 3=some ⟨1,8,[.int .i64 0],.int .i64 0,.int .i64,true⟩:=by kernel_rfl
@[simp]theorem D4:Dof Tryz.prog 4=some ⟨1,1,[.bool false],.bool false,.bool,true⟩:=by kernel_rfl
@[simp]theorem D5:Dof Tryz.prog 5=some ⟨1,1,[.int .u8 0],.int .u8 0,.int .u8,true⟩:=by kernel_rfl
@[simp]theorem D9:Dof Tryz.prog 9=some ⟨1,16,[.str []],.str [],.str,true⟩:=by kernel_rfl
@[simp]theorem D22:Dof Tryz.prog 22=some ⟨1,24,[.sl 0 [] .nil],.sl 0 [] .nil,.sl 37,true⟩:=by kernel_rfl
@[simp]theorem D23:Dof Tryz.prog 23=some ⟨1,24,[.sl 0 [] .nil],.sl 0 [] .nil,.sl 52,true⟩:=by kernel_rfl
@[simp]theorem D24:Dof Tryz.prog 24=some ⟨1,24,[.sl 0 [] .nil],.sl 0 [] .nil,.sl 60,true⟩:=by kernel_rfl
@[simp]theorem D25:Dof Tryz.prog 25=some ⟨1,24,[.sl 0 [] .nil],.sl 0 [] .nil,.sl 44,true⟩:=by kernel_rfl
@[simp]theorem D27:Dof Tryz.prog 27=some ⟨5,120,[.sl 0 [] .nil,.sl 0 [] .nil,.sl 0 [] .nil,.sl 0 [] .nil,.sl 0 [] .nil],.agg [.sl 0 [] .nil,.sl 0 [] .nil,.sl 0 [] .nil,.sl 0 [] .nil,.sl 0 [] .nil],.st [(0,22),(1,23),(2,23),(3,24),(4,25)],true⟩:=by kernel_rfl
@[simp]theorem D28:Dof Tryz.prog 28=some ⟨1,8,[.int .u64 0],.int .u64 0,.int .u64,true⟩:=by kernel_rfl
@[simp]theorem D30:Dof Tryz.prog 30=some ⟨2,16,[.int .u64 0,.int .u64 0],.agg [.int .u64 0,.int .u64 0],.st [(0,28),(1,28)],true⟩:=by kernel_rfl
@[simp]theorem D32:Dof Tryz.prog 32=some ⟨1,8,[.int .i64 0],.int .i64 0,.int .i64,true⟩:=by kernel_rfl
@[simp]theorem D37:Dof Tryz.prog 37=some ⟨4,40,[.str [],.int .i64 0,.int .i64 0,.int .i64 0],.agg [.str [],.int .i64 0,.int .i64 0,.int .i64 0],.st [(0,9),(1,3),(2,3),(3,3)],true⟩:=by kernel_rfl
@[simp]theorem D39:Dof Tryz.prog 39=some ⟨1,8,[.int .u64 0],.int .u64 0,.int .u64,true⟩:=by kernel_rfl
@[simp]theorem D41:Dof Tryz.prog 41=some ⟨1,24,[.sl 0 [] .nil],.agg [.sl 0 [] .nil],.st [(0,25)],true⟩:=by kernel_rfl
@[simp]theorem D43:Dof Tryz.prog 43=some ⟨1,24,[.sl 0 [] .nil],.sl 0 [] .nil,.sl 4,true⟩:=by kernel_rfl
@[simp]theorem D44:Dof Tryz.prog 44=some ⟨1,24,[.sl 0 [] .nil],.sl 0 [] .nil,.sl 3,true⟩:=by kernel_rfl
@[simp]theorem D52:Dof Tryz.prog 52=some ⟨4,56,[.int .i64 0,.int .i64 0,.str [],.sl 0 [] .nil],.agg [.int .i64 0,.int .i64 0,.str [],.sl 0 [] .nil],.st [(0,3),(1,3),(2,9),(3,23)],true⟩:=by kernel_rfl
@[simp]theorem D58:Dof Tryz.prog 58=some ⟨1,24,[.sl 0 [] .nil],.sl 0 [] .nil,.sl 90,true⟩:=by kernel_rfl
@[simp]theorem D60:Dof Tryz.prog 60=some ⟨2,32,[.int .i64 0,.sl 0 [] .nil],.agg [.int .i64 0,.sl 0 [] .nil],.st [(0,3),(1,58)],true⟩:=by kernel_rfl
@[simp]theorem D80:Dof Tryz.prog 80=some ⟨1,24,[.sl 0 [] .nil],.sl 0 [] .nil,.sl 111,true⟩:=by kernel_rfl
@[simp]theorem D90:Dof Tryz.prog 90=some ⟨4,32,[.int .i64 0,.int .i64 0,.int .i64 0,.bool false],.agg [.int .i64 0,.int .i64 0,.int .i64 0,.bool false],.st [(0,3),(1,3),(2,3),(3,4)],true⟩:=by kernel_rfl
@[simp]theorem D91:Dof Tryz.prog 91=some ⟨1,24,[.sl 0 [] .nil],.sl 0 [] .nil,.sl 9,true⟩:=by kernel_rfl
@[simp]theorem D94:Dof Tryz.prog 94=some ⟨1,8,[.nilf],.nilf,.fn,true⟩:=by kernel_rfl
@[simp]theorem D111:Dof Tryz.prog 111=some ⟨2,24,[.str [],.int .i64 0],.agg [.str [],.int .i64 0],.st [(0,9),(1,3)],true⟩:=by kernel_rfl
@[simp]theorem D113:Dof Tryz.prog 113=some ⟨5,72,[.int .i64 0,.int .i64 0,.int .i64 0,.sl 0 [] .nil,.sl 0 [] .nil],.agg [.int .i64 0,.int .i64 0,.int .i64 0,.sl 0 [] .nil,.sl 0 [] .nil],.st [(0,3),(1,3),(2,32),(3,91),(4,91)],true⟩:=by kernel_rfl
@[simp]theorem D118:Dof Tryz.prog 118=some ⟨1,8,[.nilf],.nilf,.fn,true⟩:=by kernel_rfl
@[simp]theorem D120:Dof Tryz.prog 120=some ⟨1,24,[.sl 0 [] .nil],.sl 0 [] .nil,.sl 94,true⟩:=by kernel_rfl
@[simp]theorem D131:Dof Tryz.prog 131=some ⟨1,8,[.nilf],.nilf,.fn,true⟩:=by kernel_rfl
@[simp]theorem D133:Dof Tryz.prog 133=some ⟨1,24,[.sl 0 [] .nil],.sl 0 [] .nil,.sl 205,true⟩:=by kernel_rfl
@[simp]theorem D135:Dof Tryz.prog 135=some ⟨1,24,[.sl 0 [] .nil],.agg [.sl 0 [] .nil],.st [(0,133)],true⟩:=by kernel_rfl
@[simp]theorem D137:Dof Tryz.prog 137=some ⟨11,216,[.sl 0 [] .nil,.sl 0 [] .nil,.sl 0 [] .nil,.sl 0 [] .nil,.sl 0 [] .nil,.sl 0 [] .nil,.sl 0 [] .nil,.sl 0 [] .nil,.int .i64 0,.bool false,.nilf],.agg [.sl 0 [] .nil,.sl 0 [] .nil,.sl 0 [] .nil,.sl 0 [] .nil,.sl 0 [] .nil,.sl 0 [] .nil,.sl 0 [] .nil,.sl 0 [] .nil,.int .i64 0,.bool false,.nilf],.st [(0,27),(5,23),(6,44),(7,135),(8,3),(9,4),(10,131)],true⟩:=by kernel_rfl
@[simp]theorem D144:Dof Tryz.prog 144=some ⟨1,8,[.nilp],.nilp,.ptr 30,true⟩:=by kernel_rfl
@[simp]theorem D146:Dof Tryz.prog 146=some ⟨1,8,[.nilm],.nilm,.map 3 3,true⟩:=by kernel_rfl
@[simp]theorem D159:Dof Tryz.prog 159=some ⟨1,24,[.sl 0 [] .nil],.sl 0 [] .nil,.sl 23,true⟩:=by kernel_rfl
@[simp]theorem D169:Dof Tryz.prog 169=some ⟨1,24,[.sl 0 [] .nil],.sl 0 [] .nil,.sl 58,true⟩:=by kernel_rfl
@[simp]theorem D176:Dof Tryz.prog 176=some ⟨1,8,[.nilm],.nilm,.map 178 3,true⟩:=by kernel_rfl
@[simp]theorem D178:Dof Tryz.prog 178=some ⟨2,16,[.int .i64 0,.int .i64 0],.agg [.int .i64 0,.int .i64 0],.st [(0,3),(1,3)],true⟩:=by kernel_rfl
@[simp]theorem D189:Dof Tryz.prog 189=some ⟨1,24,[.sl 0 [] .nil],.sl 0 [] .nil,.sl 5,true⟩:=by kernel_rfl
@[simp]theorem D197:Dof Tryz.prog 197=some ⟨9,184,[.sl 0 [] .nil,.sl 0 [] .nil,.sl 0 [] .nil,.sl 0 [] .nil,.sl 0 [] .nil,.sl 0 [] .nil,.sl 0 [] .nil,.bool false,.int .i64 0],.agg [.sl 0 [] .nil,.sl 0 [] .nil,.sl 0 [] .nil,.sl 0 [] .nil,.sl 0 [] .nil,.sl 0 [] .nil,.sl 0 [] .nil,.bool false,.int .i64 0],.st [(0,27),(5,23),(6,44),(7,4),(8,3)],true⟩:=by kernel_rfl
@[simp]theorem D200:Dof Tryz.prog 200=some ⟨1,24,[.sl 0 [] .nil],.sl 0 [] .nil,.sl 238,true⟩:=by kernel_rfl
@[simp]theorem D205:Dof Tryz.prog 205=some ⟨3,24,[.int .i64 0,.int .i64 0,.int .i64 0],.agg [.int .i64 0,.int .i64 0,.int .i64 0],.st [(0,3),(1,3),(2,3)],true⟩:=by kernel_rfl
@[simp]theorem D206:Dof Tryz.prog 206=some ⟨1,8,[.nilp],.nilp,.ptr 216,true⟩:=by kernel_rfl
@[simp]theorem D212:Dof Tryz.prog 212=some ⟨16,128,[.int .i64 0,.int .i64 0,.int .i64 0,.int .i64 0,.int .i64 0,.int .i64 0,.int .i64 0,.int .i64 0,.int .i64 0,.int .i64 0,.int .i64 0,.int .i64 0,.int .i64 0,.int .i64 0,.int .i64 0,.int .i64 0],.agg [.int .i64 0,.int .i64 0,.int .i64 0,.int .i64 0,.int .i64 0,.int .i64 0,.int .i64 0,.int .i64 0,.int .i64 0,.int .i64 0,.int .i64 0,.int .i64 0,.int .i64 0,.int .i64 0,.int .i64 0,.int .i64 0],.arr 16 3,true⟩:=by kernel_rfl
@[simp]theorem D214:Dof Tryz.prog 214=some ⟨1,8,[.nilm],.nilm,.map 9 3,true⟩:=by kernel_rfl
@[simp]theorem D216:Dof Tryz.prog 216=some ⟨8,176,[.sl 0 [] .nil,.sl 0 [] .nil,.sl 0 [] .nil,.sl 0 [] .nil,.sl 0 [] .nil,.sl 0 [] .nil,.sl 0 [] .nil,.nilm],.agg [.sl 0 [] .nil,.sl 0 [] .nil,.sl 0 [] .nil,.sl 0 [] .nil,.sl 0 [] .nil,.sl 0 [] .nil,.sl 0 [] .nil,.nilm],.st [(0,135),(1,27),(6,44),(7,214)],true⟩:=by kernel_rfl
@[simp]theorem D219:Dof Tryz.prog 219=some ⟨3,24,[.int .i64 0,.int .i64 0,.int .i64 0],.agg [.int .i64 0,.int .i64 0,.int .i64 0],.st [(0,3),(1,3),(2,3)],true⟩:=by kernel_rfl
@[simp]theorem D220:Dof Tryz.prog 220=some ⟨1,8,[.nilf],.nilf,.fn,true⟩:=by kernel_rfl
@[simp]theorem D238:Dof Tryz.prog 238=some ⟨2,16,[.int .i64 0,.int .i64 0],.agg [.int .i64 0,.int .i64 0],.st [(0,3),(1,3)],true⟩:=by kernel_rfl
@[simp]theorem D250:Dof Tryz.prog 250=some ⟨1,24,[.sl 0 [] .nil],.sl 0 [] .nil,.sl 212,true⟩:=by kernel_rfl
@[simp]theorem D260:Dof Tryz.prog 260=some ⟨1,8,[.nilp],.nilp,.ptr 300,true⟩:=by kernel_rfl
@[simp]theorem D262:Dof Tryz.prog 262=some ⟨1,8,[.nilm],.nilm,.map 219 3,true⟩:=by kernel_rfl
@[simp]theorem D264:Dof Tryz.prog 264=some ⟨3,24,[.nilp,.nilf,.nilm],.agg [.nilp,.nilf,.nilm],.st [(0,260),(1,220),(2,262)],true⟩:=by kernel_rfl
@[simp]theorem D284:Dof Tryz.prog 284=some ⟨1,24,[.sl 0 [] .nil],.agg [.sl 0 [] .nil],.st [(0,80)],true⟩:=by kernel_rfl
@[simp]theorem D290:Dof Tryz.prog 290=some ⟨1,8,[.nilm],.nilm,.map 205 4,true⟩:=by kernel_rfl
@[simp]theorem D298:Dof Tryz.prog 298=some ⟨1,8,[.nilm],.nilm,.map 205 3,true⟩:=by kernel_rfl
@[simp]theorem D300:Dof Tryz.prog 300=some ⟨3,40,[.sl 0 [] .nil,.nilm,.bool false],.agg [.sl 0 [] .nil,.nilm,.bool false],.st [(0,133),(1,298),(2,4)],true⟩:=by kernel_rfl
@[simp]theorem D302:Dof Tryz.prog 302=some ⟨1,8,[.nilm],.nilm,.map 9 4,true⟩:=by kernel_rfl
@[simp]theorem D311:Dof Tryz.prog 311=some ⟨24,24,[.int .u8 0,.int .u8 0,.int .u8 0,.int .u8 0,.int .u8 0,.int .u8 0,.int .u8 0,.int .u8 0,.int .u8 0,.int .u8 0,.int .u8 0,.int .u8 0,.int .u8 0,.int .u8 0,.int .u8 0,.int .u8 0,.int .u8 0,.int .u8 0,.int .u8 0,.int .u8 0,.int .u8 0,.int .u8 0,.int .u8 0,.int .u8 0],.agg [.int .u8 0,.int .u8 0,.int .u8 0,.int .u8 0,.int .u8 0,.int .u8 0,.int .u8 0,.int .u8 0,.int .u8 0,.int .u8 0,.int .u8 0,.int .u8 0,.int .u8 0,.int .u8 0,.int .u8 0,.int .u8 0,.int .u8 0,.int .u8 0,.int .u8 0,.int .u8 0,.int .u8 0,.int .u8 0,.int .u8 0,.int .u8 0],.arr 24 5,true⟩:=by kernel_rfl
@[simp]theorem D325:Dof Tryz.prog 325=some ⟨1,2,[.int .u16 0],.int .u16 0,.int .u16,true⟩:=by kernel_rfl
abbrev Str:=List UInt8
structure Var where
 name:Str
 width:Int
 mode:Int
 value:Int
structure Weight where
 lo:Int
 hi:Int
 weight:Int
 each:Bool
structure Dist where
 var:Int
 weights:List Weight
inductive Ex where
 | mk (op n:Int) (name:Str) (args:List Ex)
structure Problem where
 vars:List Var
 hard:List Ex
 soft:List Ex
 dists:List Dist
 groups:List (List Int)
structure Signal where
 name:Str
 value:Int
def Ex.op:Ex->Int | .mk o _ _ _=>o
def Ex.n:Ex->Int | .mk _ n _ _=>n
def Ex.name:Ex->Str | .mk _ _ s _=>s
def Ex.args:Ex->List Ex | .mk _ _ _ a=>a
@[simp]theorem Ex.op_mk {o n:Int}{s:Str}{a:List Ex}:(Ex.mk o n s a).op=o:=rfl
@[simp]theorem Ex.n_mk {o n:Int}{s:Str}{a:List Ex}:(Ex.mk o n s a).n=n:=rfl
@[simp]theorem Ex.name_mk {o n:Int}{s:Str}{a:List Ex}:(Ex.mk o n s a).name=s:=rfl
@[simp]theorem Ex.args_mk {o n:Int}{s:Str}{a:List Ex}:(Ex.mk o n s a).args=a:=rfl
@[simp]def qo (v:Var):List AV:=[.str v.name,.int .i64 v.width,.int .i64 v.mode,.int .i64 v.value]
@[simp]def qE (w:Weight):List AV:=[.int .i64 w.lo,.int .i64 w.hi,.int .i64 w.weight,.bool w.each]
@[simp]def zM (d:Dist):List AV:=[.int .i64 d.var,.sl 4 (d.weights.map qE) .none]
@[simp]def qy (n:Int):List AV:=[.int .i64 n]
@[simp]def ja (s:Str):List AV:=[.str s]
@[simp]def ze (s:Signal):List AV:=[.str s.name,.int .i64 s.value]
mutual
def qs:Ex->List AV
 | .mk o n s a=>[.int .i64 o,.int .i64 n,.str s,.sl 4 (qgd a) .none]
def qgd:List Ex->List (List AV)
 | []=>[]
 | a::r=>qs a::qgd r
end
@[simp]theorem ql5:∀ l,qgd l=l.map qs
 | []=>rfl
 | a::r=>by simp[qgd,ql5 r]
theorem qd (e:Ex):qs e=[.int .i64 e.op,.int .i64 e.n,.str e.name,.sl 4 (e.args.map qs) .none]:=by cases e;simp[qs]
@[simp]def zc (l:List Int):List AV:=[.sl 1 (l.map qy) .none]
@[simp]def qJ (p:Problem):List AV:=[.sl 4 (p.vars.map qo) .none,.sl 4 (p.hard.map qs) .none,.sl 4 (p.soft.map qs) .none,.sl 2 (p.dists.map zM) .none,.sl 1 (p.groups.map zc) .none]
@[simp]theorem nrVar (l:List Var):qQ (l.map qo)=true:=zz (fun x=>by simp) l
@[simp]theorem nrWeight (l:List Weight):qQ (l.map qE)=true:=zz (fun x=>by simp) l
@[simp]theorem nrDist (l:List Dist):qQ (l.map zM)=true:=zz (fun x=>by simp) l
@[simp]theorem nrInt (l:List Int):qQ (l.map qy)=true:=zz (fun x=>by simp) l
@[simp]theorem nrStr (l:List Str):qQ (l.map ja)=true:=zz (fun x=>by simp) l
@[simp]theorem nrSignal (l:List Signal):qQ (l.map ze)=true:=zz (fun x=>by simp) l
@[simp]theorem nrInts (l:List (List Int)):qQ (l.map zc)=true:=zz (fun x=>by simp) l
mutual
theorem nrE':∀ e,qq (qs e)=true
 | .mk o n s a=>by
  have:=nrEs' a;simp[qs,this];simpa using this
theorem nrEs':∀ l,qQ (qgd l)=true
 | []=>rfl
 | a::r=>by simp only[qgd,qQ,nrE' a,nrEs' r,Bool.and_self]
end
@[simp]theorem nrE (e:Ex):qq (qs e)=true:=nrE' e
@[simp]theorem nrEs (l:List Ex):qQ (l.map qs)=true:=zz (fun x=>nrE x) l
theorem qe:Tryz.prog.follows .mixedOrders=true:=by kernel_rfl
abbrev Fits {α:Type}(l:List α):Prop:=l.length<9223372036854775808
def zr {α:Type}(p:α->Bool):List α->Int->Int
 | [],_=>-1
 | v::r,i=>if p v then i else zr p r (i+1)
theorem VN {α:Type}{p:α->Bool}:∀ {l:List α} {i:Int},0<=i->(0<=zr p l i↔l.any p=true)
 | [],i,_=>by simp[zr]
 | v::r,i,h=>by
  simp only[zr,qse];split
  . rename_i hp;simp[hp,h]
  . rename_i hp;simp[hp,VN (l:=r) (i:=i+1) (by omega)]
@[simp]theorem qiR {α:Type}(p:α->Bool)(l:List α):decide (0<=zr p l 0)=l.any p:=by
 rw[qq1,decide_eq_true_iff];exact VN (by omega)
end Go.Proofs.YtoibbcnfhhggnaaGreatDoor
end
section
namespace Go.Proofs.YtoibbcnfhhggnaaGreatDoor
open Go Go.Abs
def qb4:List Str:=[[99,108,97,115,115],[101,120,116,101,110,100,115],[114,97,110,100],[114,97,110,100,99],[115,116,97,116,101],[99,111,110,115,116,114,97,105,110,116],[115,111,102,116],[100,105,115,116],[105,102],[101,108,115,101],[101,97,99,104],[105,110],[115,111,108,118,101],[98,101,102,111,114,101],[105,110,115,105,100,101],[112,114,111,112,101,114,116,121],[115,101,113],[97,110,100],[111,114],[110,111,116],[115,101,116],[104,111,108,100],[112,108,97,105,110],[114,101,112,101,97,116]]
def kV (n:Int):Bool:=decide (97<=n)&&decide (n<=122)
def Jy (n:Int):Bool:=decide (48<=n)&&decide (n<=57)
def km (n:Int):Bool:=kV n||Jy n||(decide (65<=n)&&decide (n<=90))||decide (n=95)
def Zr (c:UInt8):Bool:=km c.toNat
def Qs:Str->Bool
 | []=>false
 | c::r=>kV c.toNat&&(c::r).all Zr
def zY (s:Str):Bool:=Qs s&&decide (s.length<=16)&&!qb4.contains s
theorem qcH {s:Str}(h:zY s=true):∀ c∈s,Zr c=true:=by
 simp only[zY,qp9]at h;obtain⟨⟨h,_⟩,_⟩:=h
 cases s with
 | nil=>simp
 | cons c r=>
  simp only[Qs,qp9]at h;exact fun x hx=>qqi.1 h.2 x hx
theorem wv {s:Str}(h:zY s=true):∀ c∈s,c≠91:=by
 intro c hc e;have:=qcH h c hc;subst e
 revert this
 decide
theorem Vy {s:Str}(h:zY s=true):s≠[]:=by
 rintro rfl;simp[zY,Qs]at h
def z9 (a:Str)(i:Nat):Str:=a++[91,UInt8.ofNat (48+i),93]
@[simp]theorem qnx {a:Str}{i:Nat}:(z9 a i).length=a.length+3:=by simp[z9]
theorem Kw {a b:Str}{i j:Nat}(hi:i<8)(hj:j<8)(h:z9 a i=z9 b j):a=b/\i=j:=by
 obtain⟨h1,h2⟩:=List.append_inj' h rfl;refine⟨h1,?_⟩;simp only[List.cons.injEq,true_and,and_true]at h2;have:=congrArg UInt8.toNat h2;simp only[UInt8.toNat_ofNat']at this;omega
def jp (s a:Str)(i:Nat):Prop:=i<8/\zY a=true/\s=z9 a i
theorem jp.unique {s a b:Str}{i j:Nat}(h:jp s a i)(h':jp s b j):a=b/\i=j:=Kw h.1 h'.1 (h.2.2.symm.trans h'.2.2)
open Classical in
noncomputable def yS (s:Str):Option (Str×Nat):=if h:∃ p:Str×Nat,jp s p.1 p.2 then some h.choose else none
theorem wZ {s a:Str}{i:Nat}(h:jp s a i):yS s=some (a,i):=by
 have hex:∃ p:Str×Nat,jp s p.1 p.2:=⟨(a,i),h⟩;unfold yS;rw[dif_pos hex];obtain⟨h1,h2⟩:=hex.choose_spec.unique h;rw[<- h1,<- h2]
theorem ka {s a:Str}{i:Nat}:yS s=some (a,i)↔jp s a i:=by
 constructor
 . intro h;unfold yS at h;split at h
   . rename_i hex;have:=hex.choose_spec;rw[Option.some.inj h]at this;exact this
   . cases h
 . exact wZ
theorem yy {s:Str}:yS s=none↔∀ a i,¬ jp s a i:=by
 constructor
 . intro h a i hi;rw[wZ hi]at h;cases h
 . intro h
   cases e:yS s with
   | none=>rfl
   | some p=>exact absurd (ka.1 (show yS s=some (p.1,p.2) from e)) (h _ _)
noncomputable def yW (s:Str):Bool:=zY s||(yS s).isSome
def jK (s:Str):Str:=s.takeWhile (· != 91)
def Yo (s:Str):Str:=(s.dropWhile (· != 91)).tail
theorem qnA {s:Str}(h:s.contains 91=true):s=jK s++91::Yo s:=by
 unfold jK Yo
 induction s with
 | nil=>simp at h
 | cons c r ih=>
  by_cases hc:c=91
  . subst hc;simp
  . have:r.contains 91=true:=by
     simp only[List.contains_cons,qr9,beq_iff_eq]at h;rcases h with h|h
     . exact absurd h.symm hc
     . exact h
    have hb:(c != 91)=true:=(by simpa using hc);rw[qs5,List.dropWhile_cons,if_pos hb,if_pos hb,qqB,<- ih this]
theorem qf0 {a:Str}{t:Str}(h:∀ c∈a,c≠91):jK (a++91::t)=a:=by
 unfold jK
 induction a with
 | nil=>simp
 | cons c r ih=>
  have hb:(c != 91)=true:=by simpa using h c (by simp)
  rw[qqB,qs5,if_pos hb,ih fun x hx=>h x (by simp[hx])]
theorem qfp {a:Str}{t:Str}(h:∀ c∈a,c≠91):Yo (a++91::t)=t:=by
 unfold Yo
 induction a with
 | nil=>simp
 | cons c r ih=>
  have hb:(c != 91)=true:=by simpa using h c (by simp)
  rw[qqB,List.dropWhile_cons,if_pos hb,ih fun x hx=>h x (by simp[hx])]
theorem ql7 {a:Str}{i:Nat}:(z9 a i).contains 91=true:=by simp[z9]
theorem jp.has {s a:Str}{i:Nat}(h:jp s a i):s.contains 91=true/\jK s=a/\Yo s=[UInt8.ofNat (48+i),93]:=by
 obtain⟨h1,h2,rfl⟩:=h;exact⟨ql7,qf0 (wv h2),qfp (wv h2)⟩
theorem Vu {s:Str}(h:s.contains 91=false):yS s=none:=by
 rw[yy];intro a i hi;rw[hi.has.1]at h;cases h
def qR {α:Type}(f:α->Int):List α->Int
 | []=>0
 | a::r=>if f a=0 then qR f r else f a
theorem jS {α:Type}{f:α->Int}:∀ {l m:List α},qR f (l++m)=if qR f l=0 then qR f m else qR f l
 | [],m=>by simp[qR]
 | a::r,m=>by
  simp only[qqB,qR];split
  . exact jS
  . rename_i h;simp
theorem zf {α:Type}{f:α->Int}:∀ {l:List α},qR f l=0↔∀ a∈l,f a=0
 | []=>by simp[qR]
 | a::r=>by
  simp only[qR,qqv,forall_eq_or_imp];split
  . rename_i h;simp[h,zf]
  . rename_i h;simp[h]
noncomputable def jL (v:Var):Int :=
 if yW v.name=false then 7
 else if v.width<1\/8<v.width\/v.mode<0\/2<v.mode\/v.value<0\/(2:Int) ^ v.width.toNat<=v.value\/(v.mode≠0/\v.value≠0) then 1
 else 0
def vC (l:List Var)(name:Str):Bool:=l.any fun v=>v.name==name
def vY (l:List Var)(i:Nat):Bool:=match l[i]? with
 | some v=>vC (l.take i) v.name
 | none=>false
def qny (l:List Var):Bool:=(List.range l.length).any (vY l)
open Classical in
noncomputable def Jv (l:List Var)(name:Str):Bool:=match yS name with
 | some (a,i+1)=>!vC l (z9 a i)
 | _=>false
def yg:List Var->Int
 | []=>0
 | v::r=>(if v.mode≠0 then v.width else 0)+yg r
noncomputable def z8 (l:List Var):Int :=
 if 16<l.length then 2
 else if qR jL l≠0 then qR jL l
 else if qny l=true then 8
 else if l.any (fun v=>Jv l v.name)=true then 10
 else if 20<yg l then 2
 else 0
mutual
theorem Ex.ind {p:Ex->Prop}(h:∀ e,(∀ a∈e.args,p a)->p e):∀ e,p e
 | .mk o n s a=>h _ (by simpa using Ex.indL h a)
theorem Ex.indL {p:Ex->Prop}(h:∀ e,(∀ a∈e.args,p a)->p e):∀ (l:List Ex),∀ a∈l,p a
 | [],_,hm=>by cases hm
 | e::r,a,hm=>by
  rcases qqv.1 hm with hm|hm
  . rw[hm];exact Ex.ind h e
  . exact Ex.indL h r a hm
end
mutual
def pre:Ex->List Ex
 | .mk o n s a=>.mk o n s a::wM a
def wM:List Ex->List Ex
 | []=>[]
 | e::r=>pre e++wM r
end
theorem jc (e:Ex):pre e=e::wM e.args:=by cases e;simp[pre]
@[simp]theorem preL_nil:wM []=[]:=by simp[wM]
@[simp]theorem yI {e:Ex}{r:List Ex}:wM (e::r)=pre e++wM r:=by simp[wM]
theorem wL:∀ {l m:List Ex},wM (l++m)=wM l++wM m
 | [],m=>by simp
 | e::r,m=>by simp[wL (l:=r),qqC]
mutual
def hgt:Ex->Nat
 | .mk _ _ _ a=>Ju a+1
def Ju:List Ex->Nat
 | []=>0
 | e::r=>max (hgt e) (Ju r)
end
theorem vo (e:Ex):hgt e=Ju e.args+1:=by cases e;simp[hgt]
@[simp]theorem qlL:Ju []=0:=by simp[Ju]
@[simp]theorem Zs {e:Ex}{r:List Ex}:Ju (e::r)=max (hgt e) (Ju r):=by simp[Ju]
theorem qlM {l:List Ex}{e:Ex}(h:e∈l):hgt e<=Ju l:=by
 induction l with
 | nil=>cases h
 | cons a r ih=>
  rcases qqv.1 h with rfl|h
  . simp;omega
  . have:=ih h;simp;omega
theorem qiv {e a:Ex}(h:a∈e.args):hgt a<hgt e:=by
 have:=qlM h;rw[vo e];omega
theorem wR {l:List Ex}{x:Ex}:x∈wM l↔∃ a∈l,x∈pre a:=by
 induction l with
 | nil=>simp
 | cons e r ih=>simp[ih]
def zy (op:Int):Int :=
 if op=1\/op=2\/op=24 then 0
 else if op=3\/op=4\/op=5\/op=6\/op=25 then 1
 else if op=22 then 3
 else if op=23 then -1
 else if op<1\/25<op then -1
 else 2
def qj (e:Ex):Bool :=
 if e.op=23 then decide (e.args.length % 2=1/\3<=e.args.length/\e.args.length<=33)
 else decide ((e.args.length:Int)=zy e.op)
noncomputable def qr (e:Ex):Int :=
 if e.op<1\/25<e.op then 1
 else if (e.op=1/\(e.n<0\/65535<e.n))\/(e.op≠1/\e.n≠0) then 1
 else if (¬ (e.op=2\/e.op=3\/e.op=24)/\e.name≠[])\/qj e=false then 1
 else if (e.op=2/\yW e.name=false)\/((e.op=3\/e.op=24)/\zY e.name=false) then 7
 else 0
def vy (e:Ex):Int:=IntKind.i64.wrap (pre e).length
noncomputable def zk (e:Ex):Int :=
 if qR qr (pre e)=0/\(24<hgt e\/400<vy e) then 2 else qR qr (pre e)
def KF (ops:List Int)(out:List Str)(e:Ex):List Str:=if ops.contains e.op&&!out.contains e.name then out++[e.name] else out
def zJ (ops:List Int)(e:Ex):List Str:=(pre e).foldl (KF ops) []
theorem qmK {ops:List Int}{out:List Str}{e:Ex}{s:Str}:s∈KF ops out e↔s∈out\/(ops.contains e.op=true/\s=e.name):=by
 unfold KF;by_cases h1:e.op∈ops
 . by_cases h2:e.name∈out
   . simp only[qtF.2 h1,qtF.2 h2,qtd,qsT,qqq,if_false,true_and];constructor
     . exact .inl
     . rintro (h|rfl)
       . exact h
       . exact h2
   . simp[h1,h2]
 . simp[h1]
theorem qbB {ops:List Int}{s:Str}:∀ {l:List Ex} {out:List Str},s∈l.foldl (KF ops) out↔s∈out\/∃ e∈l,ops.contains e.op=true/\s=e.name
 | [],out=>by simp
 | e::r,out=>by
  rw[qqV,qbB,qmK];simp only[qqv,exists_eq_or_imp];constructor
  . rintro ((h|h)|h)
    . exact .inl h
    . exact .inr (.inl h)
    . exact .inr (.inr h)
  . rintro (h|h|h)
    . exact .inl (.inl h)
    . exact .inl (.inr h)
    . exact .inr h
theorem jR {ops:List Int}{e:Ex}{s:Str}:s∈zJ ops e↔∃ x∈pre e,ops.contains x.op=true/\s=x.name:=by
 unfold zJ;rw[qbB];simp
def ZE (e:Ex):Bool:=(pre e).any fun x=>decide (x.op=3\/x.op=24)
def QQ (l:List Var)(e:Ex):Bool:=(pre e).any fun x=>decide (x.op=2)&&!vC l x.name
theorem Qq {e:Ex}:decide (0<(zJ [3,24] e).length)=ZE e:=by
 rw[qq1,decide_eq_true_iff,List.length_pos_iff_exists_mem,ZE,qqr];constructor
 . rintro⟨s,hs⟩;obtain⟨x,h1,h2,_⟩:=jR.1 hs;exact⟨x,h1,by simpa using h2⟩
 . rintro⟨x,h1,h2⟩;exact⟨x.name,jR.2 ⟨x,h1,by simpa using h2,rfl⟩⟩
theorem Qn {l:List Var}{e:Ex}:(zJ [2] e).any (fun s=>!vC l s)=QQ l e:=by
 rw[qq1,QQ,qqr,qqr];constructor
 . rintro⟨s,hs,h⟩;obtain⟨x,h1,h2,rfl⟩:=jR.1 hs;exact⟨x,h1,by simp only[qp9,decide_eq_true_eq];exact⟨by simpa using h2,h⟩⟩
 . rintro⟨x,h1,h2⟩;simp only[qp9,decide_eq_true_eq]at h2;exact⟨x.name,jR.2 ⟨x,h1,by simpa using h2.1,rfl⟩,h2.2⟩
noncomputable def zg (l:List Var)(e:Ex):Int :=
 if zk e≠0 then zk e else if ZE e=true then 9 else if QQ l e=true then 7 else 0
def yq (l:List Var)(i:Int):Bool:=decide (0<=i)&&(l[i.toNat]?).any fun v=>v.mode != 0
def zO (w:Weight):Bool:=decide (w.lo<0)||decide (w.hi<w.lo)||decide (65535<w.hi)||decide (w.weight<0)||decide (1000<w.weight)
def jE (l:List Var)(d:List Dist)(i:Nat):Int:=match d[i]? with
 | some x=>if yq l x.var=false then 1 else if (d.take i).any (fun y=>y.var==x.var)=true then 8 else if 16<x.weights.length then 2 else if x.weights.any zO=true then 1 else 0
 | none=>0
def ye (l:List Var)(d:List Dist):Int:=qR (jE l d) (List.range d.length)
def jT (l:List Var)(g:List (List Int)):Prop:=(∀ x∈g,x≠[])/\(∀ i∈g.flatten,yq l i=true)/\g.flatten.Nodup/\∀ i:Nat,i<l.length->yq l i=true->(i:Int)∈g.flatten
open Classical in
noncomputable def zG (l:List Var)(g:List (List Int)):Int:=if jT l g then 0 else 1
noncomputable def qi (p:Problem):Int :=
 if z8 p.vars≠0 then z8 p.vars
 else if qR (zg p.vars) (p.hard++p.soft)≠0 then qR (zg p.vars) (p.hard++p.soft)
 else if ye p.vars p.dists≠0 then ye p.vars p.dists
 else zG p.vars p.groups
def zK (l:List Var)(i:Nat):Int:=match l[i]? with
 | some v=>v.width
 | none=>0
end Go.Proofs.YtoibbcnfhhggnaaGreatDoor
end
section
namespace Go.Abs
open Go Go.RowKit
def qjO (P:Program)(rs:List ResultVar)(Q:AV->St->Prop)(env:Env)(U:St):Prop :=
 match qdU (Dof P) rs env U with
 | some l=>Q (Wa l) U
 | none=>False
def qbZ (P:Program)(rs:List ResultVar)(Q:AV->St->Prop):Exit->Env->St->Prop
 | .ret,env,U=>qjO P rs Q env U
 | .normal,env,U=>qjO P rs Q env U
 | _,_,_=>False
attribute [simp] qjO qbZ
section
variable {P:Program}{G:Glo}{U:St}{f:FuncId}{args:List AV}{Q:AV->St->Prop}
theorem qg.vcO {fn : Func} {c : Code} (o : Opts) (hm : P.follows .mixedOrders = true) (hf : P.funcs[f]? = some fn) (hb : fn.body = some c) (hk : (jH fn.ntmps o c && decide (args.length ≤ fn.ntmps) && fn.name != "runtime.NumGoroutine") = true)
 (h:vcC P G o c (Z4 args) U (qbZ P fn.results.toList Q)):qg P G f args U Q:=by
 simp only[qp9,decide_eq_true_eq,bne_iff_ne,ne_eq]at hk;refine qg.of_body hf hb hk.2 hk.1.2 (AWp.mono (yj hm c hk.1.1 h) fun e env U hq=>?_);have key:qjO P fn.results.toList Q env U->∃ l,qdU (Dof P) fn.results.toList env U=some l/\Q (Wa l) U:=fun h=>by
  unfold qjO at h;split at h
  . rename_i l hl;exact⟨l,hl,h⟩
  . exact h.elim
 cases e with
 | ret=>exact⟨.inl rfl,key hq⟩
 | normal=>exact⟨.inr rfl,key hq⟩
 | _=>exact hq.elim
theorem qg.vc {fn : Func} {c : Code} (hm : P.follows .mixedOrders = true) (hf : P.funcs[f]? = some fn) (hb : fn.body = some c) (hk : (jH fn.ntmps o0 c && decide (args.length ≤ fn.ntmps) && fn.name != "runtime.NumGoroutine") = true)
 (h:vcC P G o0 c (Z4 args) U (qbZ P fn.results.toList Q)):qg P G f args U Q:=qg.vcO o0 hm hf hb hk h
end
end Go.Abs
namespace Go.Proofs.YtoibbcnfhhggnaaGreatDoor
open Go Go.Abs
def Zb {S:Type}(stp:S->Ex->S×Bool):S->List Ex->S×Bool
 | s,[]=>(s,true)
 | s,e::r=>if (stp s e).2=true then Zb stp (stp s e).1 r else ((stp s e).1,false)
theorem YB {S:Type}{stp:S->Ex->S×Bool}:∀ {s:S} {l m:List Ex},Zb stp s (l++m)=if (Zb stp s l).2=true then Zb stp (Zb stp s l).1 m else Zb stp s l
 | s,[],m=>by simp[Zb]
 | s,e::r,m=>by
  simp only[qqB,Zb];split
  . exact YB
  . simp
theorem YA {S:Type}{stp:S->Ex->S×Bool}(h:∀ s e,(stp s e).2=true):∀ (s:S) (l:List Ex),Zb stp s l=(l.foldl (fun s e=>(stp s e).1) s,true)
 | s,[]=>rfl
 | s,e::r=>by simp only[Zb,h,if_true,qqV];exact YA h _ r
theorem Wl {f:Ex->Int}:∀ (s:Int) (l:List Ex),(Zb (fun _ e=>(f e,f e==0)) s l).1=if l=[] then s else qR f l
 | s,[]=>rfl
 | s,e::r=>by
  simp only[Zb,qR,beq_iff_eq,reduceCtorEq,if_false];by_cases h:f e=0
  . rw[if_pos h,if_pos h,Wl];split
    . rename_i hr;subst hr;simp[qR,h]
    . rfl
  . rw[if_neg h,if_neg h]
theorem qdp {m n:Int}:IntKind.i64.wrap (IntKind.i64.wrap m+n)=IntKind.i64.wrap (m+n):=by
 simp[IntKind.wrap,IntKind.bits,IntKind.signed];omega
theorem WL {n:Int}:∀ (l:List Ex),l.foldl (fun s _=>IntKind.i64.wrap (s+1)) (IntKind.i64.wrap n)=IntKind.i64.wrap (n+l.length)
 | []=>by simp
 | e::r=>by
  rw[qqV,qdp,WL r];congr 1;simp;omega
theorem kW {l:List Var}{g:List (List Int)}(h : []∈g):¬ jT l g:=fun ⟨h1,_⟩=>h1 _ h rfl
theorem WJ {l:List Var}{g:List (List Int)}{i:Int}(h:i∈g.flatten)(hr:yq l i=false):¬ jT l g:=fun ⟨_,h2,_⟩=>by
 have:=h2 i h;rw[hr]at this;cases this
theorem qf1 {l:List Var}{g:List (List Int)}{i:Int}{done rest:List Int}(h:g.flatten=done++i::rest)(hi:i∈done):¬ jT l g:=fun ⟨_,_,h3,_⟩=>by
 rw[h,qqZ]at h3;exact h3.2.2 i hi i (by simp) rfl
theorem qcN {l:List Var}{g:List (List Int)}{i:Nat}(hi:i<l.length)(hr:yq l i=true)(h:(i:Int)∉g.flatten):¬ jT l g:=fun ⟨_,_,_,h4⟩=>h (h4 i hi hr)
theorem ZO {l:List Var}{i:Int}(h:yq l i=true):0<=i/\i<l.length:=by
 simp only[yq,qp9,decide_eq_true_eq]at h;obtain⟨h0,h1⟩:=h;refine⟨h0,?_⟩;apply Classical.byContradiction;intro hn;rw[qqG (by omega)]at h1;simp at h1
theorem qbr {l:List Var}{g:List (List Int)}(h1:∀ x∈g,x≠[])(h2:∀ i∈g.flatten,0<=i/\i<(l.length:Int)) :
 jT l g↔∀ i:Nat,i<l.length->g.flatten.count (i:Int)=if yq l i=true then 1 else 0:=by
 constructor
 . rintro⟨_,k2,k3,k4⟩ i hi;split
   . rename_i hr;have:=List.nodup_iff_count.1 k3 (i:Int);have:=qs9.2 (k4 i hi hr);omega
   . rename_i hr;apply List.count_eq_zero.2;intro hm;exact hr (k2 _ hm)
 . intro h;have cnt:∀ i∈g.flatten,g.flatten.count i=1/\yq l i=true:=by
    intro i hi;obtain⟨a,b⟩:=h2 i hi;have hc:=h i.toNat (by omega);have e:((i.toNat:Nat):Int)=i:=(by omega);rw[e]at hc;have:=qs9.2 hi;split at hc
    . rename_i hr;exact⟨hc,hr⟩
    . omega
   refine⟨h1,fun i hi=>(cnt i hi).2,?_,?_⟩
   . rw[List.nodup_iff_count];intro i;by_cases hi:i∈g.flatten
     . rw[(cnt i hi).1];exact qqf _
     . rw[List.count_eq_zero.2 hi];omega
   . intro i hi hr;have hc:=h i hi;rw[if_pos hr]at hc;exact qs9.1 (by omega)
end Go.Proofs.YtoibbcnfhhggnaaGreatDoor
namespace Go.Proofs.YtoibbcnfhhggnaaGreatDoor
open Go Go.Abs
end Go.Proofs.YtoibbcnfhhggnaaGreatDoor
end
section
namespace Go.Proofs.YtoibbcnfhhggnaaGreatDoor
open Go Go.Abs
def GG (g:Nat):AV:=match g with
 | 0=>.rptr [.sl 1 (qb4.map ja) .none]
 | _=>.any
section
section
variable (G:Nat->AV)
theorem has325 (l:List Str)(s:Str)(hl:Fits l):Pure Tryz.prog G 204 [.sl 1 (l.map ja) .none,.str s] (.bool (l.any (· == s))):=by
 refine Pure.vc qe Tryz.func204 rfl (by kernel_rfl) ?_;simp;refine qD.intro (fun n env U=>∃ i,i<=l.length/\n=l.length-i/\env 0=.sl 1 (l.map ja) .none/\env 1=.str s/\env 5=.int .i64 i/\U=⟨[],[]⟩/\l.any (· == s)=(l.drop i).any (· == s)) l.length ⟨0,by simp⟩ ?_;rintro n env U ⟨i,hi,rfl,h0,h1,h5,rfl,hf⟩
 cases hv:l[i]? with
 | some v=>
  obtain⟨hc,hv'⟩:=qp5.1 hv;rw[zB hv]at hf;by_cases he:v=s
  . subst he;simp[h0,h1,h5,hc,hv',hf]
  . have he':(v==s)=false:=(by simpa using he);simp[h0,h1,h5,hc,hv',he];refine⟨_,by omega,i+1,by omega,rfl,wr (by omega) (by omega),?_⟩;rw[hf,qse,he',qst]
 | none=>
  have hc:¬ i<l.length:=by simp at hv;omega
  have hd:l.drop i=[]:=by simp;omega
  have hz:∀ x∈l,¬ x=s:=by
   intro x hx e;have:l.any (· == s)=true:=qqr.2 ⟨x,hx,by simp[e]⟩;rw[hf,hd]at this;cases this
  simp[h0,h1,h5,hc];exact hz
theorem qex (l:List Str)(s:Str)(hl:Fits l):Pure Tryz.prog G 148 [.sl 1 (l.map ja) .none,.str s] (.bool (l.any (· == s))):=by
 refine Pure.vc qe Tryz.func148 rfl (by kernel_rfl) ?_;simp;refine qD.intro (fun n env U=>∃ i,i<=l.length/\n=l.length-i/\env 0=.sl 1 (l.map ja) .none/\env 1=.str s/\env 5=.int .i64 i/\U=⟨[],[]⟩/\l.any (· == s)=(l.drop i).any (· == s)) l.length ⟨0,by simp⟩ ?_;rintro n env U ⟨i,hi,rfl,h0,h1,h5,rfl,hf⟩
 cases hv:l[i]? with
 | some v=>
  obtain⟨hc,hv'⟩:=qp5.1 hv;rw[zB hv]at hf;by_cases he:v=s
  . subst he;simp[h0,h1,h5,hc,hv',hf]
  . have he':(v==s)=false:=(by simpa using he);simp[h0,h1,h5,hc,hv',he];refine⟨_,by omega,i+1,by omega,rfl,wr (by omega) (by omega),?_⟩;rw[hf,qse,he',qst]
 | none=>
  have hc:¬ i<l.length:=by simp at hv;omega
  have hd:l.drop i=[]:=by simp;omega
  have hz:∀ x∈l,¬ x=s:=by
   intro x hx e;have:l.any (· == s)=true:=qqr.2 ⟨x,hx,by simp[e]⟩;rw[hf,hd]at this;cases this
  simp[h0,h1,h5,hc];exact hz
theorem qlJ (l:List Str)(s:Str)(hl:Fits l):Pure Tryz.prog G 213 [.sl 1 (l.map ja) .none,.str s] (.int .i64 (zr (fun v=>s==v) l 0)):=by
 refine Pure.vc qe Tryz.func213 rfl (by kernel_rfl) ?_;simp;refine qD.intro (fun n env U=>∃ i,i<=l.length/\n=l.length-i/\env 0=.sl 1 (l.map ja) .none/\env 1=.str s/\env 7=.int .i64 l.length/\env 8=.int .i64 i/\U=⟨[],[]⟩/\zr (fun v=>s==v) l 0=zr (fun v=>s==v) (l.drop i) i) l.length ⟨0,by simp⟩ ?_;rintro n env U ⟨i,hi,rfl,h0,h1,h7,h8,rfl,hf⟩
 cases hv:l[i]? with
 | some v=>
  obtain⟨hc,hv'⟩:=qp5.1 hv;rw[zB hv]at hf;by_cases he:s=v
  . subst he;simp[h0,h1,h7,h8,hc,hv',hf,zr]
  . have he':(s==v)=false:=(by simpa using he);simp[h0,h1,h7,h8,hc,hv',he];refine⟨_,by omega,i+1,by omega,rfl,wr (by omega) (by omega),?_⟩;rw[hf,zr,he'];simp
 | none=>
  have hc:¬ i<l.length:=by simp at hv;omega
  have hd:l.drop i=[]:=by simp;omega
  simp[h0,h1,h7,h8,hc,hf,hd,zr]
theorem QW (l:List Str)(s:Str)(hl:Fits l):Pure Tryz.prog G 162 [.sl 1 (l.map ja) .none,.str s] (.bool (l.any (fun v=>s==v))):=by
 refine Pure.vc qe Tryz.func162 rfl (by kernel_rfl) ?_;simp;refine qb.call (qlJ G l s hl) (by simp) ?_;simp
theorem qlI (l:List Int)(s:Int)(hl:Fits l):Pure Tryz.prog G 86 [.sl 1 (l.map qy) .none,.int .i64 s] (.int .i64 (zr (fun v=>s==v) l 0)):=by
 refine Pure.vc qe Tryz.func86 rfl (by kernel_rfl) ?_;simp;refine qD.intro (fun n env U=>∃ i,i<=l.length/\n=l.length-i/\env 0=.sl 1 (l.map qy) .none/\env 1=.int .i64 s/\env 7=.int .i64 l.length/\env 8=.int .i64 i/\U=⟨[],[]⟩/\zr (fun v=>s==v) l 0=zr (fun v=>s==v) (l.drop i) i) l.length ⟨0,by simp⟩ ?_;rintro n env U ⟨i,hi,rfl,h0,h1,h7,h8,rfl,hf⟩
 cases hv:l[i]? with
 | some v=>
  obtain⟨hc,hv'⟩:=qp5.1 hv;rw[zB hv]at hf;by_cases he:s=v
  . subst he;simp[h0,h1,h7,h8,hc,hv',hf,zr]
  . have he':(s==v)=false:=(by simpa using he);simp[h0,h1,h7,h8,hc,hv',he];refine⟨_,by omega,i+1,by omega,rfl,wr (by omega) (by omega),?_⟩;rw[hf,zr,he'];simp
 | none=>
  have hc:¬ i<l.length:=by simp at hv;omega
  have hd:l.drop i=[]:=by simp;omega
  simp[h0,h1,h7,h8,hc,hf,hd,zr]
theorem w8 (l:List Int)(s:Int)(hl:Fits l):Pure Tryz.prog G 55 [.sl 1 (l.map qy) .none,.int .i64 s] (.bool (l.any (fun v=>s==v))):=by
 refine Pure.vc qe Tryz.func55 rfl (by kernel_rfl) ?_;simp;refine qb.call (qlI G l s hl) (by simp) ?_;simp
theorem qcT (l:List Var)(s:Str)(hl:Fits l):Pure Tryz.prog G 41 [.sl 4 (l.map qo) .none,.str s] (.int .i64 (zr (fun v=>v.name==s) l 0)):=by
 refine Pure.vc qe Tryz.func41 rfl (by kernel_rfl) ?_;simp;refine qD.intro (fun n env U=>∃ i,i<=l.length/\n=l.length-i/\env 0=.sl 4 (l.map qo) .none/\env 1=.str s/\env 5=.int .i64 i/\U=⟨[],[]⟩/\zr (fun v=>v.name==s) l 0=zr (fun v=>v.name==s) (l.drop i) i) l.length ⟨0,by simp⟩ ?_;rintro n env U ⟨i,hi,rfl,h0,h1,h5,rfl,hf⟩
 cases hv:l[i]? with
 | some v=>
  obtain⟨hc,hv'⟩:=qp5.1 hv;rw[zB hv]at hf;by_cases he:v.name=s
  . subst he;simp[h0,h1,h5,hc,hv',hf,zr]
  . have he':(v.name==s)=false:=(by simpa using he);simp[h0,h1,h5,hc,hv',he];refine⟨_,by omega,i+1,by omega,rfl,wr (by omega) (by omega),?_⟩;rw[hf,zr,he'];simp
 | none=>
  have hc:¬ i<l.length:=by simp at hv;omega
  have hd:l.drop i=[]:=by simp;omega
  simp[h0,h1,h5,hc,hf,hd,zr]
end
end
theorem Jt (G:Nat->AV)(l:List Var)(p:Var->Bool)(f:FuncId)(first cap:List AV)(hl:Fits l)(h1:qq first=true)(h2:qq cap=true)
 (hp:∀ v∈l,Pure Tryz.prog G f (first++[.agg (qo v)]++cap) (.bool (p v))):Pure Tryz.prog G 108 [.sl 4 (l.map qo) .none,.fn f first cap] (.int .i64 (zr p l 0)):=by
 refine Pure.vc qe Tryz.func108 rfl (by kernel_rfl) ?_;simp;refine qD.intro (fun n env U=>∃ i,i<=l.length/\n=l.length-i/\env 0=.sl 4 (l.map qo) .none/\env 1=.fn f first cap/\env 7=.int .i64 l.length/\env 8=.int .i64 i/\U=⟨[],[]⟩/\zr p l 0=zr p (l.drop i) i) l.length ⟨0,by simp⟩ ?_;rintro n env U ⟨i,hi,rfl,h0,h1',h7,h8,rfl,hf⟩
 cases hv:l[i]? with
 | some v=>
  obtain⟨hc,hv'⟩:=qp5.1 hv;rw[zB hv]at hf;simp[h0,h1',h7,h8,hc,hv',hf];refine qb.call (r:=.bool (p v)) (by simpa using hp v (qp6 hv)) (by simp[ym,h1,h2]) ?_;simp[h0,h1',h7,h8,zr];refine⟨fun e=>by simp[e],fun e=>⟨_,by omega,i+1,by omega,rfl,wr (by omega) (by omega),by simp[hf,zr,e]⟩⟩
 | none=>
  have hc:¬ i<l.length:=by simp at hv;omega
  have hd:l.drop i=[]:=by simp;omega
  simp[h0,h1',h7,h8,hc,hf,hd,zr]
theorem vZ (G:Nat->AV)(l:List Var)(p:Var->Bool)(f:FuncId)(first cap:List AV)(hl:Fits l)(h1:qq first=true)(h2:qq cap=true)
 (hp:∀ v∈l,Pure Tryz.prog G f (first++[.agg (qo v)]++cap) (.bool (p v))):Pure Tryz.prog G 73 [.sl 4 (l.map qo) .none,.fn f first cap] (.bool (l.any p)):=by
 refine Pure.vc qe Tryz.func73 rfl (by kernel_rfl) ?_;simp;refine qb.call (Jt G l p f first cap hl h1 h2 hp) (by simp[h1,h2]) ?_;simp
theorem VG (G:Nat->AV)(l:List Dist)(p:Dist->Bool)(f:FuncId)(first cap:List AV)(hl:Fits l)(h1:qq first=true)(h2:qq cap=true)
 (hp:∀ v∈l,Pure Tryz.prog G f (first++[.agg (zM v)]++cap) (.bool (p v))):Pure Tryz.prog G 118 [.sl 2 (l.map zM) .none,.fn f first cap] (.int .i64 (zr p l 0)):=by
 refine Pure.vc qe Tryz.func118 rfl (by kernel_rfl) ?_;simp;refine qD.intro (fun n env U=>∃ i,i<=l.length/\n=l.length-i/\env 0=.sl 2 (l.map zM) .none/\env 1=.fn f first cap/\env 7=.int .i64 l.length/\env 8=.int .i64 i/\U=⟨[],[]⟩/\zr p l 0=zr p (l.drop i) i) l.length ⟨0,by simp⟩ ?_;rintro n env U ⟨i,hi,rfl,h0,h1',h7,h8,rfl,hf⟩
 cases hv:l[i]? with
 | some v=>
  obtain⟨hc,hv'⟩:=qp5.1 hv;rw[zB hv]at hf;simp[h0,h1',h7,h8,hc,hv',hf];refine qb.call (r:=.bool (p v)) (by simpa using hp v (qp6 hv)) (by simp[ym,h1,h2]) ?_;simp[h0,h1',h7,h8,zr];refine⟨fun e=>by simp[e],fun e=>⟨_,by omega,i+1,by omega,rfl,wr (by omega) (by omega),by simp[hf,zr,e]⟩⟩
 | none=>
  have hc:¬ i<l.length:=by simp at hv;omega
  have hd:l.drop i=[]:=by simp;omega
  simp[h0,h1',h7,h8,hc,hf,hd,zr]
theorem JO (G:Nat->AV)(l:List Dist)(p:Dist->Bool)(f:FuncId)(first cap:List AV)(hl:Fits l)(h1:qq first=true)(h2:qq cap=true)
 (hp:∀ v∈l,Pure Tryz.prog G f (first++[.agg (zM v)]++cap) (.bool (p v))):Pure Tryz.prog G 83 [.sl 2 (l.map zM) .none,.fn f first cap] (.bool (l.any p)):=by
 refine Pure.vc qe Tryz.func83 rfl (by kernel_rfl) ?_;simp;refine qb.call (VG G l p f first cap hl h1 h2 hp) (by simp[h1,h2]) ?_;simp
theorem qbn (G:Nat->AV)(l:List Str)(p:Str->Bool)(f:FuncId)(first cap:List AV)(hl:Fits l)(h1:qq first=true)(h2:qq cap=true)
 (hp:∀ v∈l,Pure Tryz.prog G f (first++[.str v]++cap) (.bool (p v))):Pure Tryz.prog G 117 [.sl 1 (l.map ja) .none,.fn f first cap] (.int .i64 (zr p l 0)):=by
 refine Pure.vc qe Tryz.func117 rfl (by kernel_rfl) ?_;simp;refine qD.intro (fun n env U=>∃ i,i<=l.length/\n=l.length-i/\env 0=.sl 1 (l.map ja) .none/\env 1=.fn f first cap/\env 7=.int .i64 l.length/\env 8=.int .i64 i/\U=⟨[],[]⟩/\zr p l 0=zr p (l.drop i) i) l.length ⟨0,by simp⟩ ?_;rintro n env U ⟨i,hi,rfl,h0,h1',h7,h8,rfl,hf⟩
 cases hv:l[i]? with
 | some v=>
  obtain⟨hc,hv'⟩:=qp5.1 hv;rw[zB hv]at hf;simp[h0,h1',h7,h8,hc,hv',hf];refine qb.call (r:=.bool (p v)) (by simpa using hp v (qp6 hv)) (by simp[ym,h1,h2]) ?_;simp[h0,h1',h7,h8,zr];refine⟨fun e=>by simp[e],fun e=>⟨_,by omega,i+1,by omega,rfl,wr (by omega) (by omega),by simp[hf,zr,e]⟩⟩
 | none=>
  have hc:¬ i<l.length:=by simp at hv;omega
  have hd:l.drop i=[]:=by simp;omega
  simp[h0,h1',h7,h8,hc,hf,hd,zr]
theorem Kx (G:Nat->AV)(l:List Str)(p:Str->Bool)(f:FuncId)(first cap:List AV)(hl:Fits l)(h1:qq first=true)(h2:qq cap=true)
 (hp:∀ v∈l,Pure Tryz.prog G f (first++[.str v]++cap) (.bool (p v))):Pure Tryz.prog G 79 [.sl 1 (l.map ja) .none,.fn f first cap] (.bool (l.any p)):=by
 refine Pure.vc qe Tryz.func79 rfl (by kernel_rfl) ?_;simp;refine qb.call (qbn G l p f first cap hl h1 h2 hp) (by simp[h1,h2]) ?_;simp
theorem vT (G:Nat->AV)(l:List Weight)(p:Weight->Bool)(f:FuncId)(first cap:List AV)(hl:Fits l)(h1:qq first=true)(h2:qq cap=true)
 (hp:∀ v∈l,Pure Tryz.prog G f (first++[.agg (qE v)]++cap) (.bool (p v))):Pure Tryz.prog G 163 [.sl 4 (l.map qE) .none,.fn f first cap] (.int .i64 (zr p l 0)):=by
 refine Pure.vc qe Tryz.func163 rfl (by kernel_rfl) ?_;simp;refine qD.intro (fun n env U=>∃ i,i<=l.length/\n=l.length-i/\env 0=.sl 4 (l.map qE) .none/\env 1=.fn f first cap/\env 7=.int .i64 l.length/\env 8=.int .i64 i/\U=⟨[],[]⟩/\zr p l 0=zr p (l.drop i) i) l.length ⟨0,by simp⟩ ?_;rintro n env U ⟨i,hi,rfl,h0,h1',h7,h8,rfl,hf⟩
 cases hv:l[i]? with
 | some v=>
  obtain⟨hc,hv'⟩:=qp5.1 hv;rw[zB hv]at hf;simp[h0,h1',h7,h8,hc,hv',hf];refine qb.call (r:=.bool (p v)) (by simpa using hp v (qp6 hv)) (by simp[ym,h1,h2]) ?_;simp[h0,h1',h7,h8,zr];refine⟨fun e=>by simp[e],fun e=>⟨_,by omega,i+1,by omega,rfl,wr (by omega) (by omega),by simp[hf,zr,e]⟩⟩
 | none=>
  have hc:¬ i<l.length:=by simp at hv;omega
  have hd:l.drop i=[]:=by simp;omega
  simp[h0,h1',h7,h8,hc,hf,hd,zr]
theorem ZB (G:Nat->AV)(l:List Weight)(p:Weight->Bool)(f:FuncId)(first cap:List AV)(hl:Fits l)(h1:qq first=true)(h2:qq cap=true)
 (hp:∀ v∈l,Pure Tryz.prog G f (first++[.agg (qE v)]++cap) (.bool (p v))):Pure Tryz.prog G 119 [.sl 4 (l.map qE) .none,.fn f first cap] (.bool (l.any p)):=by
 refine Pure.vc qe Tryz.func119 rfl (by kernel_rfl) ?_;simp;refine qb.call (vT G l p f first cap hl h1 h2 hp) (by simp[h1,h2]) ?_;simp
section
section
variable (G:Nat->AV)
theorem VA (n:Int):Pure Tryz.prog G 207 [.int .i32 n] (.bool (kV n)):=by
 refine Pure.vc qe Tryz.func207 rfl (by kernel_rfl) ?_;by_cases h1:97<=n<;>by_cases h2:n<=122<;>simp[kV,h1,h2]
theorem qmb (n:Int):Pure Tryz.prog G 263 [.int .i32 n] (.bool (Jy n)):=by
 refine Pure.vc qe Tryz.func263 rfl (by kernel_rfl) ?_;by_cases h1:48<=n<;>by_cases h2:n<=57<;>simp[Jy,h1,h2]
theorem qdN (n:Int):Pure Tryz.prog G 149 [.int .u8 n] (.bool (kV n)):=by
 refine Pure.vc qe Tryz.func149 rfl (by kernel_rfl) ?_;by_cases h1:97<=n<;>by_cases h2:n<=122<;>simp[kV,h1,h2]
theorem qmc (n:Int):Pure Tryz.prog G 206 [.int .u8 n] (.bool (Jy n)):=by
 refine Pure.vc qe Tryz.func206 rfl (by kernel_rfl) ?_;by_cases h1:48<=n<;>by_cases h2:n<=57<;>simp[Jy,h1,h2]
theorem ZZ (n:Int):Pure Tryz.prog G 208 [.int .i32 n] (.bool (km n)):=by
 refine Pure.vc qe Tryz.func208 rfl (by kernel_rfl) ?_;simp;refine qb.call (VA G n) rfl ?_;cases hl:kV n
 . simp;refine qb.call (qmb G n) rfl ?_;cases hd:Jy n
   . by_cases h1:65<=n<;>by_cases h2:n<=90<;>by_cases h3:n=95<;>simp[km,hl,hd,h1,h2,h3]
   . simp[km,hl,hd]
 . simp[km,hl]
theorem qlH (n:Int):Pure Tryz.prog G 151 [.int .u8 n] (.bool (km n)):=by
 refine Pure.vc qe Tryz.func151 rfl (by kernel_rfl) ?_;simp;refine qb.call (qdN G n) rfl ?_;cases hl:kV n
 . simp;refine qb.call (qmc G n) rfl ?_;cases hd:Jy n
   . by_cases h1:65<=n<;>by_cases h2:n<=90<;>by_cases h3:n=95<;>simp[km,hl,hd,h1,h2,h3]
   . simp[km,hl,hd]
 . simp[km,hl]
end
end
section
section
variable (G:Nat->AV)
theorem dec_lo {s:Str}{pos:Nat}(h:pos<s.length)(hl:(s[pos]).toNat<128):Utf8.decode ⟨s.toArray⟩ pos=((s[pos]).toNat,1):=by
 have:=Go.decode_ascii ⟨s.toArray⟩ pos (by simpa[ByteArray.size] using h) hl;exact this
theorem dec_hi {s:Str}{pos:Nat}(h:pos<s.length)(hl:128<=(s[pos]).toNat):128<=(Utf8.decode ⟨s.toArray⟩ pos).1:=by
 have:=Go.decode_high ⟨s.toArray⟩ pos (by simpa[ByteArray.size] using h) hl;exact this.1
theorem qbm {n:Int}(h:128<=n):km n=false:=by
 simp[km,kV,Jy];omega
theorem Q3 {s:Str}{c:UInt8}(h:c∈s)(hc:Zr c=false):Qs s=false:=by
 cases s with
 | nil=>cases h
 | cons a r=>
  have:(a::r).all Zr=false:=by
   rw[qrg];intro e;rw[qqi.1 e c h]at hc;cases hc
  simp only[Qs,this,qsT]
theorem qe6 {c:UInt8}{r:Str}(h:kV c.toNat=false):Qs (c::r)=false:=by simp[Qs,h]
theorem qnU (s:Str):Pure Tryz.prog G 153 [.str s] (.bool (Qs s)):=by
 refine Pure.vc qe Tryz.func153 rfl (by kernel_rfl) ?_;simp;refine qD.intro (fun n env U=>∃ pos,pos<=s.length/\n=s.length-pos/\env 0=.str s/\env 6=.iter 0/\U=⟨[.siter s pos],[]⟩/\(∀ c∈s.take pos,Zr c=true)/\(0<pos->∀ c r,s=c::r->kV c.toNat=true)) s.length ⟨0,by simp⟩ ?_;rintro n env U ⟨pos,hp,rfl,h0,h6,rfl,hall,hlow⟩;by_cases hlt:pos<s.length
 . have hmem:s[pos]∈s:=qsm hlt;by_cases hc:(s[pos]).toNat<128
   . have hd:=dec_lo hlt hc;have htake:s.take (pos+1)=s.take pos++[s[pos]]:=(by rw[qqE,qp8 hlt];rfl);have more:Zr s[pos]=true->∀ c∈s.take (pos+1),Zr c=true:=by
      intro hi c hcm;rw[htake,qqo]at hcm;rcases hcm with hcm|hcm
      . exact hall c hcm
      . rw[qqy.1 hcm];exact hi
     rcases qrh pos with rfl|hpos
     . simp[h0,h6,Vv,hlt,hd];refine qb.call (VA G _) rfl ?_;cases hl:kV (s[0].toNat:Int)
       . cases s with
         | nil=>simp at hlt
         | cons c r=>simpa using qe6 hl
       . simp;refine qb.call (ZZ G _) rfl ?_;cases hi:km (s[0].toNat:Int)
         . simpa using Q3 hmem hi
         . simp[h0,h6];refine⟨_,by omega,1,by omega,rfl,rfl,more hi,fun _ c r e=>by subst e;exact hl⟩
     . have hne:¬ pos=0:=(by omega);simp[h0,h6,Vv,hlt,hd,hne];refine qb.call (ZZ G _) rfl ?_;cases hi:km (s[pos].toNat:Int)
       . simpa using Q3 hmem hi
       . simp[h0,h6];refine⟨_,by omega,pos+1,by omega,rfl,rfl,more hi,fun _=>hlow hpos⟩
   . have hd:=dec_hi hlt (by omega);have hi:=qbm (n:=((Utf8.decode ⟨s.toArray⟩ pos).1:Int)) (by omega);have hl:kV ((Utf8.decode ⟨s.toArray⟩ pos).1:Int)=false:=by
      simp only[km,qs3]at hi;exact hi.1.1.1
     have hb:=Q3 hmem (qbm (n:=(s[pos].toNat:Int)) (by omega));rcases qrh pos with rfl|hpos
     . simp[h0,h6,Vv,hlt];refine qb.call (VA G _) rfl ?_;simpa[hl] using hb
     . have hne:¬ pos=0:=(by omega);simp[h0,h6,Vv,hlt,hne];refine qb.call (ZZ G _) rfl ?_;simpa[hi] using hb
 . have he:pos=s.length:=(by omega);subst he
   cases s with
   | nil=>simp[h0,h6,Vv,Qs]
   | cons c r=>
    have h1:Qs (c::r)=true:=by
     simp only[Qs,qp9];exact⟨hlow (by simp) c r rfl,qqi.2 fun x hx=>hall x (by simpa using hx)⟩
    simp[h0,h6,Vv,h1]
end
end
end Go.Proofs.YtoibbcnfhhggnaaGreatDoor
end
section
namespace Go.Proofs.YtoibbcnfhhggnaaGreatDoor
open Go Go.Abs Go.RowKit
theorem qmt (s:ByteArray)(c:Int)(w:World) :
 Calls Tryz.prog 264 #[.string s,.int .u8 c] w fun e w'=>e=.returned (.int .i64 (Lib.indexByte s.data.toList c.toNat.toUInt8))/\w'=w:=by
 have t3:=Tryz.underlying3;have t5:=Tryz.underlying5;have t9:=Tryz.underlying9;have a3:∀ w,(isAgg 3).run Tryz.prog w=.ok false w:=run_isAgg_plain t3 rfl;have a5:∀ w,(isAgg 5).run Tryz.prog w=.ok false w:=run_isAgg_plain t5 rfl;have a9:∀ w,(isAgg 9).run Tryz.prog w=.ok false w:=run_isAgg_plain t9 rfl
 go_enter Tryz.func264,Tryz.ntmps264
 go_wp2
 rw[run_callFunc_extern Tryz.func301 (by kernel_rfl) (by kernel_rfl) (by kernel_rfl) (e:=Extern.BytealgIndexByte.indexByte) (by kernel_rfl),Lib.run_indexByteString];simp only[Result.andThen];rw[Oper.upon_value]
 go_wp2
 go_ret
 exact⟨rfl,rfl⟩
theorem qbo (G:Nat->AV)(s:Str)(c:Int):Pure Tryz.prog G 264 [.str s,.int .u8 c] (.int .i64 (Lib.indexByte s c.toNat.toUInt8)):=by
 refine⟨by kernel_rfl,fun w0 ro vs hg hro hvs=>?_⟩;simp only[qh,qf]at hvs;obtain⟨v,vr,e1,rfl,v2,vr2,rfl,rfl,rfl⟩:=hvs;have:vs = #[.string ⟨s.toArray⟩,.int .u8 c]:=by rw[<- qrY (xs:=vs),e1]
 subst this;refine (qmt _ _ _).mono ?_;rintro e w' ⟨rfl,rfl⟩;exact⟨_,ro,rfl,.refl _ _,fun _ _ _ h=>h,hro,fun _ _ _ h _=>h,by simp[qf]⟩
end Go.Proofs.YtoibbcnfhhggnaaGreatDoor
end
section
namespace Go.Proofs.YtoibbcnfhhggnaaGreatDoor
open Go Go.Abs
theorem qlu (s:Str):qb4.any (fun v=>s==v)=qb4.contains s:=by
 rw[List.any_beq]
theorem qim (s:Str):qb4.any (fun v=>v==s)=qb4.contains s:=by
 rw[List.any_beq']
theorem qpe (s:Str):Pure Tryz.prog GG 154 [.str s] (.bool (qb4.contains s)):=by
 refine Pure.vc qe Tryz.func154 rfl (by kernel_rfl) ?_;simp[GG];refine qb.call (QW GG qb4 s (by decide)) (by simp) ?_;rw[qlu];simp
theorem vS (s:Str):Pure Tryz.prog GG 105 [.str s] (.bool (zY s)):=by
 refine Pure.vc qe Tryz.func105 rfl (by kernel_rfl) ?_;simp;refine qb.call (qnU GG s) rfl ?_;cases h1:Qs s
 . simp[zY,h1]
 . by_cases h2:s.length<=16
   . have h2':(s.length:Int)<=16:=(by omega);simp[h2'];refine qb.call (qpe s) rfl ?_;simp[zY,h1,h2]
   . have h2':¬ (s.length:Int)<=16:=(by omega);simp[zY,h1,h2,h2']
theorem qcJ:Pure Tryz.prog GG 205 [] (.sl 1 (qb4.map ja) .none):=by
 refine Pure.vc qe Tryz.func205 rfl (by kernel_rfl) ?_;simp[qk,qA,qb4]
theorem qpd (s:Str):Pure Tryz.prog GG 150 [.str s] (.bool (qb4.contains s)):=by
 refine Pure.vc qe Tryz.func150 rfl (by kernel_rfl) ?_;simp;refine qb.call qcJ rfl ?_;refine qb.call (has325 GG qb4 s (by decide)) (by simp) ?_;rw[qim];simp
theorem vR (s:Str)(hs:Fits s):Pure Tryz.prog GG 103 [.str s] (.bool (zY s)):=by
 refine Pure.vc qe Tryz.func103 rfl (by kernel_rfl) ?_
 cases s with
 | nil=>simp[zY,Qs]
 | cons c r=>
  by_cases h16:(c::r).length<=16
  . have h16':¬ (16:Int)<(r.length:Int)+1:=(by simp at h16;omega);simp[h16'];refine qb.call (qdN GG c.toNat) rfl ?_;cases hl:kV (c.toNat:Int)
    . simp[zY,Qs,hl]
    . simp;refine qb.call (qpd (c::r)) rfl ?_;cases hk:qb4.contains (c::r)
      . simp;refine qD.intro (fun n env U=>∃ i,i<=(c::r).length/\n=(c::r).length-i/\env 0=.str (c::r)/\env 3=.int .i64 i/\U=⟨[],[]⟩/\∀ x∈(c::r).take i,Zr x=true) (c::r).length ⟨0,by simp⟩ ?_;rintro n env U ⟨i,hi,rfl,h0,h3,rfl,hall⟩
        cases hv:(c::r)[i]? with
        | some v=>
         obtain⟨hc,hv'⟩:=qp5.1 hv;have htake:(c::r).take (i+1)=(c::r).take i++[v]:=(by rw[qqE,hv];rfl);have hc1:(i:Int)<r.length+1:=(by simp at hc;omega);simp[h0,h3,hc1,hv,hv'];refine qb.call (qlH GG v.toNat) rfl ?_;cases hin:km (v.toNat:Int)
         . have:=Q3 (qp6 hv) (show Zr v=false from hin);simp[zY,this]
         . simp[h0,h3];refine⟨_,by simp at hc;omega,i+1,by simp at hc;omega,rfl,wr (by omega) (by simp at hc hs;omega),?_⟩;intro x hx;rw[htake,qqo]at hx;rcases hx with hx|hx
           . exact hall x hx
           . rw[qqy.1 hx];exact hin
        | none=>
         have he:i=(c::r).length:=(by simp at hv hi;simp;omega);subst he;have h1:Qs (c::r)=true:=by
          simp only[Qs,qp9];exact⟨hl,qqi.2 fun x hx=>hall x (by simpa using hx)⟩
         have hn:zY (c::r)=true:=(by simp only[zY,h1,hk,decide_eq_true h16];rfl);simp[h0,h3,hn]
      . have hn:zY (c::r)=false:=(by simp only[zY,hk,qtd,qsT]);simp[hn]
  . have h16':(16:Int)<(r.length:Int)+1:=(by simp at h16;omega);have:zY (c::r)=false:=by
     have:decide ((c::r).length<=16)=false:=by simpa using h16
     simp only[zY,this,qsT,qsl]
    simp[h16',this]
theorem QG {s:Str}:Lib.indexByte s 91=if s.contains 91=true then ((jK s).length:Int) else -1:=by
 unfold jK
 induction s with
 | nil=>simp[Lib.indexByte]
 | cons c r ih=>
  by_cases hc:c=91
  . subst hc;simp[Lib.indexByte]
  . have h1:(c==91)=false:=(by simpa using hc);have h2:¬ (91:UInt8)=c:=fun e=>hc e.symm
    simp only[Lib.indexByte,h1,qqq,if_false,ih,List.contains_cons];have h3:((91:UInt8)==c)=false:=(by simpa using h2);have h4:(c != 91)=true:=(by simpa using hc);rw[h3,qst,qs5,if_pos h4];by_cases h5:r.contains 91=true
    . rw[if_pos h5,if_pos h5];have:¬ (((r.takeWhile (· != 91)).length:Int) == -1)=true:=by simp
      rw[if_neg this];simp
    . rw[if_neg h5,if_neg h5];simp
theorem qev (G:Nat->AV)(s:Str):Pure Tryz.prog G 209 [.str s,.str [91]] (.int .i64 (Lib.indexByte s 91)):=by
 refine Pure.vc qe Tryz.func209 rfl (by kernel_rfl) ?_;by_cases h : [91]=s
 . subst h;simp[Lib.indexByte]
 . simp[h];refine qb.call (qbo G s 91) rfl ?_;simp
theorem cut262 (G:Nat->AV)(s:Str)(hs:Fits s)(h:s.contains 91=true):Pure Tryz.prog G 155 [.str s,.str [91]] (.tup [.str (jK s),.str (Yo s),.bool true]):=by
 refine Pure.vc qe Tryz.func155 rfl (by kernel_rfl) ?_;simp;refine qb.call (qev G s) rfl ?_;have e:=qnA h;have hl:s.length=(jK s).length+1+(Yo s).length:=by
  have:=congrArg List.length e;rw[qqb,qqm]at this;omega
 have hlt:(jK s).length<s.length:=by omega
 have t1:s.take (jK s).length=jK s:=by
  conv=>lhs;arg 2;rw[e]
  simp
 have t2:s.drop ((jK s).length+1)=Yo s:=by
  conv=>lhs;arg 2;rw[e]
  simp
 rw[QG,if_pos h];have hw:IntKind.i64.wrap (((jK s).length:Int)+1)=(jK s).length+1:=wr (by omega) (by omega);have h1:((jK s).length:Int)<=s.length:=by omega
 have h2:((jK s).length:Int)+1<=s.length:=by omega
 have h3:(0:Int)<=(jK s).length+1:=by omega
 have h4:(((jK s).length:Int)+1).toNat=(jK s).length+1:=by omega
 have h5:(jK s).length<=s.length:=by omega
 simp[zw,zX,hw,h1,h2,h3,h4,h5,t1,t2]
theorem qpJ (G:Nat->AV)(s:Str)(hs:Fits s)(h:s.contains 91=false):Pure Tryz.prog G 155 [.str s,.str [91]] (.tup [.str s,.str [],.bool false]):=by
 refine Pure.vc qe Tryz.func155 rfl (by kernel_rfl) ?_;simp;refine qb.call (qev G s) rfl ?_;rw[QG,if_neg (by rw[h];decide)];simp
theorem qi9 (G:Nat->AV)(s:Str)(hs:Fits s)(h:s.contains 91=true):Pure Tryz.prog G 106 [.str s,.str [91]] (.tup [.str (jK s),.str (Yo s),.bool true]):=by
 refine Pure.vc qe Tryz.func106 rfl (by kernel_rfl) ?_;simp;refine qb.call (cut262 G s hs h) rfl ?_;simp
theorem qc7 (G:Nat->AV)(s:Str)(hs:Fits s)(h:s.contains 91=false):Pure Tryz.prog G 106 [.str s,.str [91]] (.tup [.str s,.str [],.bool false]):=by
 refine Pure.vc qe Tryz.func106 rfl (by kernel_rfl) ?_;simp;refine qb.call (qpJ G s hs h) rfl ?_;simp
theorem qky (i:Nat)(h:i<9):Pure Tryz.prog GG 303 [.int .i64 i] (.str [UInt8.ofNat (48+i)]):=by
 refine Pure.vc qe Tryz.func303 rfl (by kernel_rfl) ?_;have hw:IntKind.i64.wrap ((i:Int)+1)=(i:Int)+1:=wr (by omega) (by omega);have h10:(i:Int)<10:=by omega
 have h11:i<10:=by omega
 have h36:(i:Int)+1<=36:=by omega
 have h37:(0:Int)<=(i:Int)+1:=by omega
 have h38:(i:Int)<=(i:Int)+1:=by omega
 simp[h10,h11,hw,zw,zX,h36,h37,h38];have:i=0\/i=1\/i=2\/i=3\/i=4\/i=5\/i=6\/i=7\/i=8:=by omega
 rcases this with rfl|rfl|rfl|rfl|rfl|rfl|rfl|rfl|rfl<;>rfl
theorem itoa9 (i:Nat)(h:i<9):Pure Tryz.prog GG 156 [.int .i64 i] (.str [UInt8.ofNat (48+i)]):=by
 refine Pure.vc qe Tryz.func156 rfl (by kernel_rfl) ?_;simp;refine qb.call (r:=.str [UInt8.ofNat (48+i)]) ?_ rfl ?_
 . refine Pure.vc qe Tryz.func210 rfl (by kernel_rfl) ?_;simp;refine qb.call (r:=.str [UInt8.ofNat (48+i)]) ?_ rfl ?_
   . refine Pure.vc qe Tryz.func268 rfl (by kernel_rfl) ?_;have h1:(0:Int)<=i:=(by omega);have h2:(i:Int)<100:=(by omega);have h3:i<100:=(by omega);simp[h1,h2,h3];exact qb.call (qky i h) rfl (by simp)
   . simp
 . simp
theorem qpc (i:Nat)(h:i<8):Pure Tryz.prog GG 156 [.int .i64 i] (.str [UInt8.ofNat (48+i)]):=itoa9 i (by omega)
theorem Z6 (a:Str)(i:Nat)(hi:i<8)(ha:a.length<=1000):Pure Tryz.prog GG 107 [.str a,.int .i64 i] (.str (z9 a i)):=by
 refine Pure.vc qe Tryz.func107 rfl (by kernel_rfl) ?_;have h1:a.length+1<=4611686018427387904:=by omega
 have h2:a.length+(1+1)<=4611686018427387904:=by omega
 have h3:a.length+(1+(1+1))<=4611686018427387904:=by omega
 have h4:a.length+1+1<=4611686018427387904:=by omega
 have h5:a.length+1+1+1<=4611686018427387904:=by omega
 simp[h1];refine qb.call (qpc i hi) rfl ?_;simp[h2,h3,h4,h5,z9]
theorem wQ {s:Str}(h:zY s=true):s.length<=16:=by
 simp only[zY,qp9,decide_eq_true_eq]at h;exact h.1.2
theorem ql8 {s:Str}{i:Nat}(hi:i<8)(hn:zY (jK s)=true)(h:s=z9 (jK s) i):(yS s).isSome=true:=by
 rw[wZ (a:=jK s) (i:=i) ⟨hi,hn,h⟩];rfl
theorem ql9 {s:Str}(h:∀ i,i<8->s≠z9 (jK s) i):yS s=none:=by
 rw[yy];rintro a i hi;have:=hi.has.2.1;exact h i hi.1 (by rw[this];exact hi.2.2)
theorem qbN {s:Str}(h:zY (jK s)=false):yS s=none:=by
 rw[yy];rintro a i hi;have:=hi.has.2.1;rw[this,hi.2.1]at h;cases h
theorem qll (s:Str)(hs:Fits s):Pure Tryz.prog GG 71 [.str s] (.bool (yW s)):=by
 refine Pure.vc qe Tryz.func71 rfl (by kernel_rfl) ?_;simp;refine qb.call (vS s) rfl ?_;cases hn:zY s
 . simp;by_cases hc:s.contains 91=true
   . refine qb.call (qi9 GG s hs hc) rfl ?_;simp;refine qb.call (vS (jK s)) rfl ?_;cases hh:zY (jK s)
     . simp[yW,hn,qbN hh]
     . simp;refine qD.intro (fun n env U=>∃ i:Nat,i<=8/\n=8-i/\env 0=.str s/\env 3=.str (jK s)/\env 22=.int .i64 i/\U=⟨[],[]⟩/\∀ j,j<i->s≠z9 (jK s) j) 8 ⟨0,by simp⟩ ?_;rintro n env U ⟨i,hi,rfl,h0,h3,h22,rfl,hall⟩;by_cases h8:i<8
       . have h8':(i:Int)<8:=(by omega);simp[h0,h3,h22,h8'];refine qb.call (Z6 (jK s) i h8 (by have:=wQ hh;omega)) rfl ?_;by_cases he:s=z9 (jK s) i
         . have hv:yW s=true:=(by simp[yW,ql8 h8 hh he]);rw[<- he];simp[h0,hv]
         . simp[h0,h3,h22,he];refine⟨_,by omega,i+1,by omega,rfl,wr (by omega) (by omega),?_⟩;intro j hj e;rcases qra.1 hj with hj|rfl
           . exact hall j hj e
           . exact he e
       . have h8':¬ (i:Int)<8:=(by omega);have hv:yW s=false:=by
          have:yS s=none:=ql9 fun j hj=>hall j (by omega)
          simp[yW,hn,this]
         simp[h0,h3,h22,h8',hv]
   . have hc':s.contains 91=false:=(by simpa using hc);refine qb.call (qc7 GG s hs hc') rfl ?_;simp[yW,hn,Vu hc']
 . simp[yW,hn]
theorem qiI:∀ (i:Nat),i<8->Pure Tryz.prog GG 104 [.int .i64 i] (.str [UInt8.ofNat (48+i)]):=by
 have key:∀ (i:Nat),i<8->IntKind.i64.wrap (-(i:Int)) = -i/\(-(i:Int)).tmod 10 = -i/\IntKind.i64.wrap (48+(i:Int))=48+i/\IntKind.u8.wrap (48+(i:Int))=48+i/\IntKind.i64.wrap (-((i:Int) / 10))=0/\(48+(i:Int)).toNat=48+i:=by decide
 intro i hi;obtain⟨k1,k2,k3,k4,k5,k6⟩:=key i hi;refine Pure.vc qe Tryz.func104 rfl (by kernel_rfl) ?_;simp;have below:Pure Tryz.prog GG 152 [.int .i64 i] (.int .i64 (-i)):=by
  refine Pure.vc qe Tryz.func152 rfl (by kernel_rfl) ?_;by_cases h0:i=0
  . subst h0;simp
  . have:0<i:=by omega
    simp[this,k1]
 refine qb.call below rfl ?_;refine qD.intro (fun n env U=>n=1/\env 0=.int .i64 i/\env 3=.str []/\env 4=.int .i64 (-i)/\U=⟨[],[]⟩) 1 ⟨rfl,by simp⟩ ?_;rintro n env U ⟨rfl,h0,h3,h4,rfl⟩;simp[h0,h3,h4,k2,k3,k4,k5,k6,qk,qA,yU,bytesOf]
theorem Z5 (a:Str)(i:Nat)(hi:i<8)(ha:a.length<=1000):Pure Tryz.prog GG 68 [.str a,.int .i64 i] (.str (z9 a i)):=by
 refine Pure.vc qe Tryz.func68 rfl (by kernel_rfl) ?_;have h1:a.length+1<=4611686018427387904:=by omega
 have h2:a.length+(1+1)<=4611686018427387904:=by omega
 have h3:a.length+(1+(1+1))<=4611686018427387904:=by omega
 have h4:a.length+1+1<=4611686018427387904:=by omega
 have h5:a.length+1+1+1<=4611686018427387904:=by omega
 simp[h1];refine qb.call (qiI i hi) rfl ?_;simp[h2,h3,h4,h5,z9]
noncomputable def VT (s:Str):AV:=match yS s with
 | some (a,i)=>.tup [.str a,.int .i64 i,.bool true]
 | none=>.tup [.str [],.int .i64 0,.bool false]
theorem Zy {s a:Str}{i:Nat}(h:jp s a i):VT s=.tup [.str a,.int .i64 i,.bool true]:=by simp[VT,wZ h]
theorem wY {s:Str}(h:yS s=none):VT s=.tup [.str [],.int .i64 0,.bool false]:=by simp[VT,h]
theorem u8_of {c:UInt8}(h1:48<=c.toNat)(h2:c.toNat<56):UInt8.ofNat (48+(c.toNat-48))=c:=by
 have:48+(c.toNat-48)=c.toNat:=by omega
 rw[this];simp
theorem qbi {s t:Str}{c:UInt8}(hn:zY t=true)(h1:48<=c.toNat)(h2:c.toNat<56)(h:s=t++[91,c,93]):jp s t (c.toNat-48) :=
 ⟨by omega,hn,by rw[h,z9,u8_of h1 h2]⟩
theorem qbM {s a:Str}{i:Nat}(h:jp s a i):s=a++[91,UInt8.ofNat (48+i),93]/\(UInt8.ofNat (48+i)).toNat=48+i/\i<8:=by
 refine⟨h.2.2,?_,h.1⟩;have:=h.1;simp;omega
theorem WO (s:Str)(hs:Fits s):Pure Tryz.prog GG 212 [.str s] (VT s):=by
 refine Pure.vc qe Tryz.func212 rfl (by kernel_rfl) ?_;simp;cases hc:s.contains 91
 . refine qb.call (qc7 GG s hs hc) rfl ?_;rw[wY (Vu hc)];simp
 . refine qb.call (qi9 GG s hs hc) rfl ?_;simp;refine qb.call (vS (jK s)) rfl ?_;cases hn:zY (jK s)
   . rw[wY (qbN hn)];simp
   . have no:(∀ c,Yo s=[c,93]->¬ (48<=c.toNat/\c.toNat<56))->VT s=.tup [.str [],.int .i64 0,.bool false]:=by
      intro h;refine wY (yy.2 fun a i hi=>?_);obtain⟨e1,e2,e3⟩:=qbM hi;exact h _ hi.has.2.2 ⟨by omega,by omega⟩
     cases ht:Yo s with
     | nil=>rw[no (by simp[ht])];simp
     | cons c r1=>
      cases r1 with
      | nil=>rw[no (by simp[ht])];simp
      | cons d r2=>
       cases r2 with
       | cons e r3=>
        have hl:¬ ((r3.length:Int)+1+1+1=2):=(by omega);rw[no (by simp[ht])];simp[hl]
       | nil=>
        by_cases hd:d=93
        . subst hd;by_cases h1:48<=c.toNat
          . have h1':¬ (c.toNat:Int)<48:=(by omega);by_cases h2:c.toNat<56
            . have h2':¬ (56:Int)<=c.toNat:=(by omega);have e:jp s (jK s) (c.toNat-48):=qbi hn h1 h2 (by have:=qnA hc;rw[ht]at this;exact this);rw[Zy e];have w1:IntKind.u8.wrap ((c.toNat:Int)-48)=c.toNat-48:=(by simp[IntKind.wrap,IntKind.bits,IntKind.signed];omega);have w2:IntKind.i64.wrap ((c.toNat:Int)-48)=c.toNat-48:=wr (by omega) (by omega);have w3:((c.toNat:Int)-48)=((c.toNat-48:Nat):Int):=(by omega);simp[h1',h2',yU,w1,w2];omega
            . have h2':(56:Int)<=c.toNat:=(by omega);rw[no (fun c' e=>by rw[ht]at e;cases e;omega)];simp[h1',h2']
          . have h1':(c.toNat:Int)<48:=(by omega);rw[no (fun c' e=>by rw[ht]at e;cases e;omega)];simp[h1']
        . have hd':¬ (d.toNat:Int)=93:=by
           intro e;exact hd (UInt8.toNat_inj.1 (by simp;omega))
          rw[no (fun c' e=>by rw[ht]at e;cases e;exact absurd rfl hd)];simp[hd']
theorem qlC (s:Str)(hs:Fits s):Pure Tryz.prog GG 159 [.str s] (.bool (yW s)):=by
 refine Pure.vc qe Tryz.func159 rfl (by kernel_rfl) ?_;simp
 cases he:yS s with
 | some p=>
  obtain⟨a,i⟩:=p;refine qb.call (by have:=WO s hs;rw[Zy (ka.1 he)]at this;exact this) rfl ?_;simp[yW,he]
 | none=>
  refine qb.call (by have:=WO s hs;rw[wY he]at this;exact this) rfl ?_;simp;refine qb.call (vS s) rfl ?_;simp[yW,he]
theorem last3 {s:Str}(h:3<=s.length):∃ t x y z,s=t++[x,y,z]:=by
 refine⟨s.take (s.length-3),s[s.length-3]'(by omega),s[s.length-2]'(by omega),s[s.length-1]'(by omega),?_⟩;have e:s.drop (s.length-3)=[s[s.length-3]'(by omega),s[s.length-2]'(by omega),s[s.length-1]'(by omega)]:=by
  rw[qqt (by omega),qqt (by omega),qqt (by omega),List.drop_eq_nil_of_le (by omega)];simp only[List.cons.injEq,and_true,true_and];exact⟨by congr 1;omega,by congr 1;omega⟩
 rw[<- e,qqQ]
theorem qge {s:Str}(h:s.length<4):yS s=none:=by
 rw[yy];intro a i hi;have:=Vy hi.2.1;have:=qql.2 this;rw[hi.2.2]at h;simp at h;omega
theorem qdI (s:Str)(hs:Fits s):Pure Tryz.prog GG 262 [.str s] (VT s):=by
 refine Pure.vc qe Tryz.func262 rfl (by kernel_rfl) ?_;by_cases h4:s.length<4
 . have h4':(s.length:Int)<4:=(by omega);rw[wY (qge h4)];simp[h4']
 . obtain⟨t,x,y,z,rfl⟩:=last3 (s:=s) (by omega);have hl:(t++[x,y,z]).length=t.length+3:=(by simp);rw[Fits,hl]at hs;rw[hl]at h4;have no:¬ (x=91/\z=93/\48<=y.toNat/\y.toNat<56/\zY t=true)->VT (t++[x,y,z])=.tup [.str [],.int .i64 0,.bool false]:=by
    intro h;refine wY (yy.2 fun a i hi=>h ?_);obtain⟨e1,e2,e3⟩:=qbM hi;obtain⟨e4,e5⟩:=List.append_inj' e1 rfl;cases e5;subst e4;exact⟨rfl,rfl,by omega,by omega,hi.2.1⟩
   have h4':¬ (t.length:Int)+3<4:=(by omega);have w1:IntKind.i64.wrap ((t.length:Int)+3-1)=((t.length+2:Nat):Int):=(by rw[wr (by omega) (by omega)];omega);have w2:IntKind.i64.wrap ((t.length:Int)+3-2)=((t.length+1:Nat):Int):=(by rw[wr (by omega) (by omega)];omega);have w3:IntKind.i64.wrap (t.length:Int)=t.length:=wr (by omega) (by omega);have w4:IntKind.i64.wrap ((t.length:Int)+3-3)=t.length:=(by rw[wr (by omega) (by omega)];omega);have g1:(t++[x,y,z])[t.length+2]?=some z:=(by simp);have g2:(t++[x,y,z])[t.length+1]?=some y:=(by simp);have g3:(t++[x,y,z])[t.length]?=some x:=(by simp);have g4:(t++[x,y,z]).take t.length=t:=(by simp);have n1:((t.length:Int)+2).toNat=t.length+2:=(by omega);have n2:((t.length:Int)+1).toNat=t.length+1:=(by omega);have p1:(0:Int)<=(t.length:Int)+2:=(by omega);have p2:(0:Int)<=(t.length:Int)+1:=(by omega);have hle:t.length<=t.length+3:=(by omega);have hn210:=vR t (show t.length<_ by omega);have yes:x=91->z=93->48<=y.toNat->y.toNat<56->zY t=true->VT (t++[x,y,z])=.tup [.str t,.int .i64 ((y.toNat:Int)-48),.bool true]:=by
    rintro rfl rfl h1 h2 h3;rw[Zy (qbi h3 h1 h2 rfl)];congr 4;omega
   generalize hS:t++[x,y,z]=S at *;generalize t.length=T at *;have q1:S[T+2]'(by omega)=z:=(qp5.1 g1).2;have q2:S[T+1]'(by omega)=y:=(qp5.1 g2).2;have q3:S[T]'(by omega)=x:=(qp5.1 g3).2;have le3:(T:Int)<=(T:Int)+3:=(by omega);by_cases hz:z=93
   . by_cases hx:x=91
     . subst hx hz;have wy1:IntKind.i64.wrap (y.toNat:Int)=y.toNat:=(by have:=y.toNat_lt;exact wr (by omega) (by omega));have wy2:IntKind.i64.wrap ((y.toNat:Int)-48)=y.toNat-48:=(by have:=y.toNat_lt;exact wr (by omega) (by omega));by_cases h1:48<=y.toNat
       . by_cases h2:y.toNat<56
         . have h1':¬ (y.toNat:Int)-48<0:=(by omega);have h2':¬ (8:Int)<=(y.toNat:Int)-48:=(by omega);simp[hl,h4',w1,w2,w3,w4,q1,q2,q3,le3,g4,n1,n2,p1,p2,hle,yU,wy1,wy2,h1',h2',zw,zX];refine qb.call hn210 rfl ?_;cases hnt:zY t
           . rw[no (fun h=>by rw[hnt]at h;cases h.2.2.2.2)];simp
           . rw[yes rfl rfl h1 h2 hnt];simp
         . rw[no (fun h=>h2 h.2.2.2.1)];have h1':¬ (y.toNat:Int)-48<0:=(by omega);have h2':(8:Int)<=(y.toNat:Int)-48:=(by omega);simp[hl,h4',w1,w2,w3,w4,q1,q2,q3,le3,g4,n1,n2,p1,p2,hle,yU,wy1,wy2,h1',h2',zw,zX]
       . rw[no (fun h=>h1 h.2.2.1)];have h1':(y.toNat:Int)-48<0:=(by omega);simp[hl,h4',w1,w2,w3,w4,q1,q2,q3,le3,g4,n1,n2,p1,p2,hle,yU,wy1,wy2,h1',zw,zX]
     . have hx':¬ (x.toNat:Int)=91:=by
        intro e;exact hx (UInt8.toNat_inj.1 (by simp;omega))
       rw[no (fun h=>hx h.1)];subst hz;simp[hl,h4',w1,w2,w3,w4,q1,q2,q3,le3,g4,n1,n2,p1,p2,hx']
   . have hz':¬ (z.toNat:Int)=93:=by
      intro e;exact hz (UInt8.toNat_inj.1 (by simp;omega))
     rw[no (fun h=>hz h.2.1)];simp[hl,h4',w1,w2,w3,w4,q1,q2,q3,le3,g4,n1,n2,p1,p2,hz']
theorem qlB (s:Str)(hs:Fits s):Pure Tryz.prog GG 203 [.str s] (.bool (yW s)):=by
 refine Pure.vc qe Tryz.func203 rfl (by kernel_rfl) ?_;simp
 cases he:yS s with
 | some p=>
  obtain⟨a,i⟩:=p;refine qb.call (by have:=qdI s hs;rw[Zy (ka.1 he)]at this;exact this) rfl ?_;simp[yW,he]
 | none=>
  refine qb.call (by have:=qdI s hs;rw[wY he]at this;exact this) rfl ?_;simp;refine qb.call (vR s hs) rfl ?_;simp[yW,he]
theorem qlk (s:Str)(hs:Fits s):Pure Tryz.prog GG 67 [.str s] (.bool (yW s)):=by
 refine Pure.vc qe Tryz.func67 rfl (by kernel_rfl) ?_;simp;refine qb.call (vR s hs) rfl ?_;cases hn:zY s
 . simp;refine qD.intro (fun n env U=>∃ k:Nat,1<=k/\k<=s.length+1/\n=s.length+1-k/\env 0=.str s/\env 3=.int .i64 k/\U=⟨[],[]⟩/\∀ a i,jp s a i->¬ a.length<k) s.length ⟨1,by simp,by simp,by simp,by simp,by simp,rfl,fun a i hi=>by have:=qql.2 (Vy hi.2.1);omega⟩ ?_;rintro n env U ⟨k,hk1,hk,rfl,h0,h3,rfl,hall⟩;by_cases hlt:k<s.length
   . have hlt':(k:Int)<s.length:=(by omega);have hle':(k:Int)<=s.length:=(by omega);have hle:k<=s.length:=(by omega);have step:(∀ a i,jp s a i->a.length≠k)->∀ a i,jp s a i->¬ a.length<k+1:=fun h a i hi hl=>by
      rcases qra.1 hl with h1|h1
      . exact hall a i hi h1
      . exact h a i hi h1
     have at91:∀ a i,jp s a i->a.length=k->s[k]=91/\s.take k=a:=fun a i hi hl=>by
      obtain⟨_,_,rfl⟩:=hi;subst hl;simp[z9]
     have hw:IntKind.i64.wrap ((k:Int)+1)=((k+1:Nat):Int):=(by rw[wr (by omega) (by omega)];omega);by_cases hc:s[k]=91
     . simp[h0,h3,hlt,hc,zw,zX,hle,hle'];refine qb.call (vR (s.take k) (by simp;omega)) rfl ?_;cases ht:zY (s.take k)
       . simp[h0,h3,hw];refine⟨_,by omega,k+1,by omega,by omega,rfl,rfl,fun a i hi=>Nat.not_lt.1 (step (fun a i hi hl=>?_) a i hi)⟩;have:=(at91 a i hi hl).2;rw[this,hi.2.1]at ht;cases ht
       . simp[h0,h3];refine qD.intro (fun n env U=>∃ i:Nat,i<=8/\n=8-i/\env 0=.str s/\env 3=.int .i64 k/\env 4=.int .i64 i/\U=⟨[],[]⟩/\∀ j,j<i->s≠z9 (s.take k) j) 8 ⟨0,by simp[h0,h3]⟩ ?_;rintro n env U ⟨i,hi,rfl,h0,h3,h4,rfl,hin⟩;by_cases h8:i<8
         . have h8':(i:Int)<8:=(by omega);simp[h0,h3,h4,h8',zw,zX,hle,hle'];refine qb.call (Z5 (s.take k) i h8 (by have:=wQ ht;omega)) rfl ?_;by_cases he:s=z9 (s.take k) i
           . have hv:yW s=true:=(by simp[yW,wZ (show jp s (s.take k) i from ⟨h8,ht,he⟩)]);rw[<- he];simp[h0,hv]
           . simp[h0,h3,h4,he];refine⟨_,by omega,i+1,by omega,rfl,wr (by omega) (by omega),?_⟩;intro j hj e;rcases qra.1 hj with hj|rfl
             . exact hin j hj e
             . exact he e
         . have h8':¬ (i:Int)<8:=(by omega);simp[h0,h3,h4,h8',hw];refine⟨_,by omega,k+1,by omega,by omega,rfl,rfl,fun a i hi=>Nat.not_lt.1 (step (fun a i' hi' hl=>?_) a i hi)⟩;have:=(at91 a i' hi' hl).2;exact hin i' (by have:=hi'.1;omega) (by rw[this];exact hi'.2.2)
     . have hc':¬ (s[k].toNat:Int)=91:=by
        intro e;exact hc (UInt8.toNat_inj.1 (by simp;omega))
       simp[h0,h3,hlt,hc',hw];refine⟨_,by omega,k+1,by omega,by omega,rfl,rfl,fun a i hi=>Nat.not_lt.1 (step (fun a i hi hl=>?_) a i hi)⟩;exact hc (at91 a i hi hl).1
   . have hlt':¬ (k:Int)<s.length:=(by omega);have hv:yW s=false:=by
      have:yS s=none:=yy.2 fun a i hi=>hall a i hi (by rw[hi.2.2]at hlt;simp at hlt;omega)
      simp[yW,hn,this]
     simp[h0,h3,hlt,hv]
 . simp[yW,hn]
section
theorem qdQ {S:Type}{stp:S->Ex->S×Bool}{s:S}{e:Ex}:Zb stp s (pre e)=if (stp s e).2=true then Zb stp (stp s e).1 (wM e.args) else ((stp s e).1,false):=by
 rw[jc,Zb]
theorem look {hd:List Blk}{c:Nat}(hc:hd.length=c){t:List Blk}{k:Nat}:(hd++t)[c+k]?=t[k]? := by
 subst hc;rw[qqd (by omega)];simp
theorem qlo {tail t:List Blk}{k:Nat}{b:Blk}(h:tail[k]?=some b):(tail++t)[k]?=some b:=by
 rw[qqe (qp5.1 h).1,h]
def Wen (e:Ex):Prop:=∀ x∈pre e,Fits x.args/\Fits x.name
theorem Wen.fits {e:Ex}(h:Wen e):Fits e.args:=(h e (by rw[jc];simp)).1
theorem Wen.nm {e:Ex}(h:Wen e):Fits e.name:=(h e (by rw[jc];simp)).2
theorem Wen.arg {e a:Ex}(h:Wen e)(ha:a∈e.args):Wen a:=fun x hx=>h x (by rw[jc];exact qrn _ (wR.2 ⟨a,ha,hx⟩))
section
variable {S:Type}{stp:S->Ex->S×Bool}{hd:S->List Blk}{T:S->List (Option Nat)}{c:Nat}{vf:FuncId}{cap:List AV}{m:S->Nat}
def qb0 (stp:S->Ex->S×Bool)(hd:S->List Blk)(T:S->List (Option Nat))(vf:FuncId)(cap:List AV)(m:S->Nat):Prop :=
 ∀ s tail e,Wen e->0<m s->qg Tryz.prog GG vf (.agg (qs e)::cap) ⟨hd s++tail,T s⟩ (fun r U'=>r=.bool (stp s e).2/\∃ t,U'=⟨hd (stp s e).1++(tail++t),T (stp s e).1⟩)
theorem qmY (hm:∀ s e,m s<=m (stp s e).1+1):∀ (s:S) (l:List Ex),m s<=m (Zb stp s l).1+l.length
 | s,[]=>by simp[Zb]
 | s,e::r=>by
  simp only[Zb];split
  . have:=hm s e;have:=qmY hm (stp s e).1 r;simp;omega
  . have:=hm s e;simp;omega
theorem qpC (hc:∀ s,(hd s).length=c)(hm:∀ s e,m s<=m (stp s e).1+1)(hv:qb0 stp hd T vf cap m):∀ e,Wen e->∀ s tail kb kd,(pre e).length<=m s->tail[kb]?=some (.cells [.fn vf [] cap])->tail[kd]?=some (.cells [.fn 157 [] [.ptr (c+kb) 0,.ptr (c+kd) 0]]) ->
 qg Tryz.prog GG 157 [.agg (qs e),.ptr (c+kb) 0,.ptr (c+kd) 0] ⟨hd s++tail,T s⟩ (fun r U'=>r=.bool (Zb stp s (pre e)).2/\∃ t,U'=⟨hd (Zb stp s (pre e)).1++(tail++t),T (Zb stp s (pre e)).1⟩):=by
 refine Ex.ind fun e ih hwe s tail kb kd hsz hb hd'=>?_
 rw[jc,qqm]at hsz;refine qg.vc qe Tryz.func157 rfl (by kernel_rfl) ?_;have lb:∀ s t,(hd s++(tail++t))[c+kb]?=some (.cells [.fn vf [] cap]):=fun s t=>by rw[look (hc s),qlo hb]
 have ld:∀ s t,(hd s++(tail++t))[c+kd]?=some (.cells [.fn 157 [] [.ptr (c+kb) 0,.ptr (c+kd) 0]]):=fun s t=>by rw[look (hc s),qlo hd']
 have lx:∀ s (t:List Blk) (x:Blk) (u:List Blk),(hd s++(tail++(t++x::u)))[c+(tail.length+t.length)]?=some x:=fun s t x u=>by
  rw[look (hc s),qqd (by omega),qqd (by omega)];simp
 have lx0:∀ s (x:Blk) (u:List Blk),(hd s++(tail++(x::u)))[c+tail.length]?=some x:=fun s x u=>by
  have:=lx s [] x u;simpa using this
 simp[qd,hc,lb,ld,lx0];rw[<- qd e];refine qg.imp (hv s (tail++[.cells (qs e)]) e hwe (by omega)) ?_;rintro r U' ⟨rfl,t,rfl⟩;have e0:hd (stp s e).1++(tail++[Blk.cells (qs e)]++t)=hd (stp s e).1++(tail++(Blk.cells (qs e)::t)):=by simp
 rw[e0];cases hst:(stp s e).2
 . simp[qdQ,hst]
 . have hl:=hwe.fits;simp only[qd e];simp[hc,lx0];refine qD.intro (fun n env U=>∃ i s' tl,i<=e.args.length/\n=e.args.length-i/\env 1=.ptr (c+kb) 0/\env 2=.ptr (c+kd) 0/\env 12=.sl 4 (e.args.map qs) .none/\env 13=.int .i64 e.args.length/\env 14=.int .i64 i/\U=⟨hd s'++(tail++tl),T s'⟩/\(wM (e.args.drop i)).length<=m s'/\Zb stp s (pre e)=Zb stp s' (wM (e.args.drop i))) e.args.length ⟨0,(stp s e).1,_,by simp,by simp,by simp,by simp,by simp,by simp,by simp,rfl,by have:=hm s e;simp;omega,by rw[qdQ,hst];simp⟩ ?_;rintro n env U ⟨i,s',tl,hi,rfl,h1,h2,h12,h13,h14,rfl,hsz',hrun⟩
   cases hv':e.args[i]? with
   | none=>
    have hcn:¬ i<e.args.length:=(by simp at hv';omega);have hd0:e.args.drop i=[]:=(by simp;omega);rw[hd0]at hrun;simp[h1,h2,h12,h13,h14,hcn,hrun,Zb]
   | some a=>
    obtain⟨hcn,hve⟩:=qp5.1 hv';have hma:=qp6 hv';rw[zB hv',yI,YB]at hrun;rw[zB hv',yI,qqb]at hsz';have hmr:=qmY hm s' (pre a);have set1:∀ (z x:Blk),(hd s'++(tail++(tl++[z]))).set (c+(tail.length+tl.length)) x=hd s'++(tail++(tl++[x])):=fun z x=>by
     rw[qqz,if_neg (by rw[hc];omega),hc,qqz,if_neg (by omega),qqz,if_neg (by omega)];have:c+(tail.length+tl.length)-c-tail.length-tl.length=0:=by omega
     rw[this];rfl
    simp[h1,h2,h12,h13,h14,hcn,hve,qd a,hc,lx,set1,lb,ld];rw[<- qd a];refine qg.imp (ih a hma (hwe.arg hma) s' (tail++(tl++[.cells (qs a)])) kb kd (by omega) (qlo hb) (qlo hd')) ?_;rintro r U' ⟨rfl,t',rfl⟩;cases hr:(Zb stp s' (pre a)).2
    . rw[hr]at hrun;simp only[qqq,if_false]at hrun;simp[hrun,hr]
    . rw[hr]at hrun;simp only[if_true]at hrun;simp[h1,h2,h12,h13,h14];exact⟨_,by omega,i+1,by omega,rfl,wr (by omega) (by omega),_,⟨⟨_,rfl⟩,rfl⟩,by omega,hrun⟩
theorem qb7 (hc:∀ s,(hd s).length=c)(hm:∀ s e,m s<=m (stp s e).1+1)(hv:qb0 stp hd T vf cap m)(e:Ex)(hwe:Wen e)(s:S)(hsz:(pre e).length<=m s)(tail:List Blk) :
 qg Tryz.prog GG 111 [.agg (qs e),.fn vf [] cap] ⟨hd s++tail,T s⟩ (fun r U'=>∃ t,U'=⟨hd (Zb stp s (pre e)).1++(tail++t),T (Zb stp s (pre e)).1⟩):=by
 refine qg.vc qe Tryz.func111 rfl (by kernel_rfl) ?_;have set2:∀ (x y z w:Blk),(hd s++(tail++[x,y,z])).set (c+(tail.length+(1+1))) w=hd s++(tail++[x,y,w]):=fun x y z w=>by
  rw[qqz,if_neg (by rw[hc];omega),hc,qqz,if_neg (by omega)];have:c+(tail.length+(1+1))-c-tail.length=2:=by omega
  rw[this];rfl
 have l0:∀ (x:Blk) (u:List Blk),(hd s++(tail++(x::u)))[c+tail.length]?=some x:=fun x u=>by
  rw[look (hc s),qqd (by omega)];simp
 have l2:∀ (x y z:Blk) (u:List Blk),(hd s++(tail++(x::y::z::u)))[c+(tail.length+(1+1))]?=some z:=fun x y z u=>by
  rw[look (hc s),qqd (by omega)];have:tail.length+(1+1)-tail.length=2:=by omega
  rw[this];rfl
 simp[qd e,hc,set2,l0,l2];rw[<- qd e];have k:=qpC hc hm hv e hwe s (tail++[.cells (qs e),.cells [.fn vf [] cap],.cells [.fn 157 [] [.ptr (c+(tail.length+1)) 0,.ptr (c+(tail.length+1)+1) 0]]]) (tail.length+1) (tail.length+1+1) hsz
  (by
    rw[qqd (by omega)];have:tail.length+1-tail.length=1:=by omega
    rw[this];rfl)
  (by
    rw[qqd (by omega)];have:tail.length+1+1-tail.length=2:=by omega
    rw[this];rfl)
 refine qg.imp k ?_;rintro r U' ⟨_,t,rfl⟩;exact⟨_,by rw[qqC]⟩
end
end
section
theorem Y2 {α:Type}{R:Nat->α->Prop}:∀ (n:Nat),(∀ i,i<n->∃ y,R i y)->∃ l:List α,l.length=n/\∀ i y,l[i]?=some y->R i y
 | 0,_=>⟨[],rfl,by simp⟩
 | n+1,h=>by
  obtain⟨l,h1,h2⟩:=Y2 n fun i hi=>h i (by omega)
  obtain⟨y,hy⟩:=h n (by omega);refine⟨l++[y],by simp[h1],fun i z hz=>?_⟩;rw[qqX]at hz;split at hz
  . exact h2 i z hz
  . rename_i hi;have:i-l.length=0:=by
     rcases qrh (i-l.length) with h0|h0
     . exact h0
     . rw[qqG (by simp;omega)]at hz;cases hz
    rw[this]at hz;cases hz;have:i=n:=by omega
    subst this;exact hy
section
variable {H:Type}{enc:TypeId×Value->H}{w:World}{base:Nat}{held:Bool}
abbrev KMw (w:World):Kn:=Go.Abs.K0 (qct w)
theorem qh.get {K:Kn}:∀ {l:List AV} {vs:List Value},qh K l vs->vs.length=l.length/\∀ (j:Nat) (a:AV),l[j]?=some a->∃ v,vs[j]?=some v/\qf K a v
 | [],_,h=>by simp only[qh]at h;subst h;simp
 | a::r,_,h=>by
  simp only[qh]at h;obtain⟨v,vr,rfl,h1,h2⟩:=h;obtain⟨k1,k2⟩:=qh.get h2;refine⟨by simp[k1],fun j b hj=>?_⟩
  cases j with
  | zero=>simp at hj;subst hj;exact⟨v,rfl,h1⟩
  | succ j=>simp at hj;exact k2 j b hj
theorem YI {α:Type}{t e sz:Nat}{en:α->List AV}{good:α->Prop}{X:DataW H->Prop}{n:Nat}(ht:Tryz.prog.underlying t=some (.slice e))(hsz:Tryz.prog.cellsOf e=sz)(hpos:0<sz)
 (hat:∀ y,(en y).all AV.atom=true/\(en y).length=sz)
 (hel:∀ cs x,DataW.trod enc Tryz.prog w base (fun _=>true) held n e cs=some x->X x.1->∃ y,qh (KMw w) (en y) cs/\good y)
 {cs:List Value} {x:DataW H×List MemPlace} (h:DataW.trod enc Tryz.prog w base (fun _=>true) held (n+1) t cs=some x) (hX:∀ E S,x.1=.slice E S->∀ d∈E,X d) :
 ∃ (l:List α) (v:Value),cs=[v]/\qf (KMw w) (.sl sz (l.map en) .none) v/\Fits l/\(∀ y∈l,good y)/\∀ N,(∀ E S,x.1=.slice E S->E.length<=N)->l.length<=N:=by
 rcases DataW.trod_slice ht h with ⟨rfl,rfl⟩|⟨a,len,cap,elems,rest,m,hm,rfl,rfl,hb,hl,hc,hlen,hel',hsp,_⟩
 . exact⟨[],_,rfl,by simp only[qf];exact .inl ⟨⟨none,rfl,.inl rfl⟩,rfl,trivial⟩,by simp,by simp,by simp⟩
 . have hnm:n=m:=(by omega);subst hnm;rw[hsz]at hel' hsp;have one:∀ i,i<len->∃ y,∃ cs',w.cells? base (a.add (i*sz)) sz=some cs'/\qh (KMw w) (en y) cs'/\good y:=by
    intro i hi;have:=hel' i hi;rw[qp8 (by omega)]at this;obtain⟨cs',h1,h2⟩:=qrt.1 this;obtain⟨y,h3,h4⟩:=hel cs' _ h2 (hX _ _ rfl _ (List.mem_map_of_mem (qsm _)));exact⟨y,cs',h1,h3,h4⟩
   by_cases h0:cap=0
   . have hl0:len=0:=(by omega);subst h0 hl0;exact⟨[],_,rfl,by simp only[qf];exact .inl ⟨⟨some a,rfl,.inr trivial⟩,rfl,trivial⟩,by simp,by simp,by simp⟩
   . have spot:a.spot=none:=by
      have rd:∃ cs',w.cells? base (a.add 0) sz=some cs':=by
       by_cases hl0:0<len
       . obtain⟨_,cs',h1,_⟩:=one 0 hl0;rw[qrG]at h1;exact⟨cs',h1⟩
       . obtain⟨hr1,hr2⟩:=hsp rfl;have:=hr2 0 (by omega);rw[qp8 (by omega),show len+0=0 by omega,qrG]at this;obtain⟨cs',h1,_⟩:=qrt.1 this;exact⟨cs',h1⟩
      obtain⟨cs',h1⟩:=rd;obtain⟨_,hlen',hc'⟩:=World.cells?_some h1;have:=hc' 0 hpos;rw[qp8 (by omega)]at this
      cases hs:a.spot with
      | none=>rfl
      | some s=>
       simp only[Addr.add,if_true]at this;unfold World.cell? at this;rw[hs]at this;split at this<;>simp at this
     obtain⟨b,o,s⟩:=a;simp only at spot;subst spot;obtain⟨l,hl1,hl2⟩:=Y2 len one;refine⟨l,_,rfl,?_,by rw[Fits,hl1];simp only[maxLen]at hc;omega,fun y hy=>?_,fun N hN=>?_⟩
     . simp only[qf];refine .inr ⟨b,o,cap,by simp[hl1],by simpa[hl1] using hl,qI.intro b sz _ o fun i r e=>?_,trivial⟩;rw[qqp,qqc]at e;obtain⟨y,hy,rfl⟩:=e;obtain⟨cs',h1,h2,_⟩:=hl2 i y hy;obtain⟨h3,h4⟩:=hat y;obtain⟨_,hlen',hc'⟩:=World.cells?_some h1;obtain⟨g1,g2⟩:=qh.get h2;refine⟨h4,h3,ql.intro b _ _ fun j z hz=>?_⟩;obtain⟨v,hv1,hv2⟩:=g2 j z hz;have hjl:j<sz:=(by rw[<- hlen'];exact (qp5.1 hv1).1);refine⟨v,?_,hv2⟩;have:=hc' j hjl;rw[hv1]at this;show w.cell? ⟨b,o+i*sz+j,none⟩=some v;rw[<- this];congr 1;simp only[Addr.add];by_cases hi0:i*sz=0
       . rw[if_pos hi0];by_cases hj0:j=0
         . rw[if_pos hj0,hi0,hj0];simp
         . rw[if_neg hj0,hi0];simp
       . rw[if_neg hi0];by_cases hj0:j=0
         . rw[if_pos hj0,hj0];simp
         . rw[if_neg hj0]
     . obtain⟨i,hi⟩:=qqJ hy;obtain⟨_,_,_,hg⟩:=hl2 i y hi;exact hg
     . have:=hN _ _ rfl;simp only[qqI]at this;omega
theorem Qh {α:Type}{t e sz:Nat}{en:α->List AV}{good:α->Prop}{n:Nat}(ht:Tryz.prog.underlying t=some (.slice e))(hsz:Tryz.prog.cellsOf e=sz)(hpos:0<sz)
 (hat:∀ y,(en y).all AV.atom=true/\(en y).length=sz)
 (hel:∀ cs x,DataW.trod enc Tryz.prog w base (fun _=>true) held n e cs=some x->∃ y,qh (KMw w) (en y) cs/\good y)
 {cs:List Value} {x:DataW H×List MemPlace} (h:DataW.trod enc Tryz.prog w base (fun _=>true) held (n+1) t cs=some x) :
 ∃ (l:List α) (v:Value),cs=[v]/\qf (KMw w) (.sl sz (l.map en) .none) v/\Fits l/\∀ y∈l,good y:=by
 obtain⟨l,v,h1,h2,h3,h4,_⟩:=YI (X:=fun _=>True) ht hsz hpos hat (fun cs x h _=>hel cs x h) h (fun _ _ _ _ _=>trivial);exact⟨l,v,h1,h2,h3,h4⟩
end
end
def yd:Ex->Nat->Bool
 | _,0=>false
 | e,k+1=>decide (e.args.length<=40)&&e.args.all fun a=>yd a k
theorem qiw {n:Nat}:∀ {l:List Ex},(∀ a∈l,hgt a<=n)->Ju l<=n
 | [],_=>by simp
 | a::r,h=>by
  have h1:=h a (by simp);have h2:=qiw (l:=r) fun x hx=>h x (by simp[hx])
  simp;omega
theorem qaJ:∀ {k:Nat} {e:Ex},yd e k=true->hgt e<=k
 | 0,e,h=>by simp[yd]at h
 | k+1,e,h=>by
  simp only[yd,qp9,qqi]at h;have:=qiw (l:=e.args) fun a ha=>qaJ (h.2 a ha)
  rw[vo];omega
def WB:Nat->Nat
 | 0=>0
 | k+1=>1+40*WB k
theorem qhF {n:Nat}:∀ {l:List Ex},(∀ a∈l,(pre a).length<=n)->(wM l).length<=l.length*n
 | [],_=>by simp
 | a::r,h=>by
  have h1:=h a (by simp);have h2:=qhF (l:=r) fun x hx=>h x (by simp[hx])
  simp only[yI,qqb,qqm,qq5,qtv];omega
theorem Yu:∀ {k:Nat} {e:Ex},yd e k=true->(pre e).length<=WB k
 | 0,e,h=>by simp[yd]at h
 | k+1,e,h=>by
  simp only[yd,qp9,qqi,decide_eq_true_eq]at h;have h1:=qhF (l:=e.args) fun a ha=>Yu (h.2 a ha)
  have h2:e.args.length*WB k<=40*WB k:=qrk _ h.1;rw[jc];simp only[qqm,WB];omega
theorem qmW {e:Ex}(h:yd e 8=true):hgt e<=8/\(pre e).length<=200000000000:=by
 have h1:=Yu h;have h2:WB 8=168041025641:=by decide
 exact⟨qaJ h,by omega⟩
def okN (w:Int)(l:List Int)(n:Int):Bool:=decide (0<=n)&&decide (n<2 ^ w.toNat)&&!(l.any (n == ·))
def okL (w:Int)(l:List Int):Bool:=(List.range l.length).all fun k=>okN w (l.take k) (l.getD k 0)
def okV (v:Var)(l:List Int):Bool:=(v.mode==2||l.isEmpty)&&okL v.width l
def ya (vs:List Var)(c:List (List Int)):Bool:=decide (c.length=vs.length)&&(vs.zip c).all fun x=>okV x.1 x.2
def yw (w:Int)(l:List Int):List Int:=((List.range (2 ^ w.toNat)).map fun n:Nat=>(n:Int)).filter fun n=>!(l.any (n == ·))
def qo6 (w:Int)(l:List Int):List Int:=if yw w l=[] then yw w [] else yw w l
end Go.Proofs.YtoibbcnfhhggnaaGreatDoor
end
