/- A part of the proof. -/
import Derived.Test.YtpgcmnabljandaaGreatDoorPa06
import Derived.Test.YtpgcmnabljandaaGreatDoorPa07
set_option linter.unusedVariables false
set_option linter.unusedSimpArgs false
set_option linter.defProp false
attribute [local simp] Go.Abs.acells Go.Abs.fin Go.Abs.zh Go.Abs.ze Go.Abs.pl1 Go.Abs.plain Go.Abs.pl2 Go.Abs.AV.atom
section
namespace Go.Abs
open Go Go.RowKit
section
theorem wr {n:Int}(h : -9223372036854775808<=n)(h':n<9223372036854775808):IntKind.i64.wrap n=n:=by
 simp[IntKind.wrap,IntKind.bits,IntKind.signed];omega
theorem zn {α:Type}{l:List α}{i:Nat}{v:α}(h:l[i]?=some v):l.drop i=v::l.drop (i+1):=by
 obtain⟨h1,h2⟩:=qqV.1 h;rw[qsx h1,h2]
theorem qcB {a:AV}(h:zg a=true):pl1 a=a:=by
 unfold pl1;split
 . simp[zg]at h
 . rfl
theorem VO:∀ {l:List AV},qu l=true->l.map pl1=l
 | [],_=>rfl
 | a::r,h=>by
  simp only[qu,qq1]at h;rw[qqZ,qcB h.1,VO h.2]
theorem qcA {a:AV}(h:zg a=true):pl2 a=a:=by
 unfold pl2;split
 . simp only[zg]at h;simp[VO h]
 . exact qcB h
theorem VN:∀ {l:List AV},qu l=true->l.map pl2=l
 | [],_=>rfl
 | a::r,h=>by
  simp only[qu,qq1]at h;rw[qqZ,qcA h.1,VN h.2]
theorem ZM {a:AV}(h:zg a=true):plain a=a:=by
 unfold plain;split
 . simp only[zg]at h;simp[VN h]
 . exact qcA h
theorem yh:∀ {l:List AV},qu l=true->l.map plain=l
 | [],_=>rfl
 | a::r,h=>by
  simp only[qu,qq1]at h;rw[qqZ,ZM h.1,yh h.2]
theorem qP {H:List Blk}{n:Nat}{a:AV}(h:zg a=true):frz H n a=a:=by
 cases n<;>simp[frz,h]
theorem jn:∀ {l m:List AV},qu (l++m)=(qu l&&qu m)
 | [],m=>by simp[qu]
 | a::r,m=>by simp[qu,jn (l:=r),Bool.and_assoc]
theorem qS {α:Type}{f:α->List AV}(h:∀ x,qu (f x)=true):∀ (l:List α),zp (l.map f)=true
 | []=>rfl
 | a::r=>by simp[zp,h,qS h r]
theorem zd {l m:List (List AV)}:zp (l++m)=(zp l&&zp m):=by
 simp[VU]
theorem Leq.sl {sz:Nat}{l m:List (List AV)}{tok:Tok}(h:l=m):Leq (.sl sz l tok) (.sl sz m .none):=by
 subst h;simp[Leq,yL.refl]
theorem Leq.slnil {sz sz':Nat}{tok:Tok}:Leq (.sl sz [] tok) (.sl sz' [] .none):=by simp[Leq]
section
variable {P:Program}{G:Nat->AV}{O:St}{f:FuncId}{args args':List AV}{r r':AV}{Q:AV->St->Prop}
theorem qq.call (h:Pure P G f args r)(hno:qu args=true)(hq:Q r O):qq P G f args O Q :=
 qq.pure h (by rw[yh hno];exact hno) (by rw[yh hno];exact zt.refl _) hq
theorem qe.call {d:Bool}(h:Pure P G f args r)(hno:qu args=true)(hq:Q r O):qe P G d f args O Q :=
 qe.pure h (by rw[yh hno];exact hno) (by rw[yh hno];exact zt.refl _) hq
theorem qe.less {d:Bool}(h:Pure P G f args' r)(hno:qu args=true)(ha:zt args args')(hq:Q r O):qe P G d f args O Q :=
 qe.pure h (by rw[yh hno];exact hno) (by rw[yh hno];exact ha) hq
end
abbrev I_ (n:Int):AV:=.int .i64 n
theorem wq {n:Nat}(h:n<=4611686018427387904):IntKind.i64.wrap ((n:Int)+1)=(n+1:Nat):=by rw[wr (by omega) (by omega)];omega
end
end Go.Abs
end
section
namespace Go.Proofs.YtpgcmnabljandaaGreatDoor
open Go Go.Abs
abbrev Str:=List UInt8
structure Var where
 name:Str
 width:Int
 mode:Int
 value:Int
structure Weight where
 lo:Int
 hi:Int
 weight:Int
 each:Bool
structure Dist where
 var:Int
 weights:List Weight
inductive Ex where
 | mk (op n:Int) (name:Str) (args:List Ex)
structure Problem where
 vars:List Var
 hard:List Ex
 soft:List Ex
 dists:List Dist
 groups:List (List Int)
structure Signal where
 name:Str
 value:Int
def Ex.op:Ex->Int | .mk o _ _ _=>o
def Ex.n:Ex->Int | .mk _ n _ _=>n
def Ex.name:Ex->Str | .mk _ _ s _=>s
def Ex.args:Ex->List Ex | .mk _ _ _ a=>a
@[simp]theorem Ex.op_mk {o n:Int}{s:Str}{a:List Ex}:(Ex.mk o n s a).op=o:=rfl
@[simp]theorem Ex.n_mk {o n:Int}{s:Str}{a:List Ex}:(Ex.mk o n s a).n=n:=rfl
@[simp]theorem Ex.name_mk {o n:Int}{s:Str}{a:List Ex}:(Ex.mk o n s a).name=s:=rfl
@[simp]theorem Ex.args_mk {o n:Int}{s:Str}{a:List Ex}:(Ex.mk o n s a).args=a:=rfl
@[simp]def qo (v:Var):List AV:=[.str v.name,.int .i64 v.width,.int .i64 v.mode,.int .i64 v.value]
@[simp]def zs (w:Weight):List AV:=[.int .i64 w.lo,.int .i64 w.hi,.int .i64 w.weight,.bool w.each]
@[simp]def qG (d:Dist):List AV:=[.int .i64 d.var,.sl 4 (d.weights.map zs) .none]
@[simp]def qY (n:Int):List AV:=[.int .i64 n]
@[simp]def qs (s:Str):List AV:=[.str s]
@[simp]def qD (s:Signal):List AV:=[.str s.name,.int .i64 s.value]
mutual
def qz:Ex->List AV
 | .mk o n s a=>[.int .i64 o,.int .i64 n,.str s,.sl 4 (qij a) .none]
def qij:List Ex->List (List AV)
 | []=>[]
 | a::r=>qz a::qij r
end
@[simp]theorem qnK:∀ l,qij l=l.map qz
 | []=>rfl
 | a::r=>by simp[qij,qnK r]
theorem qa (e:Ex):qz e=[.int .i64 e.op,.int .i64 e.n,.str e.name,.sl 4 (e.args.map qz) .none]:=by cases e;simp[qz]
@[simp]def zZ (l:List Int):List AV:=[.sl 1 (l.map qY) .none]
@[simp]def yM (p:Problem):List AV:=[.sl 4 (p.vars.map qo) .none,.sl 4 (p.hard.map qz) .none,.sl 4 (p.soft.map qz) .none,.sl 2 (p.dists.map qG) .none,.sl 1 (p.groups.map zZ) .none]
@[simp]theorem nrVar (l:List Var):zp (l.map qo)=true:=qS (fun x=>by simp) l
@[simp]theorem nrWeight (l:List Weight):zp (l.map zs)=true:=qS (fun x=>by simp) l
@[simp]theorem nrDist (l:List Dist):zp (l.map qG)=true:=qS (fun x=>by simp) l
@[simp]theorem nrInt (l:List Int):zp (l.map qY)=true:=qS (fun x=>by simp) l
@[simp]theorem nrStr (l:List Str):zp (l.map qs)=true:=qS (fun x=>by simp) l
@[simp]theorem nrSignal (l:List Signal):zp (l.map qD)=true:=qS (fun x=>by simp) l
@[simp]theorem nrInts (l:List (List Int)):zp (l.map zZ)=true:=qS (fun x=>by simp) l
mutual
theorem nrE':∀ e,qu (qz e)=true
 | .mk o n s a=>by
  have:=nrEs' a;simp[qz,this];simpa using this
theorem nrEs':∀ l,zp (qij l)=true
 | []=>rfl
 | a::r=>by simp only[qij,zp,nrE' a,nrEs' r,qty]
end
@[simp]theorem nrE (e:Ex):qu (qz e)=true:=nrE' e
@[simp]theorem nrEs (l:List Ex):zp (l.map qz)=true:=qS (fun x=>nrE x) l
theorem qg:Zp.follows .mixedOrders=true:=by kernel_rfl
abbrev Fits {α:Type}(l:List α):Prop:=l.length<9223372036854775808
def qF {α:Type}(p:α->Bool):List α->Int->Int
 | [],_=>-1
 | v::r,i=>if p v then i else qF p r (i+1)
theorem vw {α:Type}{p:α->Bool}:∀ {l:List α} {i:Int},0<=i->(0<=qF p l i↔l.any p=true)
 | [],i,_=>by simp[qF]
 | v::r,i,h=>by
  simp only[qF,qsS];split
  . rename_i hp;simp[hp,h]
  . rename_i hp;simp[hp,vw (l:=r) (i:=i+1) (by omega)]
@[simp]theorem qkV {α:Type}(p:α->Bool)(l:List α):decide (0<=qF p l 0)=l.any p:=by
 rw[qr5,decide_eq_true_iff];exact vw (by omega)
abbrev sV (l:List Var):AV:=.sl 4 (l.map qo) .none
abbrev sE (l:List Ex):AV:=.sl 4 (l.map qz) .none
abbrev sN (l:List Int):AV:=.sl 1 (l.map qY) .none
abbrev sS (l:List Str):AV:=.sl 1 (l.map qs) .none
abbrev sG (l:List Signal):AV:=.sl 2 (l.map qD) .none
abbrev sD (l:List Dist):AV:=.sl 2 (l.map qG) .none
abbrev sK (l:List (List Int)):AV:=.sl 1 (l.map zZ) .none
abbrev sW (l:List Weight):AV:=.sl 4 (l.map zs) .none
end Go.Proofs.YtpgcmnabljandaaGreatDoor
end
