/- A part of the proof. -/
import Derived.Test.YtkpkjbchlabaaaaGreatDoorSa20
import Derived.Test.YtkpkjbchlabaaaaGreatDoorSa10
import Derived.Test.YtkpkjbchlabaaaaGreatDoorSa08
set_option linter.unusedVariables false
set_option linter.unusedSimpArgs false
set_option maxHeartbeats 16000000
set_option maxRecDepth 100000
set_option linter.defProp false
section
namespace Go.Proofs.YtkpkjbchlabaaaaGreatDoor
open Go Go.Abs
abbrev Rg:=Int×Int
@[simp]def yH (r:Rg):List AV:=[.int .i64 r.1,.int .i64 r.2]
def Jg (out:List Rg)(n:Int):List Rg:=match out.getLast? with
 | some r=>if r.2=n-1 then out.dropLast++[(r.1,n)] else out++[(n,n)]
 | none=>out++[(n,n)]
def qhg (l:List Int):List Rg:=l.foldl Jg []
def jP (n:Int):Ex:=.mk 1 n [] []
def w9 (s:Str):Ex:=.mk 2 0 s []
def Js (s:Str)(l:List Rg):Ex:=.mk 23 0 [] (w9 s::l.flatMap fun r=>[jP r.1,jP r.2])
def orE (a b:Ex):Ex:=.mk 20 0 [] [a,b]
def z8 {α:Type}(n:Nat):Nat->List α->List (List α)
 | 0,_=>[]
 | k+1,l=>if l=[] then [] else l.take n::z8 n k (l.drop n)
def Wz (s:Str)(out:Ex)(l:List (List Rg)):Ex:=l.foldl (fun o c=>orE o (Js s c)) out
def Qh (s:Str)(l:List Rg):Ex:=if l=[] then jP 0 else Wz s (Js s (l.take 16)) (z8 16 l.length (l.drop 16))
def inW (n:Int)(w:Weight):Bool:=decide (w.lo<=n)&&decide (n<=w.hi)
def qdY (l:List Weight)(n:Int):Bool:=match l.find? (inW n) with
 | some w=>decide (0<w.weight)
 | none=>false
def qci (v:Var)(l:List Weight):List Int:=((List.range (jx v)).map fun n:Nat=>(n:Int)).filter (qdY l)
def Ks (vs:List Var)(d:Dist):Ex:=match vs[d.var.toNat]? with
 | some v=>Qh v.name (qhg (qci v d.weights))
 | none=>jP 0
def vt (p:Problem):List Ex:=p.dists.map (Ks p.vars)
def qcG (p:Problem):List Ex:=p.hard++vt p
noncomputable def kK (vs:List Var)(rules:List Ex):List (Int×Ex)->List (Int×Ex)
 | []=>[]
 | x::r=>if jO vs (rules++[x.2]) then x::kK vs (rules++[x.2]) r else kK vs rules r
def Jq (l:List Ex):List (Int×Ex):=(l.zipIdx.map fun q=>((q.2:Int),q.1)).reverse
noncomputable def Zt (p:Problem):List (Int×Ex):=(kK p.vars (qcG p) (Jq p.soft)).reverse
noncomputable def qhf (p:Problem):List Ex:=qcG p++(Zt p).map (·.2)
theorem Va {n:Int}(h0:0<=n)(h1:n<=65535):qo (jP n)=0:=by
 simp[qo,jP,qi,zo,Ex.op,Ex.n,Ex.name,Ex.args];omega
theorem qgE {s:Str}(h:yX s=true):qo (w9 s)=0:=by
 simp[qo,w9,qi,zo,Ex.op,Ex.n,Ex.name,Ex.args,h]
theorem QT (n:Int):pre (jP n)=[jP n]:=by simp[jr,jP]
theorem qdV (s:Str):pre (w9 s)=[w9 s]:=by simp[jr,w9]
theorem qaJ:∀ (l:List Rg),kx (l.flatMap fun r=>[jP r.1,jP r.2])=l.flatMap fun r=>[jP r.1,jP r.2]
 | []=>rfl
 | r::l=>by rw[qqD,wB,qaJ l];simp[QT]
theorem qdW (s:Str)(l:List Rg):pre (Js s l)=Js s l::w9 s::l.flatMap fun r=>[jP r.1,jP r.2]:=by
 rw[jr];show Js s l::kx (w9 s::_)=_;rw[yb,qdV,qaJ];rfl
theorem W9:∀ (l:List Rg),(l.flatMap fun r=>[jP r.1,jP r.2]).length=2*l.length
 | []=>rfl
 | r::l=>by rw[qqD,qqg,W9 l];simp;omega
def qjJ (r:Rg):Prop:=(0<=r.1/\r.1<=65535)/\0<=r.2/\r.2<=65535
structure EOk (s:Str)(h m:Nat)(e:Ex):Prop where
 nodes:∀ x∈pre e,qo x=0/\x.op≠3/\x.op≠24/\(x.op=2->x.name=s)
 hgt:hgt e<=h
 size:(pre e).length<=m
theorem EOk.ins {s:Str}(hs:yX s=true){l:List Rg}(hl:l≠[])(hn:l.length<=16)(hr:∀ r∈l,qjJ r):EOk s 2 34 (Js s l):=by
 have hlen:=W9 l;have hpos:0<l.length:=qqt.2 hl;refine⟨fun x hx=>?_,?_,?_⟩
 . rw[qdW]at hx;rcases qqE.1 hx with rfl|hx
   . refine⟨?_,by simp[Js,Ex.op],by simp[Js,Ex.op],by simp[Js,Ex.op]⟩;unfold qo qi;simp only[Js,Ex.op_mk,Ex.n_mk,Ex.name_mk,Ex.args_mk,qqs,hlen];have h1:(2*l.length+1) % 2=1:=(by omega);have h2:3<=2*l.length+1:=(by omega);have h3:2*l.length+1<=33:=(by omega);simp[h1,h2,h3]
   . rcases qqE.1 hx with rfl|hx
     . exact⟨qgE hs,by simp[w9,Ex.op],by simp[w9,Ex.op],fun _=>rfl⟩
     . obtain⟨r,hr1,hx⟩:=List.mem_flatMap.1 hx;have:=hr r hr1;simp only[qqE,qrA,or_false]at hx;rcases hx with rfl|rfl
       . exact⟨Va this.1.1 this.1.2,by simp[jP,Ex.op],by simp[jP,Ex.op],by simp[jP,Ex.op]⟩
       . exact⟨Va this.2.1 this.2.2,by simp[jP,Ex.op],by simp[jP,Ex.op],by simp[jP,Ex.op]⟩
 . rw[kD];have:Zj (Js s l).args<=1:=by
    show Zj (w9 s::_)<=1;rw[Q3];have h1:Go.Proofs.YtkpkjbchlabaaaaGreatDoor.hgt (w9 s)=1:=(by simp[kD,w9]);have h2:Zj (l.flatMap fun r=>[jP r.1,jP r.2])<=1:=by
     clear hlen hpos hl hn hr h1
     induction l with
     | nil=>simp
     | cons r l ih=>
      rw[qqD];simp only[qqz,qqw,Q3];have:∀ n,Go.Proofs.YtkpkjbchlabaaaaGreatDoor.hgt (jP n)=1:=fun n=>by simp[kD,jP]
      rw[this,this];omega
    omega
   omega
 . rw[qdW,qqs,qqs,hlen];omega
theorem EOk.or {s:Str}{h h' m m':Nat}{a b:Ex}(ha:EOk s h m a)(hb:EOk s h' m' b):EOk s (max h h'+1) (m+m'+1) (orE a b):=by
 have hp:pre (orE a b)=orE a b::(pre a++pre b):=by rw[jr];simp[orE]
 refine⟨fun x hx=>?_,?_,?_⟩
 . rw[hp]at hx;rcases qqE.1 hx with rfl|hx
   . refine⟨?_,by simp[orE,Ex.op],by simp[orE,Ex.op],by simp[orE,Ex.op]⟩;simp[qo,orE,qi,zo,Ex.op,Ex.n,Ex.name,Ex.args]
   . rcases qqA.1 hx with hx|hx
     . exact ha.nodes x hx
     . exact hb.nodes x hx
 . rw[kD];have:=ha.hgt;have:=hb.hgt;simp only[orE,Ex.args_mk,Q3,qlw];omega
 . rw[hp,qqs,qqg];have:=ha.size;have:=hb.size;omega
theorem EOk.chain {s:Str}(hs:yX s=true):∀ (l:List (List Rg)) {h m:Nat} {out:Ex},EOk s (h+2) m out->(∀ c∈l,c≠[]/\c.length<=16/\∀ r∈c,qjJ r)->EOk s (h+2+l.length) (m+35*l.length) (Wz s out l)
 | [],h,m,out,ho,_=>ho
 | c::l,h,m,out,ho,hc=>by
  have h1:=hc c (by simp);have h2:=ho.or (EOk.ins hs h1.1 h1.2.1 h1.2.2);have h3:=EOk.chain hs l (h:=h+1) (m:=m+34+1) (out:=orE out (Js s c)) (by
   have e:max (h+2) 2+1=h+1+2:=(by omega);rw[e]at h2;exact h2) (fun c hm=>hc c (by simp[hm]))
  have e1:h+2+(c::l).length=h+1+2+l.length:=by simp;omega
  have e2:m+35*(c::l).length=m+34+1+35*l.length:=by simp;omega
  rw[e1,e2];exact h3
theorem Yv {α:Type}{n:Nat}(hn:0<n):∀ (k:Nat) (l:List α),∀ c∈z8 n k l,c≠[]/\c.length<=n/\∀ x∈c,x∈l
 | 0,_,c,h=>by cases h
 | k+1,l,c,h=>by
  unfold z8 at h;split at h
  . cases h
  . rename_i hl;rcases qqE.1 h with rfl|h
    . have:=qqt.2 hl;refine⟨qqt.1 (by rw[qqP];omega),by rw[qqP];omega,fun x hx=>qrf hx⟩
    . obtain⟨h1,h2,h3⟩:=Yv hn k _ c h;exact⟨h1,h2,fun x hx=>qrT (h3 x hx)⟩
theorem Yw {α:Type}{n:Nat}(hn:0<n):∀ (k:Nat) (l:List α) (m:Nat),l.length<=m*n->(z8 n k l).length<=m
 | 0,_,m,_=>by simp[z8]
 | k+1,l,m,h=>by
  unfold z8;split
  . simp
  . rename_i hl;have:=qqt.2 hl
    cases m with
    | zero=>omega
    | succ m=>
     have:=Yw hn k (l.drop n) m (by rw[qsG];rw[qso]at h;omega);simp;omega
theorem EOk.valid {s:Str}{e:Ex}{h m:Nat}(ho:EOk s h m e)(hh:h<=24)(hm:m<=400){vs:List Var}(hv:vH vs s=true):zi vs e=0:=by
 have h1:qM qo (pre e)=0:=zr.2 fun x hx=>(ho.nodes x hx).1
 have h2:zf e=0:=by
  unfold zf;have h3:=ho.hgt;have h4:=ho.size;have h5:Kt e=(pre e).length:=by unfold Kt;rw[wr (by omega) (by omega)]
  rw[if_neg,h1];rintro⟨_,h|h⟩
  . omega
  . rw[h5]at h;omega
 have h3:Jf e=false:=by
  unfold Jf;rw[qrD];intro x hx;have:=ho.nodes x hx;simp[this.2.1,this.2.2.1]
 have h4:Qw vs e=false:=by
  unfold Qw;rw[qrD];intro x hx;have:=(ho.nodes x hx).2.2.2;by_cases h:x.op=2
  . simp[h,this h,hv]
  . simp[h]
 unfold zi;simp[h2,h3,h4]
theorem We {n:Int}(h0:0<=n)(h1:n<=65535)(vs:List Var):zi vs (jP n)=0:=by
 have hp:=QT n;have h2:zf (jP n)=0:=by
  unfold zf Kt;rw[hp];have:hgt (jP n)=1:=by simp[kD,jP]
  rw[this];simp[qM,Va h0 h1];decide
 have h3:Jf (jP n)=false:=by unfold Jf;rw[hp];simp[jP,Ex.op]
 have h4:Qw vs (jP n)=false:=by unfold Qw;rw[hp];simp[jP,Ex.op]
 unfold zi;simp[h2,h3,h4]
theorem qal {s:Str}(hs:yX s=true){l:List Rg}(hl:l.length<=128)(hr:∀ r∈l,qjJ r){vs:List Var}(hv:vH vs s=true):zi vs (Qh s l)=0:=by
 unfold Qh;split
 . exact We (by omega) (by omega) vs
 . rename_i h0;have hpos:=qqt.2 h0;have h1:=EOk.ins hs (l:=l.take 16) (qqt.1 (by rw[qqP];omega)) (by rw[qqP];omega) (fun r h=>hr r (qrf h));have h2:=EOk.chain hs (z8 16 l.length (l.drop 16)) (h:=0) h1 (fun c hc=>by
    obtain⟨a,b,c'⟩:=Yv (by omega) _ _ c hc;exact⟨a,b,fun r h=>hr r (qrT (c' r h))⟩)
   have h3:=Yw (n:=16) (by omega) l.length (l.drop 16) 7 (by rw[qsG];omega);exact h2.valid (by omega) (by omega) hv
theorem qmt {out:List Rg}{n:Int}(hn:0<=n/\n<=65535)(h1:∀ r∈out,qjJ r)(h2:∀ r,out.getLast?=some r->r.2<n/\2*(out.length:Int)<=r.2+2) :
 (∀ r∈Jg out n,qjJ r)/\∃ r,(Jg out n).getLast?=some r/\r.2=n/\2*((Jg out n).length:Int)<=n+2:=by
 have new:(∀ r,out.getLast?=some r->¬ r.2=n-1)->(∀ r∈out++[(n,n)],qjJ r)/\∃ r,(out++[(n,n)]).getLast?=some r/\r.2=n/\2*((out++[(n,n)]).length:Int)<=n+2:=by
  intro hne;refine⟨fun r hr=>?_,(n,n),by simp,rfl,?_⟩
  . rcases qqA.1 hr with hr|hr
    . exact h1 r hr
    . simp only[qqE,qrA,or_false]at hr;subst hr;exact⟨hn,hn⟩
  . rw[qqg]
    cases h:out.getLast? with
    | none=>
     rw[qsQ]at h;subst h;simp;omega
    | some r=>
     have:=h2 r h;have:=hne r h;simp only[qqs,qq0];omega
 unfold Jg
 cases h:out.getLast? with
 | none=>exact new fun r hr=>by rw[h]at hr;cases hr
 | some r=>
  simp only;have h3:=h2 r h;split
  . rename_i he;obtain⟨l,rfl⟩:=qtr.1 h;rw[List.dropLast_concat];refine⟨fun x hx=>?_,(r.1,n),by simp,rfl,?_⟩
    . rcases qqA.1 hx with hx|hx
      . exact h1 x (by simp[hx])
      . simp only[qqE,qrA,or_false]at hx;subst hx;exact⟨(h1 r (by simp)).1,hn⟩
    . simp only[qqg,qqs,qq0]at h3 ⊢;omega
  . rename_i he;exact new fun x hx=>by rw[h]at hx;cases hx;exact he
theorem qbp:∀ {l:List Int} {out:List Rg} {N:Int},l.Pairwise (· < ·)->(∀ x∈l,0<=x/\x<=65535/\x<N)->(∀ r∈out,qjJ r)->(∀ r,out.getLast?=some r->r.2<N/\2*(out.length:Int)<=r.2+2/\∀ x∈l,r.2<x) ->
 (∀ r∈l.foldl Jg out,qjJ r)/\∀ r,(l.foldl Jg out).getLast?=some r->r.2<N/\2*((l.foldl Jg out).length:Int)<=r.2+2
 | [],out,N,_,_,h1,h2=>⟨h1,fun r hr=>⟨(h2 r hr).1,(h2 r hr).2.1⟩⟩
 | x::l,out,N,hp,hx,h1,h2=>by
  rw[qqR];obtain⟨hp1,hp2⟩:=List.pairwise_cons.1 hp;have hx0:=hx x (by simp);obtain⟨a1,r,a2,a3,a4⟩:=qmt (n:=x) ⟨hx0.1,hx0.2.1⟩ h1 (fun r hr=>⟨(h2 r hr).2.2 x (by simp),(h2 r hr).2.1⟩);refine qbp hp2 (fun y hy=>hx y (by simp[hy])) a1 fun r' hr'=>?_
  rw[a2]at hr';cases hr';exact⟨by omega,by omega,fun y hy=>by rw[a3];exact hp1 y hy⟩
theorem qct {l:List Int}{N:Int}(hp:l.Pairwise (· < ·))(hx:∀ x∈l,0<=x/\x<=65535/\x<N)(hN:0<=N):(∀ r∈qhg l,qjJ r)/\2*((qhg l).length:Int)<=N+1:=by
 have:=qbp (out:=[]) hp hx (fun r h=>by cases h) (fun r h=>by cases h);refine⟨this.1,?_⟩
 cases h:(qhg l).getLast? with
 | none=>rw[qsQ]at h;rw[h];simp;omega
 | some r=>have:=this.2 r h;show 2*((l.foldl Jg []).length:Int)<=_;omega
theorem qch (v:Var)(l:List Weight):(qci v l).Pairwise (· < ·)/\∀ x∈qci v l,0<=x/\x<(jx v:Nat):=by
 unfold qci;refine⟨List.Pairwise.filter _ ?_,fun x hx=>?_⟩
 . rw[qs2];exact List.pairwise_lt_range.imp fun h=>by omega
 . obtain⟨hx,_⟩:=qtD.1 hx;obtain⟨n,hn,rfl⟩:=qqG.1 hx;have:=qri.1 hn;omega
theorem WX {v:Var}(h:v.width<=8):jx v<=256:=by
 unfold jx;have:v.width.toNat<=8:=by omega
 calc 2 ^ v.width.toNat<=2 ^ 8:=qqJ (by omega) this
  _=256:=rfl
theorem qfi {vs:List Var}(hv:∀ v∈vs,jH v=0)(d:Dist):zi vs (Ks vs d)=0:=by
 unfold Ks;split
 . rename_i v h;have hm:=qqd h;have h1:=zd (hv v hm);have h2:=qch v d.weights;have h3:=WX h1.2.2;have h4:=qct (N:=(jx v:Nat)) h2.1 (fun x hx=>by have:=h2.2 x hx;omega) (by omega);exact qal h1.1 (by omega) h4.1 (by unfold vH;rw[qqF];exact⟨v,hm,by simp⟩)
 . exact We (by omega) (by omega) vs
theorem qeB:∀ (l:List Ex) (i:Nat) (a:Ex),l[i]?=some a->((l.flatMap qr).drop (i*4)).take 4=qr a/\i*4+4<=(l.flatMap qr).length
 | [],i,a,h=>by simp at h
 | x::r,0,a,h=>by
  simp at h;subst h;rw[qqD,qrK,qrx,qre (by rw[zc];omega),qqk (by rw[zc];omega),qqg,zc];exact⟨rfl,by omega⟩
 | x::r,i+1,a,h=>by
  have ih:=qeB r i a (by simpa using h);rw[qqD,qrP,zc,qqO (by rw[zc];omega),qqw,show (i+1)*4-4=i*4 by omega,qqg,zc];exact⟨ih.1,by omega⟩
theorem qis:∀ (l:List Ex) (i:Nat) (a:Ex),l[i]?=some a->zj (l.flatMap qr) (i*4) (qr a)=l.flatMap qr:=fun l i a h=>by
 have hi:=(qqc.1 h).1;rw[vS (sz:=4) zc l i a hi];have:l.set i a=l:=by
  obtain⟨_,rfl⟩:=qqc.1 h;exact List.set_getElem_self hi
 rw[this]
theorem qdX {e a:Ex}(h:a∈e.args):(pre a).length<=(pre e).length:=by
 rw[jr e,qqs];have:∀ l:List Ex,a∈l->(pre a).length<=(kx l).length:=by
  intro l
  induction l with
  | nil=>intro h;cases h
  | cons x r ih=>
   intro h;rw[yb,qqg];rcases qqE.1 h with rfl|h
   . omega
   . have:=ih h;omega
 have:=this _ h;omega
theorem qeQ (e:Ex):e.args.length<=(pre e).length:=by
 rw[jr e,qqs];have:∀ l:List Ex,l.length<=(kx l).length:=by
  intro l
  induction l with
  | nil=>simp
  | cons x r ih=>rw[yb,qqg,jr x];simp;omega
 have:=this e.args;omega
theorem qiQ:∀ e,(pre e).length<=100000->Pure Tryz.prog GG 63 [.agg (qr e)] (.agg (qr e)):=by
 refine Ex.ind fun e ih hs=>?_
 have hal:=qeQ e;refine Pure.kO o0 true qe Tryz.func63 rfl (by kernel_rfl) ?_;have hE:=qd e;by_cases h0:e.args=[]
 . rw[h0]at hE;rw[hE];simp[-getElem?_pos,qx,yJ,V5];refine qX.gen (fun n ev U=>ev 1=.ptr 0 0/\ev 2=.ptr 1 0/\ev 3=.sl 4 [] (.chain 0 0)/\ev 14=.int .i64 0/\ev 15=.int .i64 0/\∃ T,U=⟨[.cells [.int .i64 e.op,.int .i64 e.n,.str e.name,.sl 4 [] .none],.cells [.int .i64 0,.int .i64 0,.str [],.sl 0 [] .nil]],T⟩) 0 ?_ ?_
   . exact⟨by simp,by simp,by simp,by simp,by simp,_,rfl⟩
   . rintro n ev U R hR ⟨e1,e2,e3,e14,e15,T,rfl⟩;simp[-getElem?_pos,e1,e2,e3,e14,e15];have hfc:∀ H,frz H 7 (.sl 4 [] (.chain 0 0))=.sl 4 [] .none:=fun H=>by rw[frz];simp[qR]
     rw[frz];simp[qR,qv,ZA,qij,hfc,Leq,zu]
 . have hpos:=qqt.2 h0;have hne:¬ (e.args.length:Int)=0:=(by omega);have hb:e.args.length<=549755813888:=(by omega);have hbI:(e.args.length:Int)<=549755813888:=(by omega);have hfl:(e.args.map qr).flatten=e.args.flatMap qr:=(by rw[qr0]);have hlenf:(e.args.flatMap qr).length=e.args.length*4:=z9 (sz:=4) zc e.args;have hz:((List.replicate e.args.length [AV.int .i64 0,.int .i64 0,.str [],.sl 0 [] .nil]).flatten).length=e.args.length*4:=(by simp);have hput:=putAt_all ((List.replicate e.args.length [AV.int .i64 0,.int .i64 0,.str [],.sl 0 [] .nil]).flatten) (e.args.flatMap qr) (by rw[hz,hlenf]);have htk:(e.args.map qr).take e.args.length=e.args.map qr:=qqk (by simp);have hcp:∀ B0 B1:Blk,yJ (Dof Tryz.prog) ⟨[B0,B1,.cells (List.replicate e.args.length [AV.int .i64 0,.int .i64 0,.str [],.sl 0 [] .nil]).flatten],[]⟩ 23 (.ms 2 0 e.args.length 4) (.sl 4 (e.args.map qr) .none)=some (.int .i64 e.args.length,⟨[B0,B1,.cells (e.args.flatMap qr)],[]⟩):=fun B0 B1=>by
    have hz':=hz;generalize (List.replicate e.args.length [AV.int .i64 0,.int .i64 0,.str [],.sl 0 [] .nil]).flatten=Z at *;simp[yJ,V5,qmR,hfl,hput,hz',htk,h0]
   have hat:=qeB e.args;have hpt:=qis e.args;have hfr:wN 4 e.args.length (e.args.flatMap qr)=e.args.map qr:=(by have:=v8 (sz:=4) zc e.args [];rwa[qqV]at this);rw[hE];generalize hZ:(List.replicate e.args.length [AV.int .i64 0,.int .i64 0,.str [],.sl 0 [] .nil]).flatten=Z at *;generalize hFE:e.args.flatMap qr=FE at *;simp[-getElem?_pos,qx,hne,h0,hbI,hZ,hcp];have hn0:e.args.length<=100000:=(by omega);have hatoms:∀ a:Ex,qQ (.agg (qr a))=some (qr a):=yh;refine qX.listR e.args (fun d ev U=>ev 1=.ptr 0 0/\ev 2=.ptr 1 0/\ev 3=.ms 2 0 e.args.length 4/\ev 14=.int .i64 e.args.length/\ev 15=.int .i64 d.length/\U=⟨[.cells [.int .i64 e.op,.int .i64 e.n,.str e.name,.sl 4 (e.args.map qr) .none],.cells [.int .i64 0,.int .i64 0,.str [],.sl 0 [] .nil],.cells FE],[]⟩) ?_ ?_ ?_
   . exact⟨by simp,by simp,by simp,by simp,by simp,by simp⟩
   . rintro d a rest ev U R hR hd hx hlt ⟨e1,e2,e3,e14,e15,rfl⟩;have hm:=qqd hx;have hia:=ih a hm (by have:=qdX hm;omega);have hw:=wr (n:=(d.length:Int)+1) (by omega) (by omega);obtain⟨ht,hle⟩:=hat d.length a hx;have hp:=hpt d.length a hx;have ha2:=hatoms a;have hl4:=zc a;have hnr:=nrE a;generalize qr a=W at *;simp[-getElem?_pos,-qQ,e1,e2,e3,e14,e15,hlt,ht,hle];refine qc.call hia (by simp[qv,hnr]) ?_;simp[-getElem?_pos,-qQ,ha2,hl4,hp,hle,e1,e2,e3,e14,e15,hlt,hw];exact hR _ _ ⟨by simp[e1],by simp[e2],by simp[e3],by simp[e14],by simp,rfl⟩
   . rintro ev U ⟨e1,e2,e3,e14,e15,rfl⟩;simp[-getElem?_pos,e1,e2,e3,e14,e15];have ho:js 2 4 qr [Blk.cells [AV.int .i64 e.op,.int .i64 e.n,.str e.name,.ms 2 0 e.args.length 4],.cells [.int .i64 e.op,.int .i64 e.n,.str e.name,.ms 2 0 e.args.length 4],.cells FE] (.ms 2 0 e.args.length 4) e.args:=.inr ⟨h0,rfl,by rw[hFE];rfl⟩;have f1:=ho.frz zc (fun x=>nrE x) yA 6;have f2:=ho.frzNo zc (fun x=>nrE x) yA 6;rw[frz];rw[if_neg (by simp[qR,qv])];simp only[qqp,qqU,ZA,qij,qR,qv,Leq,zu,qsu,qrg,and_true,true_and];exact⟨f2,f1⟩
end Go.Proofs.YtkpkjbchlabaaaaGreatDoor
end
