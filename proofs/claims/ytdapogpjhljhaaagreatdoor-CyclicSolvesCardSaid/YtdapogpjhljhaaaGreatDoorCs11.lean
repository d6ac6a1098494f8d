import Derived.Test.YtdapogpjhljhaaaGreatDoorCs09
import Derived.Test.YtdapogpjhljhaaaGreatDoorCs10
import Derived.Test.YtdapogpjhljhaaaGreatDoorCs08
set_option maxHeartbeats 16000000
set_option maxRecDepth 100000
set_option linter.all false
set_option linter.defProp false
namespace Go.Proofs.YtdapogpjhljhaaaGreatDoor
open Go Go.Abs Tryz
def oM:Opts:=⟨true,[],[],[]⟩
@[simp]def qAk:oM.mu=true:=rfl
@[simp]def qAl:oM.lw=[]:=rfl
def qsM(n:Nat)(a:n<=1000000)(σ:St):qh prog GG 117 [.sl 0 [] .nil,.int .i64 n] σ (fun r σ'=>(n=0/\r=.sl 0 [] .nil/\σ'=σ)\/(0<n/\r=.ms σ.H.length 0 0 4/\∃c,σ'=σ.push (.cells c))):=by
 refine qh.vcO oM func117 ?_;have w0:IntKind.i64.wrap 0=0:=by decide
 by_cases h0:n=0
 . subst h0;simp[qt4,w0]
 have h2:(0:Int)<n:=by omega
 simp[qt4,show ¬(n:Int)<0 by omega,show IntKind.i64.wrap (n:Int)=n from wr,w0,show 0<n by omega,show(n:Int)<=549755813888 by omega,zm,zM,yp,zH,qY,zD,qP]
def CR(T R:List Ex)(v:AV)(σ:St):Prop:=(T=[]/\v=.sl 0 [] .nil)\/∃b c,v=.ms b 0 R.length 4/\σ.H[b]?=some (.cells c)/\R.length*4<=c.length/\c.take (R.length*4)=(R.map qo).flatten
@[simp]def qbi(e):(qo e).length=4:=by rw[qd];rfl
def Wr:∀(l:List Ex),((l.map qo).flatten).length=l.length*4
 |[]=>rfl
 |a::r=>by simp only[qBz,qB7,qBp,qbi,Wr r,qBB];omega
def WK:∀(R:List Ex) (c),R.length*4<=c.length->c.take (R.length*4)=(R.map qo).flatten->ww 4 R.length c=R.map qo
 |[],c,_,_=>rfl
 | a::r,c,e,h=>by
  have b:c.take 4=qo a:=by
   have:=congrArg (List.take 4) h;rw[List.take_take,qBz,qB7,List.take_left' (qbi a)]at this;rw[<- this];congr 1;simp only[qBB];omega
  have d:(c.drop 4).take (r.length*4)=(r.map qo).flatten:=by
   have:=congrArg (List.drop 4) h;rw[qBz,qB7,List.drop_left' (qbi a),qFi]at this;rw[<- this];congr 1;simp only[qBB];omega
  rw[qBB,ww,b,WK r (c.drop 4) (by simp only[qCj,qBB]at e⊢;omega) d,qBz]
def qdG{T R X b c σ}(hb:σ.H[b]?=some (.cells c))(d:R.length*4<=c.length)(h:c.take (R.length*4)=(R.map qo).flatten)(a:R.length+X.length<=1000000):
 ∃v' σ',qY (Dof prog) σ 23 23 (.ms b 0 R.length 4) (.sl 4 (X.map qo) .none)=some (v',σ')/\CR T (R++X) v' σ':=by
 cases X with
 | nil=>
  refine⟨.ms b 0 R.length 4,σ,?_,.inr ⟨b,c,by simp,hb,by simpa using d,by simpa using h⟩⟩;simp[qY,zD,qP,Zl]
 | cons x X=>
  refine⟨.ms σ.H.length 0 (R.length+(X.length+1)) 4,{σ with H:=σ.H.set b .dead++[.cells (c.take (R.length*4)++((x::X).map qo).flatten)]},?_,.inr ⟨σ.H.length,c.take (R.length*4)++((x::X).map qo).flatten,by simp,by simp,?_,?_⟩⟩
  . have h1:R.length+(X.length+1)<=549755813888:=(by simp at a;omega);simp[*,qY,zD,qP,Zl]
  . rw[h];simp only[qBp,Wr];omega
  rw[h,qBr (by simp only[qBp,Wr];omega),qCl,qDi]
def qlL(h s:List Ex)(C:h.length<=10000)(F:s.length<=10000):Pure prog GG 79 [.sl 1 [[.sl 4 (h.map qo) .none],[.sl 4 (s.map qo) .none]] .none] (.sl 4 ((h++s).map qo) .none):=by
 refine Pure.vcO oM false func79 ?_;have D:IntKind.i64.wrap 1=1:=by decide
 have B:IntKind.i64.wrap 2=2:=by decide
 simp;refine qF3 (fun n env σ=>∃i:Nat,i<=2/\n=2-i/\env 0=.sl 1 [[.sl 4 (h.map qo) .none],[.sl 4 (s.map qo) .none]] .none/\env 3=.int .i64 (if i=0 then 0 else if i=1 then h.length else h.length+s.length)/\env 9=.sl 1 [[.sl 4 (h.map qo) .none],[.sl 4 (s.map qo) .none]] .none/\env 10=.int .i64 2/\env 11=.int .i64 i/\σ=⟨[],[]⟩) 2 ⟨0,by simp⟩ ?_;rintro n env σ ⟨i,hi,rfl,h0,j,x,y,u,rfl⟩;have l:i=0\/i=1\/i=2:=by omega
 rcases l with rfl|rfl|rfl
 . simp[*,show IntKind.i64.wrap (h.length:Int)=h.length from wr,show ¬(h.length:Int)<0 by omega];exact⟨1,by omega,1,by omega,rfl,rfl,rfl⟩
 . simp[*,show IntKind.i64.wrap ((h.length:Int)+s.length)=h.length+s.length from wr,show ¬(h.length:Int)+s.length<0 by omega];exact⟨2,by omega,by omega,rfl,rfl⟩
 have v:((h.length:Int)+s.length)=((h.length+s.length:Nat):Int):=by omega
 simp[h0,j,x,y,u];rw[v];refine qFU (qsM (h.length+s.length) (by omega) ⟨[],[]⟩) ?_;intro r σ' t;have a:CR (h++s) [] r σ':=by
  rcases t with⟨h1,h2,j⟩|⟨h1,h2,c,j⟩
  . exact .inl ⟨qBy (by rwa[qBp]),h2⟩
  subst j;exact .inr ⟨0,c,h2,by simp⟩
 refine qF3 (fun n env σ=>∃i:Nat,i<=2/\n=2-i/\env 25=.sl 1 [[.sl 4 (h.map qo) .none],[.sl 4 (s.map qo) .none]] .none/\env 26=.int .i64 2/\env 27=.int .i64 i/\CR (h++s) (if i=0 then [] else if i=1 then h else h++s) (env 6) σ) 2 ⟨0,by simp[];exact a⟩ ?_;rintro n env σ ⟨i,hi,rfl,A,E,z,a⟩;have l:i=0\/i=1\/i=2:=by omega
 rcases l with rfl|rfl|rfl
 . simp at a;rcases a with⟨d,e⟩|⟨b,c,e,hb,f,g⟩
   . simp at d;obtain⟨rfl,rfl⟩:=d;simp[*,qY,zD,qm,qP,Zl,qR];exact⟨1,by omega,1,by omega,rfl,rfl,.inl ⟨rfl,rfl⟩⟩
   obtain⟨v',σ',o,m⟩:=qdG (T:=h++s) (X:=h) hb f g (by simp;omega);simp at e o;simp[*];exact⟨1,by omega,1,by omega,rfl,rfl,by simpa using m⟩
 . simp at a;rcases a with⟨d,e⟩|⟨b,c,e,hb,f,g⟩
   . simp at d;obtain⟨rfl,rfl⟩:=d;simp[*,qY,zD,qm,qP,Zl,qR];exact⟨2,by omega,by omega,rfl,.inl ⟨rfl,rfl⟩⟩
   obtain⟨v',σ',o,m⟩:=qdG (T:=h++s) (X:=s) hb f g (by omega);simp[*];exact⟨2,by omega,by omega,rfl,by simpa using m⟩
 simp at a;rcases a with⟨d,e⟩|⟨b,c,e,hb,f,g⟩
 . simp at d;obtain⟨rfl,rfl⟩:=d;simp[*]
 have w:=WK (h++s) c f g;simp at w f;rw[qBp]at e;simp[*,W7]
def qil(p:Problem)(s:Str)(a:Fits p.vars):Pure prog GG 84 [.str s,.rptr (qw p)] (.bool (!wK p.vars s)):=by
 refine qF6 func84 ?_;simp;refine qFQ (index GG p.vars s a) ?_;have:=Qx (fun v:Var=>v.name==s) p.vars;simp[this,wK]
def qs0(p)(w:Fits p.vars)(y:p.hard.length<=10000)(B:p.soft.length<=10000)(u:∀e∈p.hard++p.soft,Wen e/\hgt e<=1000/\(pre e).length<=100000):
 Pure prog GG 44 [.agg (qw p)] (.int .i64 (zd (zz p.vars) (p.hard++p.soft))):=by
 refine qF6 func44 ?_;simp[qe,qp];obtain⟨L,o⟩:∃L,L=p.hard++p.soft:=⟨_,rfl⟩;have F:L.length<=20000:=by rw[o,qBp];omega
 refine qFR (qlL p.hard p.soft y B) (by simp) (by simp[Leq]) ?_;rw[<- o]at u⊢;simp;refine qF3 (fun n env σ=>∃i tail,i<=L.length/\n=L.length-i/\env 1=.ptr 0 0/\env 11=.sl 4 (L.map qo) .none/\env 12=.int .i64 L.length/\env 13=.int .i64 i/\σ=⟨.cells (qw p)::tail,[]⟩/\∀e∈L.take i,zz p.vars e=0) L.length ⟨0,[],by simp⟩ ?_;rintro n env σ ⟨i,tail,hi,rfl,h1,d,f,b,rfl,c⟩
 cases hv:L[i]? with
 | some e=>
  obtain⟨j,D⟩:=qBk.1 hv;have z:=qBl hv;obtain⟨m,E,t⟩:=u e z;have bad:zz p.vars e≠0->zd (zz p.vars) L=zz p.vars e:=fun h=>wi hv c h
  simp[d,f,b,j,D,qd e,qB8];rw[<- qd e];refine qFQ (Km e m (by omega)) ?_;by_cases h0:zr e=0
  . simp[h0,qd e];rw[<- qd e];refine qFQ (QE e m t) ?_;have g:=Q9 (e:=e);cases ha:Yy e
    . rw[ha]at g;have A:(zS [3,24] e).length=0:=(by have:=of_decide_eq_false g;omega);have v:=qBy A;simp[v,h1,qd e];rw[<- qd e];refine qFQ (Jc e m t) ?_
      try simp[h1,d,f,b]
      have C:Fits (zS [2] e):=by
       have:∀(l:List Ex) (s:List Str),(l.foldl (WS [2]) s).length<=s.length+l.length:=by
        intro l
        induction l with
        |nil=>intro s;simp
        |cons a r ih=>intro s;have:=ih (WS [2] s a);have:=vL (ops:=[2]) (s:=s) (e:=a);simp only[qB2,qBB];omega
       have:=this (pre e) [];simp only[Fits,zS,qCc]at this⊢;omega
      refine qb.lent (WI GG (zS [2] e) (fun s=>!wK p.vars s) 84 [] [.rptr (qw p)] C rfl (by simp) fun s _=>qil p s w) rfl ?_ ?_
      . simp[frz]
      rw[QX];cases hf:ZD p.vars e
      . have x:zz p.vars e=0:=(by simp only[zz,h0,ha,hf];rfl);simp[h1,d,f,b];exact⟨_,by omega,i+1,by omega,rfl,wr,zf hv c x⟩
      have x:zz p.vars e=7:=(by simp only[zz,h0,ha,hf];rfl);rw[bad (by rw[x];decide),x];simp
    rw[ha]at g;have x:zz p.vars e=9:=(by simp only[zz,h0,ha];rfl);rw[bad (by rw[x];decide),x];simp[of_decide_eq_true g]
  have x:zz p.vars e=zr e:=by simp only[zz];rw[if_pos h0]
  rw[bad (by rwa[x]),x];simp[h0]
 | none=>
  have j:¬i<L.length:=by simp at hv;omega
  rw[show L.take i=L from qBr (by omega)]at c;rw[zs.2 c];simp[d,f,b,j]
abbrev Rg:=Int×Int
@[simp]def wj(r:Rg):List AV:=[.int .i64 r.1,.int .i64 r.2]
def kV(out:List Rg)(n:Int):List Rg:=match out.getLast? with
 |some r=>if r.2=n-1 then out.dropLast++[(r.1,n)] else out++[(n,n)]
 |none=>out++[(n,n)]
def jr(l:List Int):List Rg:=l.foldl kV []
def z8(n:Int):Ex:=.mk 1 n [] []
def wO(s:Str):Ex:=.mk 2 0 s []
def kA(s:Str)(l:List Rg):Ex:=.mk 23 0 [] (wO s::l.flatMap fun r=>[z8 r.1,z8 r.2])
def orE(a b:Ex):Ex:=.mk 20 0 [] [a,b]
def zR{α:Type}(n:Nat):Nat->List α->List (List α)
 |0,_=>[]
 |k+1,l=>if l=[] then [] else l.take n::zR n k (l.drop n)
def yY(s:Str)(out:Ex)(l:List (List Rg)):Ex:=l.foldl (fun o c=>orE o (kA s c)) out
def zT(s:Str)(l:List Rg):Ex:=if l=[] then z8 0 else yY s (kA s (l.take 16)) (zR 16 l.length (l.drop 16))
def inW(n:Int)(w:Weight):Bool:=decide (w.lo<=n)&&decide (n<=w.hi)
def vX(l:List Weight)(n:Int):Bool:=match l.find? (inW n) with
 |some w=>decide (0<w.weight)
 |none=>false
def ZR(v:Var)(l:List Weight):List Int:=((List.range (zG v)).map fun n:Nat=>(n:Int)).filter (vX l)
def vO(vs:List Var)(d:Dist):Ex:=match vs[d.var.toNat]? with
 |some v=>zT v.name (jr (ZR v d.weights))
 |none=>z8 0
def yJ(p:Problem):List Ex:=p.dists.map (vO p.vars)
def qeB(p:Problem):List Ex:=p.hard++yJ p
noncomputable def jY(vs:List Var)(a:List Ex):List (Int×Ex)->List (Int×Ex)
 |[]=>[]
 |x::r=>if jw vs (a++[x.2]) then x::jY vs (a++[x.2]) r else jY vs a r
def ZB(l:List Ex):List (Int×Ex):=(l.zipIdx.map fun q=>((q.2:Int),q.1)).reverse
noncomputable def vS(p:Problem):List (Int×Ex):=(jY p.vars (qeB p) (ZB p.soft)).reverse
noncomputable def Yf(p:Problem):List Ex:=qeB p++(vS p).map (·.2)
def KZ{n}(h0:0<=n)(h1:n<=65535):qy (z8 n)=0:=by
 simp[qy,z8,qk,zE,Ex.op,Ex.n,Ex.name,Ex.args];omega
def qd3{s}(h:kW s=true):qy (wO s)=0:=by
 simp[qy,wO,qk,zE,Ex.op,Ex.n,Ex.name,Ex.args,h]
def QQ(n):pre (z8 n)=[z8 n]:=by simp[jv,z8]
def qaN(s):pre (wO s)=[wO s]:=by simp[jv,wO]
def qcx:∀(l:List Rg),vt (l.flatMap fun r=>[z8 r.1,z8 r.2])=l.flatMap fun r=>[z8 r.1,z8 r.2]
 |[]=>rfl
 |r::l=>by rw[qBJ,vo,qcx l];simp[QQ]
def qfW(s)(l:List Rg):pre (kA s l)=kA s l::wO s::l.flatMap fun r=>[z8 r.1,z8 r.2]:=by
 rw[jv];show kA s l::vt (wO s::_)=_;rw[ku,qaN,qcx];rfl
def qaU:∀(l:List Rg),(l.flatMap fun r=>[z8 r.1,z8 r.2]).length=2*l.length
 |[]=>rfl
 |r::l=>by rw[qBJ,qBp,qaU l];simp;omega
def qiZ(r:Rg):Prop:=(0<=r.1/\r.1<=65535)/\0<=r.2/\r.2<=65535
structure EOk(s h m e):Prop where
 nodes:∀x∈pre e,qy x=0/\x.op≠3/\x.op≠24/\(x.op=2->x.name=s)
 hgt:hgt e<=h
 size:(pre e).length<=m
def EOk.ins{s}(g:kW s=true){l:List Rg}(d:l≠[])(h:l.length<=16)(c:∀r∈l,qiZ r):EOk s 2 34 (kA s l):=by
 have b:=qaU l;have f:=qBA.2 d;refine⟨fun x a=>?_,?_,?_⟩
 . rw[qfW]at a;rcases qBN.1 a with rfl|a
   . refine⟨?_,by simp[kA,Ex.op],by simp[kA,Ex.op],by simp[kA,Ex.op]⟩;unfold qy qk;simp only[kA,qFy,qFz,qFA,qFB,qBB,b];have h1:(2*l.length+1)%2=1:=(by omega);have h2:3<=2*l.length+1:=(by omega);simp[*,show 2*l.length+1<=33 by omega]
   rcases qBN.1 a with rfl|a
   . exact⟨qd3 g,by simp[wO,Ex.op],by simp[wO,Ex.op],fun _=>rfl⟩
   obtain⟨r,e,a⟩:=qEX.1 a;have:=c r e;simp at a;rcases a with rfl|rfl
   . exact⟨KZ this.1.1 this.1.2,by simp[z8,Ex.op],by simp[z8,Ex.op],by simp[z8,Ex.op]⟩
   exact⟨KZ this.2.1 this.2.2,by simp[z8,Ex.op],by simp[z8,Ex.op],by simp[z8,Ex.op]⟩
 . rw[w8];have:Yn (kA s l).args<=1:=by
    show Yn (wO s::_)<=1;rw[Wm];have h1:Go.Proofs.YtdapogpjhljhaaaGreatDoor.hgt (wO s)=1:=(by simp[w8,wO]);have h2:Yn (l.flatMap fun r=>[z8 r.1,z8 r.2])<=1:=by
     clear b f d h c h1
     induction l with
     |nil=>simp
     | cons r l ih=>
      rw[qBJ];simp;have:∀n,Go.Proofs.YtdapogpjhljhaaaGreatDoor.hgt (z8 n)=1:=fun n=>by simp[w8,z8]
      rw[this,this];omega
    omega
   omega
 rw[qfW,qBB,qBB,b];omega
def EOk.or{s h h' m e a b}(d:EOk s h m a)(hb:EOk s h' e b):EOk s (max h h'+1) (m+e+1) (orE a b):=by
 have f:pre (orE a b)=orE a b::(pre a++pre b):=by rw[jv];simp[orE]
 refine⟨fun x c=>?_,?_,?_⟩
 . rw[f]at c;rcases qBN.1 c with rfl|c
   . refine⟨?_,by simp[orE,Ex.op],by simp[orE,Ex.op],by simp[orE,Ex.op]⟩;simp[qy,orE,qk,zE,Ex.op,Ex.n,Ex.name,Ex.args]
   rcases qBC.1 c with c|c
   . exact d.nodes x c
   exact hb.nodes x c
 . rw[w8];have:=d.hgt;have:=hb.hgt;simp only[orE,qFB,Wm,qoF];omega
 rw[f,qBB,qBp];have:=d.size;have:=hb.size;omega
def EOk.chain{s}(b:kW s=true):∀(l:List (List Rg)){h m:Nat}{out:Ex},EOk s (h+2) m out->(∀c∈l,c≠[]/\c.length<=16/\∀r∈c,qiZ r)->EOk s (h+2+l.length) (m+35*l.length) (yY s out l)
 |[],h,m,out,a,_=>a
 | c::l,h,m,out,a,d=>by
  have h1:=d c (by simp);have h2:=a.or (EOk.ins b h1.1 h1.2.1 h1.2.2);have i:=EOk.chain b l (h:=h+1) (m:=m+34+1) (out:=orE out (kA s c)) (by
   have e:max (h+2) 2+1=h+1+2:=(by omega);rw[e]at h2;exact h2) (fun c j=>d c (by simp[j]))
  have f:h+2+(c::l).length=h+1+2+l.length:=by simp;omega
  have g:m+35*(c::l).length=m+34+1+35*l.length:=by simp;omega
  rw[f,g];exact i
def Z6{α:Type}{n}(b:0<n):∀(k) (l:List α),∀c∈zR n k l,c≠[]/\c.length<=n/\∀x∈c,x∈l
 |0,_,c,h=>by cases h
 | k+1,l,c,h=>by
  unfold zR at h;split at h
  . cases h
  rename_i e;rcases qBN.1 h with rfl|h
  . have:=qBA.2 e;refine⟨qBA.1 (by rw[qBY];omega),by rw[qBY];omega,fun x a=>qB6 a⟩
  obtain⟨h1,h2,d⟩:=Z6 b k _ c h;exact⟨h1,h2,fun x a=>qCD (d x a)⟩
def Z7{α:Type}{n}(a:0<n):∀(k) (l:List α) (m),l.length<=m*n->(zR n k l).length<=m
 |0,_,m,_=>by simp[zR]
 | k+1,l,m,h=>by
  unfold zR;split
  . simp
  rename_i b;have:=qBA.2 b
  cases m with
  |zero=>omega
  | succ m=>
   have:=Z7 a k (l.drop n) m (by rw[qCj];rw[qEb]at h;omega);simp;omega
def EOk.valid{s e h m}(a:EOk s h m e)(g:h<=24)(i:m<=400){vs}(f:wK vs s=true):zz vs e=0:=by
 have h2:zr e=0:=by
  unfold zr;have d:=a.hgt;have c:=a.size;rw[if_neg,show zd qy (pre e)=0 from zs.2 fun x b=>(a.nodes x b).1];rintro⟨_,h|h⟩
  . omega
  rw[show vQ e=(pre e).length by unfold vQ;rw[wr]]at h;omega
 have d:Yy e=false:=by
  unfold Yy;rw[qCM];intro x b;have:=a.nodes x b;simp[this.2.1,this.2.2.1]
 have c:ZD vs e=false:=by
  unfold ZD;rw[qCM];intro x b;have:=(a.nodes x b).2.2.2;by_cases h:x.op=2
  . simp[*,this h]
  simp[h]
 unfold zz;simp[*]
def VO{n}(h0:0<=n)(h1:n<=65535)(vs):zz vs (z8 n)=0:=by
 have a:=QQ n;have h2:zr (z8 n)=0:=by
  unfold zr vQ;rw[a];have:hgt (z8 n)=1:=by simp[w8,z8]
  rw[this];simp[zd,KZ h0 h1];decide
 unfold zz;simp[h2,show Yy (z8 n)=false by unfold Yy;rw[a];simp[z8,Ex.op],show ZD vs (z8 n)=false by unfold ZD;rw[a];simp[z8,Ex.op]]
def Yb{s}(e:kW s=true){l:List Rg}(o:l.length<=128)(d:∀r∈l,qiZ r){vs}(g:wK vs s=true):zz vs (zT s l)=0:=by
 unfold zT;split
 . exact VO (by omega) (by omega) vs
 rename_i h0;have m:=qBA.2 h0;have h1:=EOk.ins e (l:=l.take 16) (qBA.1 (by rw[qBY];omega)) (by rw[qBY];omega) (fun r h=>d r (qB6 h));have h2:=EOk.chain e (zR 16 l.length (l.drop 16)) (h:=0) h1 (fun c i=>by
  obtain⟨a,b,f⟩:=Z6 (by omega) _ _ c i;exact⟨a,b,fun r h=>d r (qCD (f r h))⟩)
 have j:=Z7 (n:=16) (by omega) l.length (l.drop 16) 7 (by rw[qCj];omega);exact h2.valid (by omega) (by omega) g
def qpA{out:List Rg}{n}(c:0<=n/\n<=65535)(h1:∀r∈out,qiZ r)(h2:∀r,out.getLast?=some r->r.2<n/\2*(out.length:Int)<=r.2+2):
 (∀r∈kV out n,qiZ r)/\∃r,(kV out n).getLast?=some r/\r.2=n/\2*((kV out n).length:Int)<=n+2:=by
 have new:(∀r,out.getLast?=some r->¬r.2=n-1)->(∀r∈out++[(n,n)],qiZ r)/\∃r,(out++[(n,n)]).getLast?=some r/\r.2=n/\2*((out++[(n,n)]).length:Int)<=n+2:=by
  intro f;refine⟨fun r a=>?_,(n,n),by simp,rfl,?_⟩
  . rcases qBC.1 a with a|a
    . exact h1 r a
    . simp at a;subst a;exact⟨c,c⟩
  rw[qBp]
  cases h:out.getLast? with
  | none=>
   rw[qDI]at h;subst h;simp;omega
  | some r=>
   have:=h2 r h;have:=f r h;simp;omega
 unfold kV
 cases h:out.getLast? with
 |none=>exact new fun r a=>by rw[h]at a;cases a
 | some r=>
  simp only;have e:=h2 r h;split
  . rename_i d;obtain⟨l,rfl⟩:=qDJ.1 h;rw[qC4];refine⟨fun x b=>?_,(r.1,n),by simp,rfl,?_⟩
    . rcases qBC.1 b with b|b
      . exact h1 x (by simp[b])
      . simp at b;subst b;exact⟨(h1 r (by simp)).1,c⟩
    simp at e⊢;omega
  rename_i d;exact new fun x b=>by rw[h]at b;cases b;exact d
def qdh:∀{l:List Int}{out:List Rg}{N:Int},l.Pairwise (· < ·)->(∀x∈l,0<=x/\x<=65535/\x<N)->(∀r∈out,qiZ r)->(∀r,out.getLast?=some r->r.2<N/\2*(out.length:Int)<=r.2+2/\∀x∈l,r.2<x) ->
 (∀r∈l.foldl kV out,qiZ r)/\∀r,(l.foldl kV out).getLast?=some r->r.2<N/\2*((l.foldl kV out).length:Int)<=r.2+2
 |[],out,N,_,_,h1,h2=>⟨h1,fun r a=>⟨(h2 r a).1,(h2 r a).2.1⟩⟩
 | x::l,out,N,i,c,h1,h2=>by
  rw[qB2];obtain⟨f,m⟩:=qDT.1 i;have d:=c x (by simp);obtain⟨j,r,g,h,o⟩:=qpA (n:=x) ⟨d.1,d.2.1⟩ h1 (fun r a=>⟨(h2 r a).2.2 x (by simp),(h2 r a).2.1⟩);refine qdh m (fun y b=>c y (by simp[b])) j fun r' e=>?_
  rw[g]at e;cases e;exact⟨by omega,by omega,fun y b=>by rw[h];exact f y b⟩
def qaE{l N}(a:l.Pairwise (· < ·))(b:∀x∈l,0<=x/\x<=65535/\x<N)(c:0<=N):(∀r∈jr l,qiZ r)/\2*((jr l).length:Int)<=N+1:=by
 have:=qdh (out:=[]) a b (fun r h=>by cases h) (fun r h=>by cases h);refine⟨this.1,?_⟩
 cases h:(jr l).getLast? with
 |none=>rw[qDI]at h;rw[h];simp;omega
 |some r=>have:=this.2 r h;show 2*((l.foldl kV []).length:Int)<=_;omega
def qas(v l):(ZR v l).Pairwise (· < ·)/\∀x∈ZR v l,0<=x/\x<(zG v:Nat):=by
 unfold ZR;refine⟨List.Pairwise.filter _ ?_,fun x a=>?_⟩
 . rw[qDG];exact qE9.imp fun h=>by omega
 obtain⟨a,_⟩:=qCk.1 a;obtain⟨n,b,rfl⟩:=qBH.1 a;have:=qCe.1 b;omega
def YQ{v}(h:v.width<=8):zG v<=256:=by
 unfold zG;have:v.width.toNat<=8:=by omega
 calc 2^v.width.toNat<=2^8:=qBF (by omega) this
  _=256:=rfl
def qhC{vs}(e:∀v∈vs,jS v=0)(d):zz vs (vO vs d)=0:=by
 unfold vO;split
 . rename_i v h;have a:=qBl h;have h1:=zb (e v a);have h2:=qas v d.weights;have f:=YQ h1.2.2;have b:=qaE (N:=(zG v:Nat)) h2.1 (fun x c=>by have:=h2.2 x c;omega) (by omega);exact Yb h1.1 (by omega) b.1 (by unfold wK;rw[qBM];exact⟨v,a,by simp⟩)
 exact VO (by omega) (by omega) vs
def qgI:∀(l:List Ex) (i) (a),l[i]?=some a->((l.flatMap qo).drop (i*4)).take 4=qo a/\i*4+4<=(l.flatMap qo).length
 |[],i,a,h=>by simp at h
 | x::r,0,a,h=>by
  simp at h;subst h;rw[qBJ,qDa,qCG,qCv (by rw[zg];omega),qBr (by rw[zg];omega),qBp,zg];exact⟨rfl,by omega⟩
 | x::r,i+1,a,h=>by
  have ih:=qgI r i a (by simpa using h);rw[qBJ,qDd,zg,qBZ (by rw[zg];omega),qBL,show(i+1)*4-4=i*4 by omega,qBp,zg];exact⟨ih.1,by omega⟩
def qlh:∀(l:List Ex) (i) (a),l[i]?=some a->zC (l.flatMap qo) (i*4) (qo a)=l.flatMap qo:=fun l i a h=>by
 have hi:=(qBk.1 h).1;rw[QP (sz:=4) zg l i a hi];have:l.set i a=l:=by
  obtain⟨_,rfl⟩:=qBk.1 h;exact List.set_getElem_self hi
 rw[this]
def qfX{e a}(h:a∈e.args):(pre a).length<=(pre e).length:=by
 rw[jv e,qBB];have:∀l:List Ex,a∈l->(pre a).length<=(vt l).length:=by
  intro l
  induction l with
  |nil=>intro h;cases h
  | cons x r ih=>
   intro h;rw[ku,qBp];rcases qBN.1 h with rfl|h
   . omega
   have:=ih h;omega
 have:=this _ h;omega
def qg1(e):e.args.length<=(pre e).length:=by
 rw[jv e,qBB];have:∀l:List Ex,l.length<=(vt l).length:=by
  intro l
  induction l with
  |nil=>simp
  |cons x r ih=>rw[ku,qBp,jv x];simp;omega
 have:=this e.args;omega
def qlK:∀e,(pre e).length<=100000->Pure prog GG 52 [.agg (qo e)] (.agg (qo e)):=by
 refine qF4 fun e ih U=>?_
 have Q:=qg1 e;refine qFC o0 true func52 ?_;have l:=qd e;by_cases h0:e.args=[]
 . rw[h0]at l;rw[l];simp[qz,kh,VY];refine qFL (fun n ev σ=>ev 1=.ptr 0 0/\ev 2=.ptr 1 0/\ev 3=.sl 4 [] (.chain 0 0)/\ev 14=.int .i64 0/\ev 15=.int .i64 0/\∃T,σ=⟨[.cells [.int .i64 e.op,.int .i64 e.n,.str e.name,.sl 4 [] .none],.cells [.int .i64 0,.int .i64 0,.str [],.sl 0 [] .nil]],T⟩) 0 ?_ ?_
   . exact⟨by simp,by simp,by simp,by simp,by simp,_,rfl⟩
   rintro n ev σ R w ⟨g,h,b,f,c,T,rfl⟩;simp[g,h,b,f,c];have E:∀H,frz H 7 (.sl 4 [] (.chain 0 0))=.sl 4 [] .none:=fun H=>by rw[frz];simp[qE]
   rw[frz];simp[qE,qr,wL,qa9,E,zl]
 have P:=qBA.2 h0;have S:¬(e.args.length:Int)=0:=by omega
 have hb:e.args.length<=549755813888:=by omega
 have o:((List.replicate e.args.length [AV.int .i64 0,.int .i64 0,.str [],.sl 0 [] .nil]).flatten).length=e.args.length*4:=by simp
 have y:=putAt_all ((List.replicate e.args.length [AV.int .i64 0,.int .i64 0,.str [],.sl 0 [] .nil]).flatten) (e.args.flatMap qo) (by rw[o,zZ (sz:=4) zg e.args]);have I:∀j m:Blk,kh (Dof prog) ⟨[j,m,.cells (List.replicate e.args.length [AV.int .i64 0,.int .i64 0,.str [],.sl 0 [] .nil]).flatten],[]⟩ 23 (.ms 2 0 e.args.length 4) (.sl 4 (e.args.map qo) .none)=some (.int .i64 e.args.length,⟨[j,m,.cells (e.args.flatMap qo)],[]⟩):=fun j m=>by
  have F:=o;generalize (List.replicate e.args.length [AV.int .i64 0,.int .i64 0,.str [],.sl 0 [] .nil]).flatten=Z at *;simp[kh,VY,qnF,show(e.args.map qo).flatten=e.args.flatMap qo by rw[qCQ],y,F,show(e.args.map qo).take e.args.length=e.args.map qo from qBr (by simp),h0]
 have K:=qgI e.args;have G:=qlh e.args;rw[l];generalize J:(List.replicate e.args.length [AV.int .i64 0,.int .i64 0,.str [],.sl 0 [] .nil]).flatten=Z at *;generalize O:e.args.flatMap qo=s at *;simp[qz,h0,show(e.args.length:Int)<=549755813888 by omega,J,I];refine qFW e.args (fun d ev σ=>ev 1=.ptr 0 0/\ev 2=.ptr 1 0/\ev 3=.ms 2 0 e.args.length 4/\ev 14=.int .i64 e.args.length/\ev 15=.int .i64 d.length/\σ=⟨[.cells [.int .i64 e.op,.int .i64 e.n,.str e.name,.sl 4 (e.args.map qo) .none],.cells [.int .i64 0,.int .i64 0,.str [],.sl 0 [] .nil],.cells s],[]⟩) ?_ ?_ ?_
 . exact⟨by simp,by simp⟩
 . rintro d a rest ev σ R w hd i r ⟨g,h,b,f,c,rfl⟩;have u:=qBl i;have B:=ih a u (by have:=qfX u;omega);have C:=wr (n:=(d.length:Int)+1);obtain⟨N,t⟩:=K d.length a i;have L:=G d.length a i;have M:=jq a;have D:=zg a;have z:=nrE a;generalize qo a=W at *;simp[-qL,b,f,c,r,N,t];refine qFG B ?_ (by simp[qr,z]);simp[-qL,M,D,L,t,c,r,C];exact w _ _ ⟨by simp[g],by simp[h],by simp[b],by simp[f],by simp⟩
 rintro ev σ ⟨g,h,b,f,c,rfl⟩;simp[g,h,b,f,c];have v:ja 2 4 qo [Blk.cells [AV.int .i64 e.op,.int .i64 e.n,.str e.name,.ms 2 0 e.args.length 4],.cells [.int .i64 e.op,.int .i64 e.n,.str e.name,.ms 2 0 e.args.length 4],.cells s] (.ms 2 0 e.args.length 4) e.args:=.inr ⟨h0,rfl,by rw[O];rfl⟩;have f1:=v.frz zg (fun x=>nrE x) z0 6;have A:=v.frzNo zg (fun x=>nrE x) z0 6;rw[frz,if_neg (by simp[qE,qr])];simp only[qBz,qBS,wL,qa9,qE,qr,Leq,zl,qCR,qCC,and_true,true_and];exact⟨A,f1⟩
def inR(v:Int)(r:Rg):Bool:=decide (r.1<=v)&&decide (v<=r.2)
def ql4(b):(b2i b≠0)↔b=true:=by cases b<;>simp[b2i]
def qan(env n):yi env (z8 n)=n:=by rw[yM];simp[z8,wH]
def qfu(env s):yi env (wO s)=(ji env s).getD 0:=by rw[yM];simp[wO,wH]
def qpN(env a b):(yi env (orE a b)≠0)↔(yi env a≠0\/yi env b≠0):=by
 rw[yM];have:wH env (orE a b).op (orE a b).n (orE a b).name ((orE a b).args.map (yi env))=b2i (!decide (yi env a=0)||!decide (yi env b=0)):=by
  simp[orE,wH,opW,jW]
 rw[this,ql4];simp
def Wk(v):∀(l:List Rg),jj v (l.flatMap fun r=>[r.1,r.2])=l.any (inR v)
 |[]=>rfl
 |r::l=>by rw[qBJ];simp only[qBV,qBL,jj,qDf,Wk v l,inR]
def qfv(env):∀(l:List Rg),(l.flatMap fun r=>[z8 r.1,z8 r.2]).map (yi env)=l.flatMap fun r=>[r.1,r.2]
 |[]=>rfl
 |r::l=>by rw[qBJ,qCl,qfv env l,qBJ];simp[qan]
def qjo(env s)(l:List Rg):(yi env (kA s l)≠0)↔∃r∈l,inR ((ji env s).getD 0) r=true:=by
 rw[yM];have:wH env (kA s l).op (kA s l).n (kA s l).name ((kA s l).args.map (yi env))=b2i (l.any (inR ((ji env s).getD 0))):=by
  rw[<- Wk,<- qfv env l];simp[kA,wH,opW,qfu]
 rw[this,ql4,qBM]
def qb2(env s):∀(l:List (List Rg)) (out),(yi env (yY s out l)≠0)↔(yi env out≠0\/∃c∈l,∃r∈c,inR ((ji env s).getD 0) r=true)
 |[],out=>by simp[yY]
 | c::l,out=>by
  show(yi env (yY s (orE out (kA s c)) l)≠0)↔_;rw[qb2 env s l,qpN,qjo];simp only[qBN,exists_eq_or_imp,or_assoc]
def VK{α:Type}{n}(a:0<n):∀(k) (l:List α),l.length<=k->(zR n k l).flatten=l
 | 0,l,h=>by
  have:l=[]:=qBy (by omega);subst this;rfl
 | k+1,l,h=>by
  unfold zR;split
  . rename_i h0;rw[h0];rfl
  rename_i h0;have:=qBA.2 h0;rw[qB7,VK a k _ (by rw[qCj];omega),qB9]
def qjn(env s)(l:List Rg):(yi env (zT s l)≠0)↔∃r∈l,inR ((ji env s).getD 0) r=true:=by
 unfold zT;split
 . rename_i h;subst h;simp[qan]
 rw[qb2,qjo];have h1:=VK (n:=16) (by omega) l.length (l.drop 16) (by rw[qCj];omega);constructor
 . rintro(⟨r,a,h⟩|⟨c,b,r,a,h⟩)
   . exact⟨r,qB6 a,h⟩
   . refine⟨r,qCD (i:=16) ?_,h⟩;rw[<- h1];exact qB3.2 ⟨c,b,a⟩
 rintro⟨r,a,h⟩;rw[<- qB9 16 l]at a;rcases qBC.1 a with a|a
 . exact .inl ⟨r,a,h⟩
 rw[<- h1]at a;obtain⟨c,b,a⟩:=qB3.1 a;exact .inr ⟨c,b,r,a,h⟩
def YT(v):∀(l),(∃r∈jr l,inR v r=true)↔v∈l:=by
 have key:∀(l:List Int) (out:List Rg),(∀r∈out,r.1<=r.2)->((∃r∈l.foldl kV out,inR v r=true)↔((∃r∈out,inR v r=true)\/v∈l)):=by
  intro l
  induction l with
  |nil=>intro out _;simp
  | cons n l ih=>
   intro out b;rw[qB2];have c:(∀r∈kV out n,r.1<=r.2)/\((∃r∈kV out n,inR v r=true)↔((∃r∈out,inR v r=true)\/v=n)):=by
    unfold kV;split
    . rename_i r d;obtain⟨pre,e⟩:=qDJ.1 d;subst e;have i:=b r (by simp);split
      . rename_i g;rw[qC4];refine⟨fun q a=>?_,?_⟩
        . rcases qBC.1 a with a|a
          . exact b q (by simp[a])
          . have:=qB0.1 a;subst this;dsimp only;omega
        simp only[qBC,qB0,inR,qBq,decide_eq_true_eq];constructor
        . rintro⟨q,a|rfl,h⟩
          . exact .inl ⟨q,.inl a,h⟩
          . dsimp only at h;by_cases f:v=n
            . exact .inr f
            exact .inl ⟨r,.inr rfl,by omega⟩
        rintro(⟨q,a|rfl,h⟩|rfl)
        . exact⟨q,.inl a,h⟩
        . exact⟨_,.inr rfl,by dsimp only;omega⟩
        exact⟨_,.inr rfl,by dsimp only;omega⟩
      refine⟨fun q a=>?_,?_⟩
      . rcases qBC.1 a with a|a
        . exact b q a
        . have:=qB0.1 a;subst this;exact qE8 _
      simp only[qBC,qB0,inR,qBq,decide_eq_true_eq];constructor
      . rintro⟨q,a|rfl,h⟩
        . exact .inl ⟨q,a,h⟩
        . exact .inr (by dsimp only at h;omega)
      rintro(⟨q,a,h⟩|rfl)
      . exact⟨q,.inl a,h⟩
      exact⟨_,.inr rfl,by dsimp only;omega⟩
    refine⟨fun q a=>?_,?_⟩
    . rcases qBC.1 a with a|a
      . exact b q a
      . have:=qB0.1 a;subst this;exact qE8 _
    simp only[qBC,qB0,inR,qBq,decide_eq_true_eq];constructor
    . rintro⟨q,a|rfl,h⟩
      . exact .inl ⟨q,a,h⟩
      . exact .inr (by dsimp only at h;omega)
    rintro(⟨q,a,h⟩|rfl)
    . exact⟨q,.inl a,h⟩
    exact⟨_,.inr rfl,by dsimp only;omega⟩
   rw[ih _ c.1,c.2];simp only[qBN,or_assoc]
 intro l;have:=key l [] (by simp);simpa[jr] using this
def JB(env s l):(yi env (zT s (jr l))≠0)↔(ji env s).getD 0∈l:=by
 rw[qjn,YT]
def qiF(l:List Int)(i:Nat)(n:Int):List Int :=
 (if i=0\/l.getD (i-1) 0≠n-1 then [n] else [])++(if i+1=l.length\/l.getD (i+1) 0≠n+1 then [n] else [])
def qAt(l:List Int):List Int:=(l.zipIdx).flatMap fun q=>qiF l q.2 q.1
def zk(l:List Rg):List Int:=l.flatMap fun r=>[r.1,r.2]
def qsr(s:Str)(l:List Rg):Nat->Ex
 |0=>z8 0
 |i+1=>if i=0 then kA s ((l.drop (16*i)).take 16) else orE (qsr s l i) (kA s ((l.drop (16*i)).take 16))
def KX{α:Type}{n}(a:0<n):∀(k) (l:List α),l.length<=k->zR n k l=(List.range ((l.length+(n-1))/n)).map fun i=>(l.drop (n*i)).take n
 | 0,l,h=>by
  have:l=[]:=qBy (by omega);subst this;have:(([]:List α).length+(n-1))/n=0:=qEq (by simp;omega);rw[this];rfl
 | k+1,l,h=>by
  unfold zR;split
  . rename_i h0;subst h0;have:(([]:List α).length+(n-1))/n=0:=qEq (by simp;omega);rw[this];rfl
  rename_i h0;have d:=qBA.2 h0;have ih:=KX a k (l.drop n) (by rw[qCj];omega);have c:(l.length+(n-1))/n=((l.drop n).length+(n-1))/n+1:=by
   rw[qCj];by_cases e:n<=l.length
   . have:l.length+(n-1)=(l.length-n+(n-1))+n:=by omega
     rw[this,Nat.add_div_right _ a]
   have h1:l.length-n=0:=(by omega);rw[h1];have h2:(0+(n-1))/n=0:=qEq (by omega);rw[h2];have b:l.length+(n-1)=(l.length-1)+n:=(by omega);rw[b,Nat.add_div_right _ a,qEq (by omega)]
  rw[ih,c,List.range_succ_eq_map,qBz,qCN];congr 1;apply qCy;intro i hi;simp only[Function.comp,qDZ];congr 2;rw[Nat.succ_eq_add_one,qEB];omega
def qko(s)(l:List Rg)(h0:l≠[]):qsr s l ((l.length+15)/16)=zT s l:=by
 have a:=qBA.2 h0;unfold zT;rw[if_neg h0,KX (by omega) _ _ (by rw[qCj];omega)];rw[show(l.length+15)/16=((l.drop 16).length+(16-1))/16+1 by rw[qCj];omega];generalize ((l.drop 16).length+(16-1))/16=m
 induction m with
 |zero=>simp[qsr,yY]
 | succ m ih=>
  rw[qsr,if_neg (by omega),ih,qCL,qCl];unfold yY;rw[qCb,List.map_singleton,qB2,qFl];congr 2;rw[qDZ];have:16*(m+1)=16+16*m:=by omega
  rw[this]
def qpj(l):qAt l=zk (jr l):=by
 -- up to a number: the runs so far,but for the last one's end
 have key:∀(d r:List Int) (hd:l=d++r),(d.zipIdx).flatMap (fun q=>qiF l q.2 q.1)=(if r=[]\/d=[]\/r.getD 0 0≠d.getLast?.getD 0+1 then zk (jr d) else(zk (jr d)).dropLast)/\(d≠[]->∃pre lo,jr d=pre++[(lo,d.getLast?.getD 0)]):=by
  intro d
  induction hn:d.length generalizing d with
  | zero=>
   intro r hd;have:=qBy hn;subst this;exact⟨by simp[jr,zk],fun h=>absurd rfl h⟩
  | succ k ih=>
   intro r hd;obtain⟨d',n,rfl⟩:∃d' n,d=d'++[n]:=⟨d.dropLast,d.getLast (by rintro rfl;simp at hn),(qCa _).symm⟩;obtain⟨h1,h2⟩:=ih d' (by simpa using hn) (n::r) (by rw[hd];simp);have j:(d'.length+1=l.length)↔r=[]:=by
    rw[hd];simp
   have hb:qiF l d'.length n=(if d'=[]\/n≠d'.getLast?.getD 0+1 then [n] else [])++(if r=[]\/r.getD 0 0≠n+1 then [n] else []):=by
    unfold qiF;rw[show l.getD (d'.length+1) 0=r.getD 0 0 by rw[hd];simp[qBw,qBt]];congr 1
    . by_cases h0:d'=[]
      . subst h0;simp
      . have c:=qBA.2 h0;have:l.getD (d'.length-1) 0=d'.getLast?.getD 0:=by
         rw[hd,List.getLast?_eq_getElem?,qBw,qBX,qBv (by omega)]
        rw[this];simp only[h0,show d'.length≠0 by omega,false_or];by_cases b:n=d'.getLast?.getD 0+1
        . rw[if_neg (by omega),if_neg (by simp[b])]
        rw[if_pos (by omega),if_pos b]
    by_cases h0:r=[]
    . rw[if_pos (.inl (j.2 h0)),if_pos (.inl h0)]
    have:¬(d'.length+1=l.length):=fun e=>h0 (j.1 e)
    simp only[h0,this,false_or]
   rw[qDB,List.flatMap_append,h1];rw[show([n].zipIdx (0+d'.length)).flatMap (fun q=>qiF l q.2 q.1)=qiF l d'.length n by simp,hb,show jr (d'++[n])=kV (jr d') n by simp[jr,qCb],show(d'++[n]).getLast?.getD 0=n by simp];have s:¬(d'++[n]=[]):=(by simp);have o:(n::r).getD 0 0=n:=rfl;simp only[show ¬(n::r=[]) by simp,o,false_or,s];by_cases h0:d'=[]
   . subst h0;simp only[jr,qFl,kV,List.getLast?_nil,qBL,true_or,if_true,zk,qD1,qBJ,qB4];refine⟨?_,fun _=>⟨[],n,rfl⟩⟩;by_cases h:r=[]\/r.getD 0 0≠n+1
     . rw[if_pos h,if_pos h];rfl
     rw[if_neg h,if_neg h];rfl
   obtain⟨pre,lo,c⟩:=h2 h0;generalize d'.getLast?.getD 0=z at *;have g:(jr d').getLast?=some (lo,z):=(by rw[c];simp);by_cases b:n=z+1
   . have f:kV (jr d') n=pre++[(lo,n)]:=by
      unfold kV;rw[g];dsimp only;rw[if_pos (by omega),c,qC4]
     rw[f,c];refine⟨?_,fun _=>⟨pre,lo,rfl⟩⟩;have i:¬(d'=[]\/n≠z+1):=(by simp[*]);rw[if_neg i,if_neg i];have m:zk (pre++[(lo,n)])=(zk pre++[lo])++[n]:=(by simp[zk]);rw[show zk (pre++[(lo,z)])=(zk pre++[lo])++[z] by simp[zk],m,qC4];by_cases h:r=[]\/r.getD 0 0≠n+1
     . rw[if_pos h,if_pos h];simp
     rw[if_neg h,if_neg h,qC4];simp
   have f:kV (jr d') n=jr d'++[(n,n)]:=by
    unfold kV;rw[g];dsimp only;rw[if_neg (by omega)]
   rw[f];refine⟨?_,fun _=>⟨jr d',n,rfl⟩⟩;rw[if_pos (.inr b),if_pos (.inr b)];rw[show zk (jr d'++[(n,n)])=(zk (jr d')++[n])++[n] by simp[zk]];by_cases h:r=[]\/r.getD 0 0≠n+1
   . rw[if_pos h,if_pos h];simp
   rw[if_neg h,if_neg h,qC4];simp
 have:=(key l [] (by simp)).1
 rwa[if_pos (.inl rfl)]at this
def yr(l:List Rg):(zk l).length=2*l.length:=by
 unfold zk
 induction l with
 |nil=>rfl
 |cons r l ih=>rw[qBJ,qBp,ih];simp;omega
def V4(l:List Rg)(i):((zk l).drop (32*i)).take 32=zk ((l.drop (16*i)).take 16):=by
 have hd:∀(l:List Rg) (k:Nat),(zk l).drop (2*k)=zk (l.drop k):=by
  intro l k
  induction k generalizing l with
  |zero=>simp
  | succ k ih=>
   cases l with
   |nil=>simp[zk]
   | cons r l=>
    have:zk (r::l)=r.1::r.2::zk l:=by simp[zk]
    rw[this,qD8,<- ih];show List.drop (2*k+1+1) _=_;rw[qD8,qD8]
 have a:∀(l:List Rg) (k:Nat),(zk l).take (2*k)=zk (l.take k):=by
  intro l k
  induction k generalizing l with
  |zero=>simp[zk]
  | succ k ih=>
   cases l with
   |nil=>simp[zk]
   | cons r l=>
    have:zk (r::l)=r.1::r.2::zk l:=by simp[zk]
    rw[this,show zk ((r::l).take (k+1))=r.1::r.2::zk (l.take k) by simp[zk],<- ih];show List.take (2*k+1+1) _=_;rw[qC6,qC6]
 rw[show 32*i=2*(16*i) by omega,hd];exact a _ 16
def qiI(f:Nat->Bool)(N n:Nat):List Int :=
 if f n=true then(if n=0\/f (n-1)=false then [(n:Int)] else [])++(if n+1=N\/f (n+1)=false then [(n:Int)] else []) else []
def qdz(f:Nat->Bool)(N k:Nat):List Int:=(List.range k).flatMap (qiI f N)
def kH(f:Nat->Bool)(k:Nat):List Rg:=jr (((List.range k).filter f).map fun n:Nat=>(n:Int))
def Vv(f k):kH f (k+1)=if f k=true then kV (kH f k) (k:Int) else kH f k:=by
 unfold kH jr;rw[qCL,qEg,qCl,qCb];cases h:f k<;>simp[h]
def WM(f N k):qdz f N (k+1)=qdz f N k++qiI f N k:=by
 unfold qdz;rw[qCL,List.flatMap_append];simp
def Vw(f):∀k,(∀r∈kH f k,r.2<(k:Int))/\((0<k/\f (k-1)=true)->∃R a,kH f k=R++[(a,(k:Int)-1)])/\(¬(0<k/\f (k-1)=true)->∀r,(kH f k).getLast?=some r->r.2≠(k:Int)-1)
 |0=>by refine⟨?_,fun h=>absurd h.1 (by omega),?_⟩<;>simp[kH,jr]
 | k+1=>by
  obtain⟨h1,h2,i⟩:=Vw f k;rw[Vv]
  cases hk:f k with
  | false=>
   rw[if_neg (by simp)];refine⟨fun r b=>by have:=h1 r b;omega,fun h=>absurd h.2 (by simp[hk]),fun _ r b=>?_⟩;have:=h1 r (List.mem_of_getLast? b);omega
  | true=>
   rw[if_pos rfl];have d:((k+1:Nat):Int)-1=k:=(by omega);rw[d];have g:∃R a,kV (kH f k) (k:Int)=R++[(a,(k:Int))]/\∀r∈R,r.2<((k+1:Nat):Int):=by
    unfold kV
    cases hg:(kH f k).getLast? with
    |none=>exact⟨_,_,rfl,fun r b=>by have:=h1 r b;omega⟩
    | some q=>
     dsimp only;split
     . exact⟨_,_,rfl,fun r b=>by have:=h1 r (List.dropLast_subset _ b);omega⟩
     exact⟨_,_,rfl,fun r b=>by have:=h1 r b;omega⟩
   obtain⟨R,a,e,c⟩:=g;rw[e];refine⟨fun r b=>?_,fun _=>⟨R,a,rfl⟩,fun h=>absurd ⟨by omega,by simpa using hk⟩ h⟩;rcases qBC.1 b with h|h
   . exact c r h
   rw[qB0.1 h];show(k:Int)<_;omega
def qgV(f N):∀k,k<=N->(if 0<k/\f (k-1)=true/\k<N/\f k=true then ∃R a,kH f k=R++[(a,(k:Int)-1)]/\qdz f N k=zk R++[a] else qdz f N k=zk (kH f k))
 |0,_=>by rw[if_neg (by omega)];rfl
 | k+1,u=>by
  have ih:=qgV f N k (by omega);obtain⟨h1,h2,o⟩:=Vw f k;rw[WM,Vv];have l:((k+1:Nat):Int)-1=k:=by omega
  have m:k+1-1=k:=by omega
  rw[l,m]
  cases hfk:f k with
  | false=>
   rw[if_neg (by simp[hfk]) ]at ih;rw[if_neg (by simp),if_neg (by simp)];rw[ih];simp[qiI,hfk]
  | true=>
   rw[if_pos rfl];have t:k<N:=(by omega);by_cases c:0<k/\f (k-1)=true
   . rw[if_pos ⟨c.1,c.2,t,hfk⟩]at ih;obtain⟨R,a,r,hb⟩:=ih;have j:kV (kH f k) (k:Int)=R++[(a,(k:Int))]:=by
      unfold kV;rw[r];simp
     rw[j,hb];have e:qiI f N k=if k+1=N\/f (k+1)=false then [(k:Int)] else []:=by
      have g:¬(k=0\/f (k-1)=false):=by
       intro h;rcases h with h|h
       . omega
       rw[c.2]at h;cases h
      unfold qiI;rw[if_pos hfk,if_neg g];simp
     rw[e];by_cases b:k+1=N\/f (k+1)=false
     . have i:¬(0<k+1/\true=true/\k+1<N/\f (k+1)=true):=by
        rintro⟨_,_,s,d⟩;rcases b with h|h
        . omega
        rw[d]at h;cases h
       rw[if_pos b,if_neg i];simp[zk]
     rw[if_neg b,if_pos ⟨by omega,rfl,by omega,by cases h:f (k+1) with|true=>rfl|false=>exact absurd (.inr h) b⟩];exact⟨R,a,rfl,by simp⟩
   have g:qdz f N k=zk (kH f k):=by
    rw[if_neg (fun h=>c ⟨h.1,h.2.1⟩)]at ih;exact ih
   have j:kV (kH f k) (k:Int)=kH f k++[((k:Int),(k:Int))]:=by
    unfold kV
    cases hg:(kH f k).getLast? with
    |none=>rfl
    |some q=>dsimp only;rw[if_neg (o c q hg)]
   rw[j,g];have e:qiI f N k=[(k:Int)]++if k+1=N\/f (k+1)=false then [(k:Int)] else []:=by
    unfold qiI;rw[if_pos hfk,if_pos];by_cases h0:k=0
    . exact .inl h0
    right
    cases h:f (k-1) with
    |false=>rfl
    |true=>exact absurd ⟨by omega,h⟩ c
   rw[e];by_cases b:k+1=N\/f (k+1)=false
   . have i:¬(0<k+1/\true=true/\k+1<N/\f (k+1)=true):=by
      rintro⟨_,_,s,d⟩;rcases b with h|h
      . omega
      rw[d]at h;cases h
     rw[if_pos b,if_neg i];simp[zk]
   rw[if_neg b,if_pos ⟨by omega,rfl,by omega,by cases h:f (k+1) with|true=>rfl|false=>exact absurd (.inr h) b⟩];exact⟨kH f k,k,rfl,by simp⟩
def qpn(f N):qdz f N N=zk (kH f N):=by
 have:=qgV f N N (qBs _)
 rwa[if_neg (by omega)]at this
def qb6(v l):jr (ZR v l)=kH (fun n=>vX l n) (zG v):=by
 unfold kH ZR;rw[List.filter_map];rfl
