import Derived.Test.YtdapogpjhljhaaaGreatDoorCs23
set_option maxHeartbeats 16000000
set_option maxRecDepth 100000
set_option linter.all false
set_option linter.defProp false
namespace Go.Proofs.YtdapogpjhljhaaaGreatDoor
open Go Go.Abs Proofs.Tryz
def qwr(H s n)(a:s.length<2^30):qm (Dof prog) ⟨H,jP [] s⟩ 25 (wN 1 qn 0 s) (.sl 1 [[.sl 1 (n.map qf) .none]] .tight)=some (wN 1 qn 0 (s++[n]),⟨H,jP [] (s++[n])⟩) :=
 yg (D:=Dof prog) (sz:=1) (T:=[]) (H:=H) (m:=[n]) (en:=qn) D25 rfl D36 rfl (by decide) rfl (by decide) (by simp only[qBR];omega) 1 (.inl rfl)
noncomputable def qek(p:Problem)(l:List Ex):List (List Int):=(yS p.vars).filter (qiU p l)
def qay(p l)(F:p.vars.length<=1000)(Q:p.vars.map Var.value=qZ p.vars)(P:∀v∈p.vars,0<=v.width/\v.width<=28)(O:Fits l)(N:∀e∈l,Wen e/\hgt e<=1000/\(pre e).length<=100000)(T:(yS p.vars).length<2^30):
 Pure prog GG 199 [.agg (qw p),.sl 4 (l.map qo) .none] (.sl 1 ((qek p l).map qn) .none):=by
 refine qFD func199 ?_;obtain⟨S,w⟩:∃S,S=qek p l:=⟨_,rfl⟩;rw[<- w];have z:=qln p F;rw[Q]at z;have D:=fun(a:List Int) (g:okA p.vars a)=>qcm p l a F (by have:=g.len;unfold Fits;omega) O N
 have y:=fun(a:List Int) (g:okA p.vars a)=>qnv p a g.len (by have:=g.len;omega) g P
 simp only[qw]at z D y;simp;refine qFG (G:=qW GG) z ?_;simp;have M:S.length<2^30:=by rw[w];unfold qek;exact qC3 (qCP _ _) T
 refine qFL (fun n ev σ=>∃s a,ev 1=.sl 4 (l.map qo) .none/\ev 2=.ptr 0 0/\ev 5=wN 1 qn 0 s/\ev 6=.sl 1 (a.map qf) .none/\σ=⟨[.cells (qw p)],jP [] s⟩/\((ev 7=.bool true/\okA p.vars a/\n=(wu p.vars a).length/\S=s++(wu p.vars a).filter (qiU p l))\/(ev 7=.bool false/\n=0/\S=s))) (yS p.vars).length ?_ ?_
 . refine⟨[],qZ p.vars,by simp,by simp,by simp,by simp,by simp,.inl ⟨by simp,Qn _,by rw[yG],?_⟩⟩;rw[yG,w];rfl
 rintro n ev σ R L ⟨s,a,t,f,x,C,rfl,h|⟨A,rfl,rfl⟩⟩
 . obtain⟨A,i,rfl,d⟩:=h;have u:=Qv i;have I:=qwr [.cells (qw p)] s a (by rw[d]at M;simp at M;omega);simp only[qw]at I;have go:∀(c:List (List Int)) (b:Env),b 1=.sl 4 (l.map qo) .none->b 2=.ptr 0 0->b 5=wN 1 qn 0 c->b 6=.sl 1 ((W8 p.vars a).1.map qf) .none->b 7=.bool (W8 p.vars a).2->S=c++(if(qJ p.vars a).2=true then [] else wu p.vars (qJ p.vars a).1).filter (qiU p l)->R b ⟨[.cells (qw p)],jP [] c⟩:=by
    intro c b E K J r o m;by_cases j:(qJ p.vars a).2=true
    . have B:W8 p.vars a=([],false):=if_pos j;rw[B]at r o;rw[if_pos j]at m;exact L 0 _ _ (by rw[u];simp) ⟨c,[],E,K,J,r,rfl,.inr ⟨o,rfl,by simpa using m⟩⟩
    have B:W8 p.vars a=((qJ p.vars a).1,true):=if_neg j;rw[B]at r o;rw[if_neg j]at m;exact L (wu p.vars (qJ p.vars a).1).length _ _ (by rw[u,if_neg j];simp) ⟨c,(qJ p.vars a).1,E,K,J,r,rfl,.inl ⟨o,Z9 i,rfl,m⟩⟩
   rw[u,qDe]at d;simp only[qw]at go;simp[t,f,C,A];refine qFG (G:=qW GG) (D a i) ?_
   cases hc:qiU p l a with
   | true=>
    rw[hc,if_pos rfl]at d;simp[f,x,C,qe,qp,I];refine qFG (G:=qW GG) (y a i) ?_;simp;exact go (s++[a]) _ (by simp[t]) (by simp[f]) (by simp) (by simp) (by simp) (by rw[d];simp)
   | false=>
    rw[hc,if_neg (by simp)]at d;simp[f,C];refine qFG (G:=qW GG) (y a i) ?_;simp;exact go s _ (by simp[t]) (by simp[f]) (by simp[x]) (by simp) (by simp) d
 simp[-fin,-kw,-w9,x,A]
def qrC(p l a):qiU p l a=yX p.vars l a:=by
 unfold qiU yX;apply qCo.2;simp only[qBx];constructor
 . intro h e b;have:=h e b;simp at this;simpa using this.2
 intro h e b;have:=h e b;have h2:evalV (ke p.vars a) e≠0:=by simpa using this
 have c:=(qgO h2).1;simp[h2,c]
def qnp(p l):qek p l=(yS p.vars).filter (yX p.vars l):=by
 unfold qek;congr 1;funext a;exact qrC p l a
noncomputable def Jz(p:Problem):List (List Int)×Int:=if(qt p).2=0 then((yS p.vars).filter (yX p.vars (qt p).1),0) else([],(qt p).2)
def qzu(p)(h:RfH p)(hb:kj p.vars (qI p)<=18):Pure prog GG 152 [.agg (qw p)] (.tup [.sl 1 ((Jz p).1.map qn) .none,.int .i64 (Jz p).2]):=by
 refine qFD func152 ?_;have b:=YV p h;simp only[qw]at b;by_cases a:(qt p).2=0
 case neg=>
  have g:Jz p=([],(qt p).2):=if_neg a;rw[g];simp;refine qFG (G:=qW GG) b ?_;simp[a,Leq,zl]
 obtain⟨c,f,l,_⟩:=Zy h.vq h.dists h.soft a;rw[show Jz p=(qek p (qt p).1,0) by unfold Jz;rw[if_pos a,qnp]];rw[a]at b;have i:(yS p.vars).length<2^30:=by
  obtain⟨h1,h2⟩:=Jw c h.vq.vars;rw[h2];have:(p.vars.map qfa).sum<=18:=by omega
  have:=qBF (n:=2) (by decide) this;omega
 have d:=qay p (qt p).1 h.vq.vars (Zr c) (fun v j=>by have:=zb (zJ c v j);omega) (by unfold Fits;omega) (fun e a=>(f e a).2) i;simp only[qw]at d;generalize qek p (qt p).1=S at *;generalize (qt p).1=L at *;simp;refine qFG (G:=qW GG) b ?_;simp;refine qFG (G:=qW GG) d ?_;simp
def agV(a b:List Int)(v:Int):Bool:=decide (a.getD v.toNat 0=b.getD v.toNat 0)
def agG(a b:List Int)(g:List Int):Bool:=g.all (agV a b)
def jg(G:List (List Int))(f t:Nat)(a b:List Int):Bool:=((G.drop f).take (t-f)).all (agG a b)
def qg3(p:Problem)(f t)(a b:List Int)(ht:t<=p.groups.length)(P:f<=t)(V:p.groups.length<=10000000)(M:∀g∈p.groups,g.length<=10000000/\∀v∈g,0<=v/\v<(a.length:Nat)/\v<(b.length:Nat)):
 Pure prog GG 200 [.agg (qw p),.int .i64 f,.int .i64 t,.sl 1 (a.map qf) .none,.sl 1 (b.map qf) .none] (.bool (jg p.groups f t a b)):=by
 refine qFD func200 ?_;obtain⟨r,D⟩:∃r,r=jg p.groups f t a b:=⟨_,rfl⟩;rw[<- D];simp;refine qFL (fun m ev σ=>∃i,m=t-i/\f<=i/\i<=t/\ev 2=.int .i64 t/\ev 3=.sl 1 (a.map qf) .none/\ev 4=.sl 1 (b.map qf) .none/\ev 5=.ptr 0 0/\ev 11=.int .i64 i/\σ=⟨[.cells (qw p)],[]⟩/\r=jg p.groups i t a b) (t-f) ?_ ?_
 . exact⟨f,rfl,qBs _,P,by simp,by simp,by simp,by simp,by simp,by simp,D⟩
 rintro m ev σ R Q ⟨i,rfl,Z,hi,h,l,j,e,c,rfl,E⟩;by_cases W:i<t
 case neg=>
  have F:¬(i:Int)<t:=by omega
  simp[h,c,F,show r=true by rw[E];unfold jg;rw[show t-i=0 by omega];rfl]
 have K:=wr (n:=(i:Int)+1);obtain⟨g,o⟩:∃g,p.groups[i]?=some g:=⟨_,qBm (by omega)⟩;obtain⟨T,G⟩:=M g (qBl o);have S:r=(agG a b g&&jg p.groups (i+1) t a b):=by
  rw[E];unfold jg;rw[zn o,show t-i=(t-(i+1))+1 by omega,qC6,qCH]
 simp[h,c,show(i:Int)<t by omega];refine qFL (fun m ev σ=>∃k,m=g.length-k/\k<=g.length/\ev 2=.int .i64 t/\ev 3=.sl 1 (a.map qf) .none/\ev 4=.sl 1 (b.map qf) .none/\ev 5=.ptr 0 0/\ev 11=.int .i64 i/\ev 12=.int .i64 k/\σ=⟨[.cells (qw p)],[]⟩/\r=((g.drop k).all (agV a b)&&jg p.groups (i+1) t a b)) g.length ?_ ?_
 . exact⟨0,rfl,by omega,by simp[h],by simp[l],by simp[j],by simp[e],by simp[c],by simp,rfl,by rw[S];rfl⟩
 rintro m ev σ U O ⟨k,rfl,Y,h,l,j,e,c,A,rfl,d⟩;by_cases N:k<g.length
 case neg=>
  rw[show g.drop k=[] by simp;omega]at d;have d:=d;have s:¬(k:Int)<g.length:=by omega
  simp[e,c,A,o,s,K];exact Q (t-(i+1)) _ _ (by omega) ⟨i+1,rfl,by omega,by omega,by simp[h],by simp[l],by simp[j],by simp[e],by simp,by simp,d⟩
 have s:(k:Int)<g.length:=by omega
 have I:=wr (n:=(k:Int)+1);obtain⟨v,u⟩:∃v,g[k]?=some v:=⟨_,qBm N⟩;obtain⟨J,va,X⟩:=G v (qBl u);obtain⟨w,rfl⟩:=qBG J;obtain⟨x,z⟩:∃x,a[w]?=some x:=⟨_,qBm (by omega)⟩;obtain⟨y,C⟩:∃y,b[w]?=some y:=⟨_,qBm (by omega)⟩;rw[zn u,qCH,show agV a b (w:Int)=decide (x=y) by unfold agV;simp[List.getD,z,C]]at d;by_cases B:x=y
 . subst B;simp[l,j,e,c,A,o,s,u,z,C,I];exact O (g.length-(k+1)) _ _ (by omega) ⟨k+1,rfl,by omega,by simp[h],by simp[l],by simp[j],by simp[e],by simp[c],by simp,by simp,by rw[d];simp⟩
 have L:r=false:=by rw[d];simp[B]
 simp[l,j,e,c,A,o,s,u,z,C,B,L]
def qdR(x:Int):List Int->List Int->List Int
 |[],B=>x::B
 |a::A,B=>if x<a then qdR x A (a::B) else A.reverse++a::x::B
def zQ(l:List Int):List Int:=l.foldl (fun S x=>qdR x S.reverse []) []
def qgw(x):∀A B,(qdR x A B).length=A.length+B.length+1
 |[],B=>by simp[qdR]
 | a::A,B=>by
  unfold qdR;split
  . rw[qgw x A];simp;omega
  simp;omega
def JC(l x):zQ (l++[x])=qdR x (zQ l).reverse []:=by unfold zQ;rw[qCb];rfl
def Kz(l):(zQ l).length=l.length:=by
 induction hn:l.length generalizing l with
 |zero=>rw[qBy hn];rfl
 | succ n ih=>
  obtain⟨d,x,rfl⟩:∃d x,l=d++[x]:=⟨l.dropLast,l.getLast (by rintro rfl;simp at hn),(qCa _).symm⟩;rw[JC,qgw,qEx,ih d (by simpa using hn)];rfl
def qjG(l)(hl:l.length<=1000000):Pure prog GG 267 [.sl 1 (l.map qf) .none] (.sl 1 ((zQ l).map qf) .none):=by
 refine qFC oM true func267 ?_;by_cases h0:l=[]
 . subst h0;simp[oM,qY,zD,qP,Zl,qm,qR];refine qFL (fun m ev σ=>ev 3=.sl 0 [] .nil/\ev 4=.int .i64 1) 0 ⟨by simp,by simp⟩ ?_;rintro m ev σ R hR ⟨b,c⟩;simp[b,c];rw[ql (by simp)];exact⟨by simp,by simp[zQ,Leq]⟩
 have b2:=qBA.2 h0;simp[oM,qY,zD,qP,Zl,show ¬(l.length=0) by omega,show l.length<=549755813888 by omega,h0];refine qFL (fun m ev σ=>∃i T,m=l.length-i/\1<=i/\i<=l.length/\ev 3=.ms 0 0 l.length 1/\ev 4=.int .i64 i/\σ=⟨[.cells (zc (zQ (l.take i)++l.drop i))],T⟩) (l.length-1) ?_ ?_
 . refine⟨1,[],by omega,by omega,by omega,by simp,by simp,?_⟩;obtain⟨a,q,rfl⟩:∃a q,l=a::q:=by
    cases l with
    |nil=>exact absurd rfl h0
    |cons a q=>exact⟨a,q,rfl⟩
   have:zQ ((a::q).take 1)++(a::q).drop 1=a::q:=rfl;rw[this,jD,qCQ]
 rintro m ev σ R hR ⟨i,T,rfl,h1,hi,b,c,rfl⟩;by_cases a1:i<l.length
 case neg=>
  have a8:i=l.length:=by omega
  subst a8;have b4:¬(l.length:Int)<l.length:=by omega
  have d:zQ (l.take l.length)++l.drop l.length=zQ l:=by rw[qCS,qCw,qB4]
  rw[d];simp[b,c];have u:=Kz l;rw[<- u];have ho:ja 0 1 qf [.cells (zc (zQ l))] (.ms 0 0 (zQ l).length 1) (zQ l):=.inr ⟨fun h=>by rw[h]at u;simp at u;omega,rfl,by rw[jD];rfl⟩;exact⟨ho.frzNo (fun x=>by simp) (fun x=>by simp) (fun x=>by simp) 7,ho.frz (fun x=>by simp) (fun x=>by simp) (fun x=>by simp) 7⟩
 have G:=wr (n:=(i:Int)+1);obtain⟨x,v⟩:∃x,l[i]?=some x:=⟨_,qBm a1⟩;have a0:(zQ (l.take i)).length=i:=by rw[Kz,qBY];omega
 have a6:zQ (l.take (i+1))=qdR x (zQ (l.take i)).reverse []:=by
  rw[qBQ,v];exact JC _ _
 obtain⟨Q,j⟩:∃Q,Q=l.drop (i+1):=⟨_,rfl⟩;have b1:Q.length=l.length-(i+1):=by rw[j,qCj]
 rw[zn v,<- j];generalize a2:qdR x (zQ (l.take i)).reverse []=L at *;generalize zQ (l.take i)=S at *;simp[b,c,show(i:Int)<l.length by omega];refine qFL (fun m ev σ=>∃A B,m=A.length/\A.length+B.length=i/\ev 3=.ms 0 0 l.length 1/\ev 4=.int .i64 i/\ev 5=.int .i64 (A.length:Nat)/\σ=⟨[.cells (zc (A.reverse++x::(B++Q)))],T⟩/\qdR x A B=L) S.length ?_ ?_
 . exact⟨S.reverse,[],by simp,by simp[a0],by simp[b],by simp[c],by simp[a0],by simp,a2⟩
 clear b c;rintro m ev σ R2 a5 ⟨A,B,rfl,O,b,c,V,rfl,J⟩;have fin:∀g,g 3=.ms 0 0 l.length 1->g 4=.int .i64 ((i:Int)+1)->L=A.reverse++x::B->R g ⟨[.cells (zc (A.reverse++x::(B++Q)))],T⟩:=fun g a3 a4 h=>
  hR (l.length-(i+1)) _ _ (by omega) ⟨i+1,T,rfl,by omega,by omega,a3,by rw[a4];simp,by rw[a6,h,<- j];simp⟩
 cases A with
 | nil=>
  simp[c,V,G];exact fin _ (by simp[b]) (by simp) (by rw[<- J];rfl)
 | cons a A=>
  obtain⟨P,t⟩:∃P,P=A.reverse:=⟨_,rfl⟩;obtain⟨m,r⟩:∃m,m=A.length:=⟨_,rfl⟩;have o:(zc P).length=m:=by rw[qO,t,qEx,r]
  obtain⟨Z,I⟩:∃Z,Z=zc (B++Q):=⟨_,rfl⟩;have d:∀y z,zc (P++y::z::(B++Q))=zc P++.int .i64 y::.int .i64 z::Z:=fun y z=>by rw[I];simp[zc]
  have s:∀y z,(zc P++AV.int .i64 y::.int .i64 z::Z).drop m=.int .i64 y::.int .i64 z::Z:=fun y z=>by
   rw[qCJ (by omega),qBZ (by omega)];rfl
  have M:∀y z,(zc P++AV.int .i64 y::.int .i64 z::Z).drop (m+1)=.int .i64 z::Z:=fun y z=>by
   rw[show m+1=m+1 from rfl,<- qDZ,s];rfl
  have a7:∀y z w,(zc P++AV.int .i64 y::.int .i64 z::Z).set m (.int .i64 w)=zc P++.int .i64 w::.int .i64 z::Z:=fun y z w=>by
   rw[qCd _ _ (by omega),o,qCh];rfl
  have a9:∀y z w,(zc P++AV.int .i64 y::.int .i64 z::Z).set (m+1) (.int .i64 w)=zc P++.int .i64 y::.int .i64 w::Z:=fun y z w=>by
   rw[qCd _ _ (by omega),o,show m+1-m=1 by omega];rfl
  have E:∀y z,(zc P++AV.int .i64 y::.int .i64 z::Z).length=l.length:=fun y z=>by
   simp only[qBp,qBB,o,show Z.length=B.length+Q.length by rw[I,qO,qBp]]at *;omega
  have b0:m+1<l.length:=by simp at O;omega
  have N:m+1<=l.length:=by omega
  have X:m+2<=l.length:=by omega
  have Y:(m:Int)+1<l.length:=by omega
  have F:(m:Int)<l.length:=by omega
  have C:=wr (n:=(m:Int));have W:ev 5=.int .i64 ((m:Int)+1):=by rw[V,r];simp
  have D:(0:Int)<(m:Int)+1:=by omega
  have K:(0:Int)<=(m:Int)+1:=by omega
  have U:(a::A).reverse++x::(B++Q)=P++a::x::(B++Q):=by rw[t];simp
  have e:=J;unfold qdR at e;by_cases f:x<a
  . rw[if_pos f]at e;rw[U,d];simp[b,W,D,K,N,X,Y,F,s,M,a7,a9,E,C,f];refine a5 A.length _ _ (by simp) ⟨A,a::B,rfl,by simp at O⊢;omega,by simp[b],by simp[c],by simp[r],?_,e⟩;rw[<- t,qBV,d]
  rw[if_neg f]at e;have w9:=fin;rw[U,d]at w9⊢;simp[b,c,W,D,K,N,X,Y,F,s,M,E,C,f,G];exact w9 _ (by simp[b]) (by simp) (by rw[<- e];simp)
def qgv{x v}:∀{A B:List Int},v∈qdR x A B↔v=x\/v∈A\/v∈B
 |[],B=>by simp[qdR]
 | a::A,B=>by
  unfold qdR;split
  . rw[qgv];simp only[qBN];constructor
    . rintro(h|h|h|h)
      . exact .inl h
      . exact .inr (.inl (.inr h))
      . exact .inr (.inl (.inl h))
      . exact .inr (.inr h)
    rintro(h|(h|h)|h)
    . exact .inl h
    . exact .inr (.inr (.inl h))
    . exact .inr (.inl h)
    exact .inr (.inr (.inr h))
  simp only[qBC,qEo,qBN];constructor
  . rintro(h|h|h|h)
    . exact .inr (.inl (.inr h))
    . exact .inr (.inl (.inl h))
    . exact .inl h
    . exact .inr (.inr h)
  rintro(h|(h|h)|h)
  . exact .inr (.inr (.inl h))
  . exact .inr (.inl h)
  . exact .inl h
  exact .inr (.inr (.inr h))
def ZW{v}(l):v∈zQ l↔v∈l:=by
 induction hn:l.length generalizing l with
 |zero=>rw[qBy hn];simp[zQ]
 | succ n ih=>
  obtain⟨d,x,rfl⟩:∃d x,l=d++[x]:=⟨l.dropLast,l.getLast (by rintro rfl;simp at hn),(qCa _).symm⟩;rw[JC,qgv,qEo,ih d (by simpa using hn)];simp[or_comm]
def jx(a b:List Int):List Int->Bool
 |[]=>false
 |v::r=>if a.getD v.toNat 0=b.getD v.toNat 0 then jx a b r else decide (a.getD v.toNat 0<b.getD v.toNat 0)
def qsw(p:Problem)(i:Nat)(g:List Int)(a b:List Int)(t:p.groups[i]?=some g)(A:g.length<=1000000)(B:∀v∈g,0<=v/\v<(a.length:Nat)/\v<(b.length:Nat)):
 Pure prog GG 201 [.agg (qw p),.int .i64 i,.sl 1 (a.map qf) .none,.sl 1 (b.map qf) .none] (.bool (jx a b (zQ g))):=by
 refine qFD func201 ?_;have E:=qjG g A;have M:=Kz g;have C:∀v∈zQ g,0<=v/\v<(a.length:Nat)/\v<(b.length:Nat):=fun v d=>B v ((ZW g).1 d)
 have L:=(qBk.1 t).1;generalize zQ g=S at *;obtain⟨r,z⟩:∃r,r=jx a b S:=⟨_,rfl⟩;rw[<- z];simp;refine qFL (fun m ev σ=>∃k,m=S.length-k/\k<=S.length/\ev 1=.int .i64 i/\ev 2=.sl 1 (a.map qf) .none/\ev 3=.sl 1 (b.map qf) .none/\ev 4=.ptr 0 0/\ev 9=.int .i64 k/\σ=⟨[.cells (qw p)],[]⟩/\r=jx a b (S.drop k)) S.length ?_ ?_
 . exact⟨0,rfl,by omega,by simp,by simp,by simp,by simp,by simp,by simp,z⟩
 rintro m ev σ R K ⟨k,rfl,O,f,h,l,u,e,rfl,c⟩;by_cases J:k<S.length
 case neg=>
  rw[show S.drop k=[] by simp;omega]at c;have c:r=false:=c;have F:¬(k:Int)<g.length:=by omega
  simp[f,u,e,t,F,c]
 have Q:k<g.length:=by omega
 have D:=wr (n:=(k:Int)+1);obtain⟨v,d⟩:∃v,S[k]?=some v:=⟨_,qBm J⟩;obtain⟨I,P,N⟩:=C v (qBl d);obtain⟨w,rfl⟩:=qBG I;obtain⟨x,j⟩:∃x,a[w]?=some x:=⟨_,qBm (by omega)⟩;obtain⟨y,s⟩:∃y,b[w]?=some y:=⟨_,qBm (by omega)⟩;rw[zn d]at c;unfold jx at c;simp only[qBU,List.getD,j,s,qES]at c;simp[f,u,e,t,show(k:Int)<g.length by omega];refine qFG (G:=qW GG) E ?_;by_cases o:x=y
 . subst o;rw[if_pos rfl]at c;simp[h,l,e,d,j,s,D,show(k:Int)<S.length by omega];exact K (S.length-(k+1)) _ _ (by omega) ⟨k+1,rfl,by omega,by simp[f],by simp[h],by simp[l],by simp[u],by simp,by simp,c⟩
 rw[if_neg o]at c;simp[h,l,e,d,j,s,o,c]
def qwF(s:Nat)(X:List (List Int))(tok:Abs.Tok)(T:List (Option Nat)):Prop:=(s=1/\qhb tok T)\/(X=[]/\tok=.nil)
def qsL{H T X Y tok ty s}(a:qwF s X tok T)(b:X.length+Y.length<=549755813888):
 ∃c d e,qm (Dof prog) ⟨H,T⟩ 25 (.sl s (X.map qn) tok) (.sl 1 (Y.map qn) ty)=some (.sl c ((X++Y).map qn) d,⟨H,e⟩)/\qwF c (X++Y) d e:=by
 have h:X.length<=549755813888:=by omega
 by_cases h2:Y=[]
 . subst h2;refine⟨s,tok,T,?_,by rw[qB4];exact a⟩;rcases a with⟨rfl,_⟩|⟨rfl,_⟩<;>simp[qm,qR,h]
 rcases a with⟨rfl,rfl|⟨t,k,rfl,f⟩⟩|⟨rfl,rfl⟩
 . exact⟨1,.chain T.length Y.length,T++[some Y.length],by simp[qm,qR,h2,b],.inl ⟨rfl,.inr ⟨_,_,rfl,by simp⟩⟩⟩
 . have g:=(qBk.1 f).1;exact⟨1,.chain t (k+Y.length),T.set t (some (k+Y.length)),by simp[qm,qR,h2,b,f],.inl ⟨rfl,.inr ⟨_,_,rfl,by simp[g]⟩⟩⟩
 have:Y.length<=549755813888:=by simpa using b
 exact⟨1,.chain T.length Y.length,T++[some Y.length],by simp[qm,qR,h2,this],.inl ⟨rfl,.inr ⟨_,_,rfl,by simp⟩⟩⟩
def qk0(l:List (List Int))(at' a)(h:at'<=l.length)(A:l.length<=1000000):
 Pure prog GG 202 [.sl 1 (l.map qn) .none,.int .i64 at',.sl 1 (a.map qf) .none] (.sl 1 ((l.take at'++a::l.drop at').map qn) .none):=by
 refine qFD func202 ?_;have h1:zm (.sl 1 (l.map qn) .none) none (some (.int .i64 at')) none=some (.sl 1 ((l.take at').map qn) .none):=by
  simp[zm,zM,yp,zH,h]
 have h2:zm (.sl 1 (l.map qn) .none) (some (.int .i64 at')) none none=some (.sl 1 ((l.drop at').map qn) .none):=by
  have h2:(l.map qn).take l.length=l.map qn:=qBr (by simp);simp[zm,zM,yp,zH,h,h2]
 obtain⟨B,w,i,c,d⟩:=qsL (H:=[]) (T:=[]) (X:=[]) (Y:=l.take at') (tok:=.nil) (ty:=.none) (s:=0) (.inr ⟨rfl,rfl⟩) (by simp;omega);rw[qBL]at c d;obtain⟨r,D,m,f,j⟩:=qsL (H:=[]) (T:=i) (Y:=[a]) (ty:=.tight) d (by simp;omega);obtain⟨v,u,y,b,e⟩:=qsL (H:=[]) (T:=m) (Y:=l.drop at') (ty:=.none) j (by simp;omega);rw[show l.take at'++[a]++l.drop at'=l.take at'++a::l.drop at' by simp]at b e;generalize l.take at'++a::l.drop at'=R at *;generalize l.take at'++[a]=o at *;generalize l.take at'=C at *;generalize l.drop at'=z at *;simp only[qBS,qBz,qn]at c f b h1 h2;simp[h1,h2,c,f,b,qe,qp];rcases e with⟨rfl,g⟩|⟨rfl,rfl⟩
 . rcases g with rfl|⟨t,k,rfl,_⟩<;>simp[qE,show qM (R.map qn)=true from zj (fun x=>by simp) R,Leq,qFP]
 simp[qE,qM,Leq]
def atX(f:List Int->Bool)(o:List (List Int)):Nat×Nat:=o.foldl (fun s v=>(if f v then s.2+1 else s.1,s.2+1)) (0,0)
def qbq(f o v):atX f (o++[v])=(if f v then(atX f o).2+1 else(atX f o).1,(atX f o).2+1):=by unfold atX;rw[qCb];rfl
def qfc(f o):(atX f o).2=o.length/\(atX f o).1<=o.length:=by
 induction hn:o.length generalizing o with
 |zero=>rw[qBy hn];exact⟨rfl,qBs _⟩
 | succ n ih=>
  obtain⟨d,x,rfl⟩:∃d x,o=d++[x]:=⟨o.dropLast,o.getLast (by rintro rfl;simp at hn),(qCa _).symm⟩;obtain⟨h1,h2⟩:=ih d (by simpa using hn);rw[qbq,h1];refine⟨rfl,?_⟩;dsimp only;split<;>omega
def vP(G:List (List Int))(i:Nat)(g a:List Int)(out:List (List Int))(x:List Int):List (List Int) :=
 if jg G 0 i x a=true then(if out.any (fun v=>jg G i (i+1) v x)=true then out else out.take (atX (fun v=>jx v x (zQ g)) out).1++x::out.drop (atX (fun v=>jx v x (zQ g)) out).1) else out
def jh(G:List (List Int))(i:Nat)(g a:List Int)(l:List (List Int)):List (List Int):=l.foldl (vP G i g a) []
def qce{G i g a x v out}(h:v∈vP G i g a out x):v∈out\/v=x:=by
 unfold vP at h;split at h
 . split at h
   . exact .inl h
   . simp at h;rcases h with h|h|h
     . exact .inl (qB6 h)
     . exact .inr h
     exact .inl (qCD h)
 exact .inl h
def qcf{G i g a x out}:(vP G i g a out x).length<=out.length+1:=by
 unfold vP;split
 . split
   . omega
   . simp;omega
 omega
def qiB(p:Problem)(l:List (List Int))(i:Nat)(g a:List Int)(W:p.groups[i]?=some g)(hl:l.length<=1000000)(hG:p.groups.length<=10000000)(E:∀g∈p.groups,g.length<=1000000/\∀v∈g,0<=v/\v<(a.length:Nat))(c1:∀x∈l,x.length=a.length):
 Pure prog GG 154 [.agg (qw p),.sl 1 (l.map qn) .none,.int .i64 i,.sl 1 (a.map qf) .none] (.sl 1 ((jh p.groups i g a l).map qn) .none):=by
 refine qFD func154 ?_;obtain⟨P,b1⟩:∃P,P=jh p.groups i g a l:=⟨_,rfl⟩;rw[<- b1];have c7:=(qBk.1 W).1;have a5:=E g (qBl W);have Y:=fun(x:List Int) (e:x.length=a.length)=>qg3 p 0 i x a (by omega) (by omega) hG (fun F B=>⟨by have:=(E F B).1;omega,fun v A=>by have:=(E F B).2 v A;rw[e];exact⟨this.1,this.2,this.2⟩⟩)
 have a6:=fun(x y:List Int) (e:x.length=a.length) (z:y.length=a.length)=>qg3 p i (i+1) x y (by omega) (by omega) hG (fun F B=>⟨by have:=(E F B).1;omega,fun v A=>by have:=(E F B).2 v A;rw[e,z];exact⟨this.1,this.2,this.2⟩⟩)
 have Z:=fun(x y:List Int) (e:x.length=a.length) (z:y.length=a.length)=>qsw p i g x y W a5.1 (fun v A=>by have:=a5.2 v A;rw[e,z];exact⟨this.1,this.2,this.2⟩)
 simp only[qw,qDK]at Y a6 Z;simp;refine qFL (fun m ev σ=>∃k s O T tok,m=l.length-k/\k<=l.length/\ev 1=.sl 1 (l.map qn) .none/\ev 2=.int .i64 i/\ev 3=.sl 1 (a.map qf) .none/\ev 4=.ptr 0 0/\ev 9=.sl s (O.map qn) tok/\(tok=.none\/tok=.nil)/\(s=1\/O=[])/\ev 10=.int .i64 k/\σ=⟨[.cells (qw p)],T⟩/\(∀x∈O,x.length=a.length)/\O.length<=k/\P=(l.drop k).foldl (vP p.groups i g a) O) l.length ?_ ?_
 . exact⟨0,0,[],[],.nil,rfl,by omega,by simp,by simp,by simp,by simp,by simp,.inr rfl,.inr rfl,by simp,by simp,by simp,by simp,b1⟩
 rintro m ev σ R U ⟨k,s,O,T,tok,rfl,hk,b,d,t,j,f,I,D,c,rfl,K,c8,o⟩;by_cases b4:k<l.length
 case neg=>
  rw[show l.drop k=[] by simp;omega]at o;have o:=o;have c6:¬(k:Int)<l.length:=by omega
  rw[o];have N:qM (O.map qn)=true:=zj (fun x=>by simp) O;simp[*];rcases I with rfl|rfl<;>rcases D with rfl|rfl<;>simp[qE,N,Leq,qFP]
 have hw:=wr (n:=(k:Int)+1);obtain⟨x,e⟩:∃x,l[k]?=some x:=⟨_,qBm b4⟩;have J:=c1 x (qBl e);rw[zn e,qB2]at o;have h0:=Y x J;simp[b,d,t,j,c,show(k:Int)<l.length by omega,e];refine qFG (G:=qW GG) h0 ?_
 cases hc:jg p.groups 0 i x a with
 | false=>
  have c5:vP p.groups i g a O x=O:=by unfold vP;rw[if_neg (by simp[hc])]
  rw[c5]at o;simp[*,unA];exact U (l.length-(k+1)) _ _ (by omega) ⟨k+1,s,O,T,tok,rfl,by omega,by simp[b],by simp[d],by simp[t],by simp[j],by simp[f],I,D,by simp,by simp,K,by omega,o⟩
 | true=>
  simp[unA,c];have c2:O.length<=1000000:=by omega
  refine qFL (fun m ev σ=>∃q,m=O.length-q/\q<=O.length/\ev 1=.sl 1 (l.map qn) .none/\ev 2=.int .i64 i/\ev 3=.sl 1 (a.map qf) .none/\ev 4=.ptr 0 0/\ev 9=.sl s (O.map qn) tok/\ev 10=.int .i64 k/\σ=⟨[.cells (qw p)],T⟩/\ev 11=.int .i64 ((atX (fun v=>jx v x (zQ g)) (O.take q)).1:Nat)/\ev 12=.bool ((O.take q).any (fun v=>jg p.groups i (i+1) v x))/\ev 13=.int .i64 q) O.length ?_ ?_
  . exact⟨0,rfl,by omega,by simp[b],by simp[d],by simp[t],by simp[j],by simp[f],by simp[c],by simp,by simp[atX],by simp⟩
  rintro m ev σ R2 b6 ⟨q,rfl,hq,b,d,t,j,f,c,rfl,M,u,w⟩;by_cases V:q<O.length
  case neg=>
   have L:O.take q=O:=qBr (by omega);rw[L]at M u;have X:¬(q:Int)<O.length:=(by omega);have b8:=(qfc (fun v=>jx v x (zQ g)) O).2;have b9:=qk0 O (atX (fun v=>jx v x (zQ g)) O).1 x b8 c2;have Q:=fun v (A:v∈vP p.groups i g a O x)=>qce A
   have a8:(vP p.groups i g a O x).length<=O.length+1:=qcf;rw[show vP p.groups i g a O x=if O.any (fun v=>jg p.groups i (i+1) v x)=true then O else O.take (atX (fun v=>jx v x (zQ g)) O).1++x::O.drop (atX (fun v=>jx v x (zQ g)) O).1 by unfold vP;rw[if_pos hc]]at o Q a8;generalize (atX (fun v=>jx v x (zQ g)) O).1=S at *
   cases hkn:O.any (fun v=>jg p.groups i (i+1) v x) with
   | true=>
    rw[hkn]at u;rw[hkn,if_pos rfl]at o;simp[unA,f,c,u,w,X,hw];exact U (l.length-(k+1)) _ _ (by omega) ⟨k+1,s,O,T,tok,rfl,by omega,by simp[b],by simp[d],by simp[t],by simp[j],by simp[f],I,D,by simp,by simp,K,by omega,o⟩
   | false=>
    rw[hkn]at u;rw[hkn,if_neg (by simp)]at o Q a8;generalize O.take S++x::O.drop S=O2 at *;simp[unA,b,f,c,M,u,w,X,e];refine qFH (G:=qW GG) b9 ?_ ?_ ?_
    . have N:qM (O.map qn)=true:=zj (fun x=>by simp) O;rcases I with rfl|rfl<;>simp[N]
    . rcases I with rfl|rfl<;>rcases D with rfl|rfl<;>simp[zl,Leq,qFP]
    simp[c,hw];exact U (l.length-(k+1)) _ _ (by omega) ⟨k+1,1,O2,T,.none,rfl,by omega,by simp[b],by simp[d],by simp[t],by simp[j],by simp,.inl rfl,.inl rfl,by simp,by simp,fun v A=>by
     rcases Q v A with h|h
     . exact K v h
     rw[h];exact J,by omega,o⟩
  have c0:=D.resolve_right (fun h=>by rw[h]at V;simp at V);subst c0;obtain⟨y,z⟩:∃y,O[q]?=some y:=⟨_,qBm V⟩;have b2:=K y (qBl z);have L:O.take (q+1)=O.take q++[y]:=by rw[qBQ,z];rfl
  have C:=wr (n:=(q:Int)+1);have b0:=wr (n:=(i:Int)+1);have h1:=Z y x b2 J;have h2:=a6 y x b2 J;have a7:=(qfc (fun v=>jx v x (zQ g)) (O.take q)).1;rw[qBY,qC9 hq]at a7;have a0:=qbq (fun v=>jx v x (zQ g)) (O.take q) y;rw[a7]at a0;simp[b,d,j,f,c,w,show(q:Int)<O.length by omega,z,e];refine qFG (G:=qW GG) h1 ?_;rw[show((i+1:Nat):Int)=(i:Int)+1 by omega]at h2;have fin:∀r,r 1=.sl 1 (l.map qn) .none->r 2=.int .i64 i->r 3=.sl 1 (a.map qf) .none->r 4=.ptr 0 0->r 9=.sl 1 (O.map qn) tok->r 10=.int .i64 k->r 11=.int .i64 ((if jx y x (zQ g)=true then q+1 else(atX (fun v=>jx v x (zQ g)) (O.take q)).1:Nat):Int)->r 12=.bool ((O.take q).any (fun v=>jg p.groups i (i+1) v x)||jg p.groups i (i+1) y x)->r 13=.int .i64 ((q:Int)+1)->R2 r ⟨[.cells (qw p)],T⟩:=fun r a1 a2 a3 a4 a9 b7 b5 c3 c4=>
   b6 (O.length-(q+1)) _ _ (by omega) ⟨q+1,rfl,by omega,a1,a2,a3,a4,a9,b7,rfl,by rw[b5,show(atX (fun v=>jx v x (zQ g)) (O.take (q+1))).1=if jx y x (zQ g)=true then q+1 else(atX (fun v=>jx v x (zQ g)) (O.take q)).1 by rw[L,a0]],by rw[c3,show(O.take (q+1)).any (fun v=>jg p.groups i (i+1) v x)=((O.take q).any (fun v=>jg p.groups i (i+1) v x)||jg p.groups i (i+1) y x) by rw[L,List.any_append];simp],by rw[c4];simp⟩
  generalize (O.take q).any (fun v=>jg p.groups i (i+1) v x)=KN at *;generalize (atX (fun v=>jx v x (zQ g)) (O.take q)).1=S at *;simp only[qw]at fin
  cases hls:jx y x (zQ g) with
  | true=>
   rw[hls]at fin
   cases KN with
   | true=>
    simp[u,w,C];exact fin _ (by simp[b]) (by simp[d]) (by simp[t]) (by simp[j]) (by simp[f]) (by simp[c]) (by simp) (by simp) (by simp)
   | false=>
    simp[b,d,j,f,c,u,w,C,b0,z,e];refine qFG (G:=qW GG) h2 ?_;simp[w,C];exact fin _ (by simp[b]) (by simp[d]) (by simp[t]) (by simp[j]) (by simp[f]) (by simp[c]) (by simp) (by simp) (by simp)
  | false=>
   rw[hls]at fin
   cases KN with
   | true=>
    simp[u,w,C];exact fin _ (by simp[b]) (by simp[d]) (by simp[t]) (by simp[j]) (by simp[f]) (by simp[c]) (by simp[M]) (by simp) (by simp)
   | false=>
    simp[b,d,j,f,c,u,w,b0,z,e];refine qFG (G:=qW GG) h2 ?_;simp[w,C];exact fin _ (by simp[b]) (by simp[d]) (by simp[t]) (by simp[j]) (by simp[f]) (by simp[c]) (by simp[M]) (by simp) (by simp)
def qpJ(n):∃k p,IntKind.i64.wrap n=p/\p=n+18446744073709551616*k/\-9223372036854775808<=p/\p<9223372036854775808:=by
 refine⟨(IntKind.i64.wrap n-n)/18446744073709551616,_,rfl,?_,?_,?_⟩
 all_goals
  simp only[IntKind.wrap,IntKind.bits,IntKind.signed];simp;omega
def Z4(n)(h0:-9223372036854775807<=n)(h1:n<=9223372036854775807):Pure prog GG 211 [.int .i64 n] (.int .i64 (if 0<n then -n else n)):=by
 refine qFD func211 ?_;by_cases h:0<n
 . simp[h,unA,show IntKind.i64.wrap (-n) = -n from wr]
 simp[h]
def qr8{a b p k}(y:p=a*b+18446744073709551616*k)(x:k≠0)(s:-9223372036854775807<=a)(u:a<=9223372036854775807)(hb:-9223372036854775807<=b)(w:b<=9223372036854775807)(A:b≠0)
 (h0:-9223372036854775808<=p) (h1:p<9223372036854775808) (t:9223372036854775808<=a*b):IntKind.i64.wrap (p.tdiv b)≠a:=by
 intro d;have c:=Int.mul_tdiv_add_tmod p b;have f:(p.tmod b).natAbs<b.natAbs:=by
  rw[Int.natAbs_tmod];exact qEi _ (by omega)
 obtain⟨q,e⟩:∃q,p.tdiv b=q:=⟨_,rfl⟩;obtain⟨r,i⟩:∃r,p.tmod b=r:=⟨_,rfl⟩;rw[e]at d c;rw[i]at c f;have v:q.natAbs<=p.natAbs:=by rw[<- e,Int.natAbs_tdiv];exact qDr _ _
 have j:q=a\/(q=9223372036854775808/\a = -9223372036854775808):=by
  obtain⟨z,p2,g,l,o,m⟩:=qpJ q;rw[g]at d;omega
 rcases j with rfl|⟨_,h⟩
 . rw[Int.mul_comm]at c;omega
 omega
def qen(a b:Int)(P:Nat)(l:a*b=P)(u:-9223372036854775807<=a)(w:a<=9223372036854775807)(hb:-9223372036854775807<=b)(o:b<=9223372036854775807):
 Pure prog GG 314 [.int .i64 a,.int .i64 b] (.tup [.int .i64 (Yo P).1,.int .i64 (Yo P).2]):=by
 refine qFD func314 ?_;generalize c:Yo P=r;unfold Yo at c;by_cases f:a=0
 . subst f;have:P=0:=by omega
   subst this;simp at c;subst c;simp
 by_cases e:b=0
 . subst e;have:P=0:=by omega
   subst this;simp at c;subst c;simp[f]
 have m:¬a = -9223372036854775808:=by omega
 have i:¬b = -9223372036854775808:=by omega
 obtain⟨k,p,g,s,v,t⟩:=qpJ (a*b);by_cases j:P<9223372036854775808
 . rw[if_pos j]at c;subst c;have h:p=a*b:=(by omega);have d:IntKind.i64.wrap (p.tdiv b)=a:=by
    rw[h,Int.mul_tdiv_cancel _ e,wr]
   rw[l]at g h;rw[h]at g d;rw[qCT (by omega)]at d;simp[f,e,m,i,g,d,l]
 rw[if_neg j]at c;subst c;have d:=qr8 (a:=a) (b:=b) (p:=p) (k:=k) s (by omega) u w hb o e v t (by omega);simp[f,e,m,i,g,d]
def qrO(a b:Nat)(s:0<a)(hb:0<b)(m:a<=9223372036854775807)(h:b<=9223372036854775807):Pure prog GG 355 [.int .i64 a,.int .i64 b] (.int .i64 (Nat.gcd a b:Nat)):=by
 have h1:=Z4 a (by omega) (by omega);have h2:=Z4 b (by omega) (by omega);rw[if_pos (by omega)]at h1 h2;refine qFD func355 ?_;generalize o:Nat.gcd a b=g at *;simp;refine qFG h1 ?_ rfl;simp;refine qFG h2 ?_ rfl;simp;refine qFL (fun n ev σ=>∃x y:Nat,n=y/\x<=9223372036854775807/\y<=9223372036854775807/\ev 5=.int .i64 (-(x:Int))/\ev 6=.int .i64 (-(y:Int))/\Nat.gcd x y=g) b ⟨a,b,rfl,m,h,by simp,by simp,o⟩ ?_;rintro y ev σ R l ⟨x,_,rfl,r,j,c,d,e⟩;by_cases f:y=0
 . subst f;simp at e;subst e;simp[c,d,show ¬(-(x:Int)) = -9223372036854775808 by omega,unA,show IntKind.i64.wrap (x:Int)=x from wr]
 have i:(-(x:Int)).tmod (-(y:Int)) = -((x%y:Nat):Int):=by
  rw[Int.tmod_neg,Int.neg_tmod,qCr (by omega)];omega
 simp[c,d,f,i];refine l (x%y) _ _ (qEi _ (by omega)) ⟨y,x%y,rfl,j,by have:=qEi x (show 0<y by omega);omega,by simp,by simp,?_⟩
 rwa[qEZ y,<- Nat.gcd_rec,qEZ]
def qrM(a b:Nat)(d:0<a)(hb:0<b)(u:a<=9223372036854775807)(h:b<=9223372036854775807):Pure prog GG 338 [.int .i64 a,.int .i64 b] (.tup [.int .i64 (Yo (Nat.lcm a b)).1,.int .i64 (Yo (Nat.lcm a b)).2]):=by
 have h1:=Z4 a (by omega) (by omega);have h2:=Z4 b (by omega) (by omega);rw[if_pos (by omega)]at h1 h2;have f:=qrO a b d hb u h;have j:=qE3 b d;have i:=qFq d (qEp a b);have c:a/Nat.gcd a b*b=Nat.lcm a b:=by
  unfold Nat.lcm;exact qFe (qEp a b) b
 have e:a/Nat.gcd a b<=a:=qDr _ _;obtain⟨g,s⟩:∃g,Nat.gcd a b=g:=⟨_,rfl⟩;obtain⟨q,m⟩:∃q,a/g=q:=⟨_,rfl⟩;obtain⟨l,t⟩:∃l,Nat.lcm a b=l:=⟨_,rfl⟩;rw[s]at j i c e f;rw[m]at c e;rw[t]at c⊢;have r:=qen (-(q:Int)) (-(b:Int)) l (by rw[Int.neg_mul_neg,<- c];simp) (by omega) (by omega) (by omega) (by omega);have o:(-(a:Int)).tdiv g = -(q:Int):=by
  rw[Int.neg_tdiv,qCT (by omega)];omega
 refine qFD func338 ?_;simp[show ¬a=0 by omega,show ¬b=0 by omega,show ¬(a:Int) = -9223372036854775808 by omega,show ¬(b:Int) = -9223372036854775808 by omega];refine qFG h1 ?_ rfl;simp;refine qFG f ?_ rfl;simp[show ¬g=0 by omega,o,show IntKind.i64.wrap (-(q:Int)) = -(q:Int) from wr];refine qFG h2 ?_ rfl;simp;refine qFG r ?_ rfl;simp
def qhQ(l)(B:Fits l)(width):Pure prog GG 337 [.sl 4 (l.map qC) .none,.int .i64 width] (.int .i64 (yB l width)):=by
 refine qFD func337 ?_;generalize a:yB l width=r;unfold yB at a;by_cases j:width<1\/8<width
 . rw[if_pos j]at a;subst a;rcases j with h|h
   . simp[h]
   have:¬width<1:=by omega
   simp[h,this]
 rw[if_neg j]at a;have h1:¬width<1:=by omega
 have h2:¬8<width:=by omega
 have y:IntKind.u64.wrap width=width:=wru (by omega) (by omega);have s:=quJ (w:=width) (by omega) (by omega);by_cases hb:16<l.length
 . rw[if_pos hb]at a;subst a;have o:(16:Int)<l.length:=(by omega);simp[h1,h2,o]
 rw[if_neg hb]at a;have o:¬(16:Int)<l.length:=by omega
 have z:2^width.toNat<=2^8:=qBF (by omega) (by omega);generalize 2^width.toNat=N at a s z;simp[h1,h2,o];refine qFW l (fun d ev σ=>ev 0=.sl 4 (l.map qC) .none/\ev 1=.int .i64 width/\ev 5=.int .i64 d.length/\d.any (qiK N)=false) ?_ ?_ ?_
 . simp
 . rintro d w rest ev σ R A hd t u ⟨b,g,f,i⟩;have v:qiK N w=true->r=1:=fun h=>by
    have x:¬l.length=0:=(by omega);have:l.any (qiK N)=true:=by rw[hd];simp[h]
    rw[if_neg x,if_pos this]at a;exact a.symm
   simp[-getElem?_pos,b,g,f,u,t,show ¬width<0 by omega,y,ye,s,show IntKind.i64.wrap ((d.length:Int)+1)=(d.length+1:Nat) by rw[wr];omega]
   repeat' first|(with_reducible refine And.intro ?_ ?_)|(intro _)
   all_goals first
    |exact(v (by unfold qiK;simp;omega)).symm
    |exact A _ _ ⟨by simp[b],by simp[g],by simp,by simp[qiK,i];omega⟩
 rintro ev σ ⟨b,g,f,i⟩;rw[if_neg (show ¬l.any (qiK N)=true by rw[i];simp)]at a;by_cases c:l.length=0
 . rw[if_pos c]at a;subst a;have m:=qBy c;simp[b,f,m]
 rw[if_neg c]at a;subst a;have m:l≠[]:=fun e=>c (by rw[e];rfl)
 simp[b,f,m]
def qjY(l)(S:l.length<=1000):Pure prog GG 312 [.sl 4 (l.map qC) .none]
 (.tup [.int .i64 (if yB l 8=0 then(zO l 1).1 else 0),.int .i64 (if yB l 8=0 then(zO l 1).2 else yB l 8)]):=by
 have P:=qhQ l (by unfold Fits;omega) 8;refine qFD func312 ?_;simp;refine qFG P ?_;by_cases h:yB l 8=0
 . have F:=(Qb h).1;simp[h];generalize A:zO l 1=r;refine qFW l (fun d ev σ=>ev 0=.sl 4 (l.map qC) .none/\ev 6=.int .i64 d.length/\∃s:Nat,ev 5=.int .i64 s/\0<s/\s<9223372036854775808/\zO (l.drop d.length) s=r) ?_ ?_ ?_
   . exact⟨by simp,by simp,1,by simp,by omega,by omega,by simpa using A⟩
   . rintro d w rest ev σ R O hd m y ⟨c,g,s,i,j,z,a⟩;have o:IntKind.i64.wrap ((d.length:Int)+1)=(d.length+1:Nat):=(by rw[wr];omega);obtain⟨w0,N,U,Q,T⟩:=F w (qBl m);rw[show l.drop d.length=w::l.drop (d.length+1) by rw[hd];simp]at a;have u:=Ke N;have M:(wsz w:Int)=w.hi-w.lo+1:=(by unfold wsz;omega);have B:IntKind.i64.wrap (w.hi-w.lo)=w.hi-w.lo:=wr;have C:IntKind.i64.wrap (w.hi-w.lo+1)=w.hi-w.lo+1:=wr;have x:=qrM s (wsz w) j u (by omega) (by omega);rw[M]at x;have v:=Nat.lcm_pos j u;have t:∀(b:Nat) (e:Env) (σ':St),0<b->b<9223372036854775808->zO (l.drop (d.length+1)) b=r->e 0=.sl 4 (l.map qC) .none->e 6=.int .i64 (d.length+1:Nat)->e 5=.int .i64 b->R e σ':=fun b e σ' E J D K I G=>
      O _ _ ⟨K,by simpa using I,b,G,E,J,by simpa using D⟩
     cases hea:w.each
     . simp only[zO,hea,qBP,if_false]at a;simp[-getElem?_pos,c,i,g,y,m,hea,B,C];refine qFG x ?_ rfl;generalize Nat.lcm s (wsz w)=L at a v⊢;by_cases f:L<9223372036854775808
       . rw[if_pos f]at a;simp[Yo,f,g,o];exact t L _ _ v f a (by simp[c]) (by simp) (by simp)
       rw[if_neg f]at a;subst a;simp[Yo,f]
     simp only[zO,hea,if_true]at a;simp[-getElem?_pos,c,g,y,m,hea,o];exact t s _ _ j z a (by simp[c]) (by simp) (by simp[i])
   rintro ev σ ⟨c,g,s,i,j,z,a⟩;rw[qCw]at a;simp only[zO]at a;subst a;simp[c,g,i]
 simp[h]
def qj2(l)(m:Fits l)(v):Pure prog GG 313 [.sl 4 (l.map qC) .none,.int .i64 v] (.int .i64 (zx (fun w:Weight=>decide (w.lo<=v)&&decide (v<=w.hi)) l 0)):=by
 refine qFD func313 ?_;generalize i:zx (fun w:Weight=>decide (w.lo<=v)&&decide (v<=w.hi)) l 0=r;simp;refine qFW l (fun d ev σ=>ev 0=.sl 4 (l.map qC) .none/\ev 1=.int .i64 v/\ev 5=.int .i64 d.length/\zx (fun w:Weight=>decide (w.lo<=v)&&decide (v<=w.hi)) (l.drop d.length) d.length=r) ?_ ?_ ?_
 . exact⟨by simp,by simp,by simp,by simpa using i⟩
 . rintro d w rest ev σ R j hd g h ⟨b,c,e,a⟩;rw[show l.drop d.length=w::l.drop (d.length+1) by rw[hd];simp]at a;simp only[zx]at a;by_cases f:w.lo<=v/\v<=w.hi
   . rw[if_pos (by simpa using f)]at a;subst a;simp[-getElem?_pos,b,c,e,h,g,f]
   rw[if_neg (by simpa using f)]at a;simp[-getElem?_pos,b,c,e,h,g,show IntKind.i64.wrap ((d.length:Int)+1)=(d.length+1:Nat) by rw[wr];omega]
   repeat' first|(with_reducible refine And.intro ?_ ?_)|(intro _)
   all_goals first
    |(exfalso;omega)
    |exact j _ _ ⟨by simp[b],by simp[c],by simp,by simpa using a⟩
 rintro ev σ ⟨b,c,e,a⟩;rw[qCw]at a;simp only[zx]at a;subst a;simp[-getElem?_pos,b,e]
def V6{α}(p):∀(l:List α) (i:Nat),(zx p l i = -1/\l.find? p=none)\/∃k w,zx p l i=((i+k:Nat):Int)/\l[k]?=some w/\l.find? p=some w
 |[],i=>.inl ⟨rfl,rfl⟩
 | a::r,i=>by
  by_cases h:p a=true
  . exact .inr ⟨0,a,by simp[zx,h],by simp,by simp[h]⟩
  have ih:=V6 p r (i+1);have e:zx p (a::r) i=zx p r ((i+1:Nat):Int):=by simp[zx,h]
  rw[e];rcases ih with⟨h1,h2⟩|⟨k,w,h1,h2,b⟩
  . exact .inl ⟨h1,by simp[h,h2]⟩
  exact .inr ⟨k+1,w,by rw[h1];congr 1;omega,by simpa using h2,by simp[h,b]⟩
def qhN(l)(x:l.length<=1000)(v):Pure prog GG 268 [.sl 4 (l.map qC) .none,.int .i64 v] (.tup [.int .i64 (zU l v).1,.int .i64 (zU l v).2]):=by
 have F:=qjY l x;have A:=qj2 l (by unfold Fits;omega) v;refine qFD func268 ?_;generalize a:zU l v=r;unfold zU at a;simp;refine qFG F ?_;by_cases h:yB l 8=0
 . have f:=(Qb h).1;rw[if_neg (by simp[h])]at a;rcases kr l 1 f (by omega) (by omega) with⟨h1,h2,t⟩|h1
   . rw[if_neg (by simp[h1])]at a;obtain⟨s,d⟩:∃s:Nat,(zO l 1).1=s:=⟨(zO l 1).1.toNat,by omega⟩;rw[d]at a h2 t;simp at a;simp[h,h1,d];refine qFG A ?_;have e:=V6 (fun w:Weight=>decide (w.lo<=v)&&decide (v<=w.hi)) l 0;simp only[qDK,qDb]at e;unfold vZ Yi at a;rcases e with⟨k1,b⟩|⟨k,w,k1,b,k3⟩
     . rw[b]at a;simp only at a;subst a;simp[k1]
     rw[k3]at a;simp only at a;obtain⟨w0,M,L,I,K⟩:=f w (qBl b);obtain⟨c,g⟩:∃c:Nat,w.weight=c:=⟨w.weight.toNat,by omega⟩;have E:w.hi-w.lo+1=(wsz w:Int):=(by unfold wsz;omega);have o:IntKind.i64.wrap (w.hi-w.lo+1)=wsz w:=(by rw[<- E];exact wr);have C:=qen c s (c*s) (by simp) (by omega) (by omega) (by omega) (by omega);have y:s/wsz w<=s:=qDr _ _;have D:w.weight.toNat=c:=(by omega);rw[D]at a;have j:¬((k:Int)<0):=(by omega);generalize J:wsz w=z at *;have G:¬z=0:=(by omega);obtain⟨q,i⟩:∃q,s/z=q:=⟨_,rfl⟩;have B:(s:Int)/z=q:=(by rw[<- i];simp);rw[i]at a y;have m:=qen c q (c*q) (by simp) (by omega) (by omega) (by omega) (by omega);have u:=wr (n:=q);cases hea:w.each
     . rw[hea]at a;simp only[qBP,if_false]at a;subst a;simp[k1,b,j,hea,g,show IntKind.i64.wrap (w.hi-w.lo)=w.hi-w.lo from wr,o,G,B,u];refine qFG m ?_ rfl;simp
     rw[hea]at a;simp only[if_true]at a;subst a;simp[k1,b,j,hea,g];refine qFG C ?_ rfl;simp
   rw[h1]at a;simp at a;subst a;simp[h,h1]
 rw[if_pos h]at a;subst a;simp[h]
def qiS(v x:Int)(a:Int)(d:Dist):Option Int :=
 if d.var≠v then some a
 else if(zU d.weights x).2≠0\/(0<(zU d.weights x).1/\1099511627776/(zU d.weights x).1<a) then none
 else some (a*(zU d.weights x).1)
def Kg(ds:List Dist)(v x:Int)(a:Option Int):Option Int:=ds.foldl (fun s d=>s.bind fun n=>qiS v x n d) a
def qmI(ds:List Dist)(a:List Int)(g:List Int):Option Int:=g.foldl (fun s v=>Kg ds v (a.getD v.toNat 0) s) (some 1)
def qpK(o:Option Int):Int×Bool:=match o with
 |some n=>(n,true)
 |none=>(0,false)
def ZN(ds v x):Kg ds v x none=none:=by
 unfold Kg
 induction ds with
 |nil=>rfl
 |cons d ds ih=>exact ih
def ZO(ds)(a:List Int)(g:List Int):g.foldl (fun s v=>Kg ds v (a.getD v.toNat 0) s) none=none:=by
 induction g with
 |nil=>rfl
 |cons v g ih=>rwa[qB2,ZN]
def Ve{v x a n d}(h0:0<=a)(h1:a<=1099511627776)(h:qiS v x a d=some n):0<=n/\n<=1099511627776:=by
 unfold qiS at h;split at h
 . cases h;exact⟨h0,h1⟩
 split at h
 . cases h
 rename_i h2;cases h;have c:=QG d.weights x;generalize (zU d.weights x).1=w at *;refine⟨Int.mul_nonneg h0 c,?_⟩;by_cases b:0<w
 . have e:¬1099511627776/w<a:=fun h=>h2 (.inr ⟨b,h⟩)
   exact(Int.le_ediv_iff_mul_le b).1 (by omega)
 have:w=0:=by omega
 rw[this];simp
def qmJ(p:Problem)(i:Nat)(g a:List Int)(X:p.groups[i]?=some g)(b0:g.length<=1000000)(Z:∀v∈g,0<=v/\v<(a.length:Nat))(hd:p.dists.length<=10000)(Y:∀d∈p.dists,d.weights.length<=1000):
 Pure prog GG 203 [.agg (qw p),.int .i64 i,.sl 1 (a.map qf) .none] (.tup [.int .i64 (qpK (qmI p.dists a g)).1,.bool (qpK (qmI p.dists a g)).2]):=by
 refine qFD func203 ?_;obtain⟨r,V⟩:∃r,r=qmI p.dists a g:=⟨_,rfl⟩;rw[<- V];simp;refine qFL (fun m ev σ=>∃k c,m=g.length-k/\k<=g.length/\0<=c/\c<=1099511627776/\ev 1=.int .i64 i/\ev 2=.sl 1 (a.map qf) .none/\ev 3=.ptr 0 0/\ev 8=.int .i64 c/\ev 9=.int .i64 k/\σ=⟨[.cells (qw p)],[]⟩/\r=(g.drop k).foldl (fun s v=>Kg p.dists v (a.getD v.toNat 0) s) (some c)) g.length ?_ ?_
 . exact⟨0,1,rfl,by omega,by omega,by omega,by simp,by simp,by simp,by simp,by simp,by simp,V⟩
 rintro m ev σ R hR ⟨k,c,rfl,hk,u,y,j,o,e,f,l,rfl,b⟩;by_cases a1:k<g.length
 case neg=>
  have a4:g.drop k=[]:=by simp;omega
  rw[a4]at b;have b:=b;have a3:¬(k:Int)<g.length:=by omega
  simp[j,e,f,l,X,a3,b,qpK]
 have hw:=wr (n:=(k:Int)+1);obtain⟨v,O⟩:∃v,g[k]?=some v:=⟨_,qBm a1⟩;obtain⟨v0,va⟩:=Z v (qBl O);obtain⟨w,rfl⟩:=qBG v0;obtain⟨x,P⟩:∃x,a[w]?=some x:=⟨_,qBm (by omega)⟩;rw[zn O,qB2]at b;simp only[qBU,List.getD,P,qES]at b;simp[j,e,l,X,show(k:Int)<g.length by omega,O];refine qFL (fun m ev σ=>∃q c,m=p.dists.length-q/\q<=p.dists.length/\0<=c/\c<=1099511627776/\ev 1=.int .i64 i/\ev 2=.sl 1 (a.map qf) .none/\ev 3=.ptr 0 0/\ev 8=.int .i64 c/\ev 9=.int .i64 k/\ev 10=.int .i64 w/\ev 11=.int .i64 q/\σ=⟨[.cells (qw p)],[]⟩/\r=(g.drop (k+1)).foldl (fun s v=>Kg p.dists v ((a[v.toNat]?).getD 0) s) (Kg (p.dists.drop q) w x (some c))) p.dists.length ?_ ?_
 . exact⟨0,c,rfl,by omega,u,y,by simp[j],by simp[o],by simp[e],by simp[f],by simp[l],by simp,by simp,by simp,b⟩
 rintro m ev σ R2 L ⟨q,c,rfl,hq,u,y,j,o,e,f,l,z,t,rfl,b⟩;by_cases a5:q<p.dists.length
 case neg=>
  rw[show p.dists.drop q=[] by simp;omega]at b;have B:¬(q:Int)<p.dists.length:=by omega
  simp[e,l,t,B,hw];exact hR (g.length-(k+1)) _ _ (by omega) ⟨k+1,c,rfl,by omega,u,y,by simp[j],by simp[o],by simp[e],by simp[f],by simp,by simp,b⟩
 have B:(q:Int)<p.dists.length:=by omega
 have J:=wr (n:=(q:Int)+1);obtain⟨d,C⟩:∃d,p.dists[q]?=some d:=⟨_,qBm a5⟩;have a2:=qBl C;have a6:=qhN d.weights (Y d a2) x;rw[zn C]at b;have a7:Kg (d::p.dists.drop (q+1)) w x (some c)=Kg (p.dists.drop (q+1)) w x (qiS w x c d):=rfl;rw[a7]at b;have K:=fun n=>Ve (v:=(w:Int)) (x:=x) (d:=d) (n:=n) u y
 have a8:=QG d.weights x;unfold qiS at b K;by_cases A:d.var=w
 case neg=>
  rw[if_pos A]at b;simp[e,z,t,B,C,A,J];exact L (p.dists.length-(q+1)) _ _ (by omega) ⟨q+1,c,rfl,by omega,u,y,by simp[j],by simp[o],by simp[e],by simp[f],by simp[l],by simp[z],by simp,by simp,b⟩
 rw[if_neg (by simp[A])]at b;simp only[A,ne_eq,not_true,if_false]at K;simp[o,e,z,t,B,C,A,P];refine qFG (G:=qW GG) a6 ?_;generalize (zU d.weights x).1=W at *;generalize (zU d.weights x).2=E at *;by_cases M:E=0
 case neg=>
  have N:r=none:=by rw[b,if_pos (.inl M),ZN];exact ZO _ _ _
  simp[M,N,qpK]
 subst M;by_cases I:0<W
 case neg=>
  have F:W=0:=by omega
  subst F;rw[if_neg (by simp),Int.mul_zero _]at b;simp[f,t,J,show IntKind.i64.wrap 0=0 by decide];exact L (p.dists.length-(q+1)) _ _ (by omega) ⟨q+1,0,rfl,by omega,by omega,by omega,by simp[j],by simp[o],by simp[e],by simp,by simp[l],by simp[z],by simp,by simp,b⟩
 have F:¬W=0:=by omega
 have U:(1099511627776:Int).tdiv W=1099511627776/W:=qCT (by omega);have a9:0<=(1099511627776:Int)/W/\(1099511627776:Int)/W<=1099511627776:=⟨Int.ediv_nonneg (by omega) (by omega),Int.ediv_le_self _ (by omega)⟩;have S:=wr (n:=(1099511627776:Int)/W);by_cases D:1099511627776/W<c
 . have N:r=none:=(by rw[b,if_pos (.inr ⟨I,D⟩),ZN];exact ZO _ _ _);simp[f,I,F,U,S,D,N,qpK]
 have T:¬((0:Int)≠0\/(0<W/\1099511627776/W<c)):=by
  rintro(h|h)
  . exact h rfl
  exact D h.2
 rw[if_neg T]at b;have Q:=K (c*W) (by rw[if_neg T]);have a0:=wr (n:=c*W);simp[f,t,I,F,U,S,D,J,a0];exact L (p.dists.length-(q+1)) _ _ (by omega) ⟨q+1,c*W,rfl,by omega,Q.1,Q.2,by simp[j],by simp[o],by simp[e],by simp,by simp[l],by simp[z],by simp,by simp,b⟩
def v1:Var:=⟨[97],1,2,0⟩
def quu:jS v1=0:=zJ wA v1 (by simp[p1,v1])
def qyq:QN p1 [[]] (1,0)=([1],[[1]],(1,1),0):=by
 have a:vV (Qm p1.vars [[]]) p1=(p1,[[]]):=by
  show WY (p1,[]) (v1,[])=_;unfold WY qiu;rw[if_pos (.inr rfl)];rfl
 unfold QN;rw[wA,qaz,a,qne];rw[show yt p1.vars [[]]=true by kernel_rfl];rfl
def qyp:QN p1 [[1]] (1,1)=([0],[[1,0]],(1,2),0):=by
 have a:=Vy (((qGb p1).add (K8 quu (by simp[v1,Fits]) [1]) (JJ (by simp[p1,v1]) quu [1])).valid wA) rfl rfl (by kernel_rfl);have c:vV (Qm p1.vars [[1]]) p1=(Zb p1 (VW v1 [1]),[[1]]):=by
  show WY (p1,[]) (v1,[1])=_;unfold WY qiu;dsimp only;rw[if_neg (by simp[v1]),a];rfl
 have b:zo (Zb p1 (VW v1 [1])) (1,1)=([0],(1,2),0):=by
  rw[QM a]
  kernel_rfl
 unfold QN;rw[wA,qaz,c,b];rw[show yt p1.vars [[1]]=true by kernel_rfl];rfl
def qyJ:Pure prog GG 14 [.int .i64 1] (.agg (qw p1)):=by
 refine qFC o0 false func14 ?_;simp[qV,zt,qx,qe,qp];simp[p1,ym,zl,Leq,qu,qn,qf,AV.atom]
def qr3:List (Nat×Sch×List Nat):=[(2,.step 0 [15,14,13,12,9,8,7,6,5,4] (.step 1 [15,14,13,12,9,8,7,6,5,4,2] (.step 2 [15,14,13,12,9,8,7,6,5,4] (.step 3 [15,14,13,12,9,8,7,6,5,4] (.step 4 [15,14,13,12,9,8,7,6,5] (.step 5 [15,14,13,12,9,8,7,6] (.step 6 [15,14,13,12] (.step 7 [15,14,13] (.step 8 [15,14] (.step 9 [15] (.fork (.cons 10 (.step 11 [15,14,13,12] (.step 12 [15,14,13] (.step 13 [15,14] (.step 14 [15] (.step 15 [] (.done)))))) (.cons 11 (.step 10 [15,14,13,12] (.step 12 [15,14,13] (.step 13 [15,14] (.step 14 [15] (.step 15 [] (.done)))))) (.nil))))))))))))),[])]
def qwi:Pure prog GG 6 [] (.bool true):=by
 refine qFC ⟨false,qr3,[],[]⟩ false func6 ?_;have g:VQ p1:=by
  refine⟨by simp[p1],by simp[p1,Fits],by simp[p1],by simp[p1],by simp[p1],by simp[p1,Fits],by simp[p1],by simp[p1,Fits],by simp[p1,Fits]⟩
 have h:∀c:List (List Int),c.length<=100->(∀l∈c,l.length<=100)->CycH p1 c:=fun c h1 h2=>
  ⟨g,by simp[p1],by simp[p1],fun _=>by simp[p1,NG],by unfold qI;rw[if_neg (by simp[wA])];decide,by simp[p1],by simp[p1],by simp[p1],by omega,fun l a=>by have:=h2 l a;omega,fun _ v i _=>by simp[p1]at i;subst i;decide⟩
 have e:=qrq p1 (by simp[p1]);have d:=qe0 p1 [[]] (h _ (by simp) (by simp)) (1,0);have b:=qe0 p1 [[1]] (h _ (by simp) (by simp)) (1,1);rw[qyq]at d;rw[qyp]at b;have a:=qvw p1 [[1]] 0 g ⟨by simp[Fits],by simp[Fits]⟩;have f:=qjm p1 [[1,0]] g ⟨by simp[Fits],by simp[Fits]⟩;have el:JL p1 [[1]] 0=[0]:=by
  unfold JL ZP;rw[wA,show yt p1.vars [[1]]=true by kernel_rfl];rfl
 have ev:ZP p1 [[1,0]]=true:=by
  unfold ZP;rw[wA,show yt p1.vars [[1,0]]=true by kernel_rfl];rfl
 rw[el]at a;rw[ev]at f;simp;refine qFG qyJ ?_ rfl;have j:qw p1=[.sl 4 [[.str [97],.int .i64 1,.int .i64 2,.int .i64 0]] .none,.sl 4 [] .none,.sl 4 [] .none,.sl 2 [] .none,.sl 1 [[.sl 1 [[.int .i64 0]] .none]] .none]:=rfl;rw[j]at e d b a f⊢;simp;have m:ZG (List.replicate p1.vars.length [])=jp [[]]:=rfl;rw[m]at e;simp only[qng,jp,jt,qn,qf,qBz,qBS]at e d b a f;rw[qG rfl];simp[qX];refine qFG e ?_ rfl;simp[qX,qV,zt,qx];refine qFG d ?_ rfl;simp[qX]
 repeat' with_reducible refine And.intro ?_ ?_
 all_goals
  refine qFG b ?_ rfl;simp;refine qFG a ?_ rfl;simp;rw[wd (by rfl)];simp[show IntKind.i64.wrap 1=1 from wr];refine qFG f ?_ rfl;simp
def qi2{l:List Var}{a:List Int}{i:Nat}{v:Var}{x:Int}(h:l[i]?=some v)(h':a[i]?=some x):(l.zip a)[i]?=some (v,x):=(qCA (z:=(v,x))).2 ⟨h,h'⟩
def qfe{l a}(h:¬a.length=l.length):qT l a=false:=by simp[qT,h]
def qdB{l:List Var}{a:List Int}{i:Nat}{v:Var}{x:Int}(h:l[i]?=some v)(h':a[i]?=some x)(hb:jE (v,x)=false):qT l a=false:=by
 unfold qT;rw[qfk (qBl (qi2 h h')) hb,qDz]
def qbr{l a i}(c:a.length=l.length)(hi:l.length<=i)(b:∀q∈(l.zip a).take i,jE q=true):qT l a=true:=by
 unfold qT;rw[decide_eq_true c,qCC];exact qbB (by simp;omega) b
def qhs{v}(h:jS v=0):1<=v.width/\v.width<=8:=(zb h).2
def qhS(p a)(h:VP p)(B:Fits a):Pure prog GG 153 [.agg (qw p),.sl 1 (a.map qf) .none] (.bool (decide (qg p=0)&&qT p.vars a)):=by
 refine qF6 func153 ?_;have j:=qrb p h;simp at j;generalize b:(decide (qg p=0)&&qT p.vars a)=r;simp;refine qFQ j ?_;by_cases h0:qg p=0
 . have z:=qd6 h0;rw[decide_eq_true h0,qCC]at b;by_cases o:a.length=p.vars.length
   . simp[*];refine qF3 (fun n ev σ=>∃i l,i<=p.vars.length/\n=p.vars.length-i/\ev 1=.sl 1 (a.map qf) .none/\ev 2=.ptr 0 0/\ev 5=.int .i64 i/\σ=⟨.cells (qw p)::l,[]⟩/\∀q∈(p.vars.zip a).take i,jE q=true) p.vars.length ⟨0,[],by simp⟩ ?_;rintro n ev σ ⟨i,l,hi,rfl,h1,h2,A,rfl,f⟩
     cases hvi:p.vars[i]? with
     | some v=>
      obtain⟨u,F⟩:=qBk.1 hvi;have m:i<a.length:=(by omega);obtain⟨x,e⟩:∃x,a[i]?=some x:=⟨_,qBm m⟩;have C:=(qBk.1 e).2;obtain⟨y,s⟩:=qhs (z v (qBl hvi));have E:IntKind.i64.wrap (2^min v.width.toNat IntKind.i64.bits)=2^v.width.toNat:=qys y s;have D:¬v.width<0:=(by omega);have bad:jE (v,x)=false->r=false:=fun hb=>by rw[<- b];exact qdB hvi e hb
      have good:jE (v,x)=true->∀q∈(p.vars.zip a).take (i+1),jE q=true:=fun w=>zf (p:=fun q=>jE q=true) (qi2 hvi e) f w
      by_cases c4:v.mode=0/\¬x=v.value
      . rw[bad (by simp only[jE];rw[decide_eq_true c4.1,decide_eq_false c4.2];simp)];simp[*,qB8,c4.1,c4.2]
      by_cases c1:x<0
      . rw[bad (by simp only[jE];rw[decide_eq_false (by omega:¬0<=x)];rfl)];by_cases c3:v.mode=0
        . have c:=Classical.byContradiction fun d=>c4 ⟨c3,d⟩
          subst c;simp[*,qB8]
        simp[*,qB8]
      by_cases c2:(2:Int)^v.width.toNat<=x
      . rw[bad (by simp only[jE];rw[decide_eq_false (by omega:¬x<2^v.width.toNat)];simp)];by_cases c3:v.mode=0
        . have c:=Classical.byContradiction fun d=>c4 ⟨c3,d⟩
          subst c;simp[*,qB8]
        simp[*,qB8]
      by_cases c3:v.mode=0
      . have c:=Classical.byContradiction fun d=>c4 ⟨c3,d⟩
        have g:=good (by simp only[jE];rw[decide_eq_true (by omega:0<=x),decide_eq_true (by omega:x<2^v.width.toNat),decide_eq_true c];simp);subst c;simp[*,qB8];exact⟨_,by omega,i+1,by omega,rfl,wr,by simpa using g⟩
      have g:=good (by simp only[jE];rw[decide_eq_true (by omega:0<=x),decide_eq_true (by omega:x<2^v.width.toNat),decide_eq_false c3];simp);simp[*,qB8];exact⟨_,by omega,i+1,by omega,rfl,wr,by simpa using g⟩
     | none=>
      have t:p.vars.length<=i:=(by simpa using hvi);have u:¬i<p.vars.length:=(by omega);have m:¬i<a.length:=(by omega);rw[qbr o t f]at b;subst b;simp[*]
   rw[qfe o]at b;subst b;simp[h0,show ¬(a.length:Int)=p.vars.length by omega]
 rw[decide_eq_false h0,qDy]at b;subst b;simp[h0]
def qta{p c}(h:VM p)(e:wb p=true)(C:c.length<=6)(o:∀l∈c,l.length<=40):CycH p c:=by
 simp only[wb,qBq,decide_eq_true_eq,qBx]at e;obtain⟨⟨⟨⟨⟨⟨s,B⟩,A⟩,f⟩,g⟩,z⟩,m⟩:=e;have i:qg p=0->kj p.vars (qI p)<=7:=fun a=>by simpa[a] using m
 have u:kj p.vars (qI p)<=18:=by
  by_cases a:qg p=0
  . have:=i a;omega
  unfold qI;rw[if_pos a];simp[kj]
 refine⟨h.q s f g,by have:=(yd f).1;omega,by omega,fun a=>qCq (qg7 a) (by omega),u,by omega,by have:=(yd g).1;omega,fun d hd=>by have:=z d hd;omega,by omega,fun l w=>by have:=o l w;omega,fun a v r D=>?_⟩;have j:=i a;rw[(Jw a (by omega)).1]at j;have t:∀(l:List Nat) (x:Nat),x∈l->x<=l.sum:=by
  intro l
  induction l with
  |nil=>intro x b;cases b
  | cons y l ih=>
   intro x b;rw[qDv];rcases qBN.1 b with rfl|b
   . omega
   have:=ih x b;omega
 have:=t _ _ (qBH.2 ⟨v,r,rfl⟩:qfa v∈p.vars.map qfa);rw[show qfa v=v.width.toNat by unfold qfa;rw[if_neg (by omega)]]at this;omega
def qya{p}(h:VM p)(c:wb p=true)(f:qg p=0):VP p:=by
 simp only[wb,qBq,decide_eq_true_eq,qBx]at c;obtain⟨⟨⟨⟨⟨⟨e,j⟩,g⟩,b⟩,d⟩,l⟩,i⟩:=c;have a:=h.q e b d;have h1:=(yd b).1;have h2:=(yd d).1;refine⟨by omega,a.names,by omega,by omega,a.exprs,a.dists,a.weights,a.groups,a.group,?_⟩;have:=JQ f;omega
