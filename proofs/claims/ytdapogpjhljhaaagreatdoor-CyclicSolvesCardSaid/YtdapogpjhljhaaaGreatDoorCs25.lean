import Derived.Test.YtdapogpjhljhaaaGreatDoorCs24
set_option maxRecDepth 100000
set_option maxHeartbeats 16000000
set_option linter.all false
set_option linter.defProp false
namespace Go.Abs
def setB(b:Nat->Bool)(L:Nat)(v:Bool):Nat->Bool:=fun l=>if l=L then v else b l
def qiY:Nat->List (List Bool)
 |0=>[[]]
 |n+1=>(qiY n).map (false::·)++(qiY n).map (true::·)
def Kc:∀{n:Nat}{l:List Bool},l∈qiY n↔l.length=n
 |0,l=>by simp[qiY]
 |n+1,[]=>by simp[qiY]
 | n+1,b::l=>by
  cases b<;>simp[qiY,Kc]
def qae:∀n,(qiY n).Nodup
 |0=>by simp[qiY]
 | n+1=>by
  have h:=qae n;rw[qiY,List.nodup_append];refine⟨?_,?_,?_⟩
  . exact List.Pairwise.map _ (fun a b c e=>c (List.cons.inj e).2) h
  . exact List.Pairwise.map _ (fun a b c e=>c (List.cons.inj e).2) h
  intro a d b hb e;obtain⟨x,-,rfl⟩:=List.mem_map.1 d;obtain⟨y,-,rfl⟩:=List.mem_map.1 hb;cases e
def qxM(l:List Bool):Nat->Bool:=fun i=>l.getD i false
end Go.Abs
namespace Go.Proofs.YtdapogpjhljhaaaGreatDoor
open Go Go.Abs Proofs.Tryz Go.ChangeShapes Go.WideShapes Go.ChangeAt Go.RowKit
def qaf:∀vs:List Var,(yS vs).Nodup
 |[]=>by simp[yS]
 | v::vs=>by
  have ih:=qaf vs;have c:∀x:Int,((yS vs).map (x::·)).Nodup:=fun x=>qDG.2 (ih.imp fun h e=>h (List.cons.inj e).2)
  by_cases h:v.mode=0
  . rw[qbD h];exact c _
  rw[qbE h];refine List.pairwise_flatMap.2 ⟨fun n _=>c _,(List.nodup_range (n:=zG v)).imp fun {a b} f x d y g e=>?_⟩;obtain⟨x',-,rfl⟩:=qBH.1 d;obtain⟨y',-,rfl⟩:=qBH.1 g;have:=(List.cons.inj e).1;exact f (by omega)
def qwD{p}:∀(l) (x),x<LW p l->∃k i,l[k]?=some i/\LW p (l.take k)<=x/\x<LW p (l.take k)+jG p i
 |[],x,h=>by simp[LW]at h
 | i::l,x,h=>by
  by_cases a:x<jG p i
  . exact⟨0,i,rfl,by simp[LW],by simpa[LW] using a⟩
  have h2:LW p (i::l)=jG p i+LW p l:=by simp[LW]
  obtain⟨k,j,b,d,c⟩:=qwD (p:=p) l (x-jG p i) (by omega);refine⟨k+1,j,by simpa using b,?_,?_⟩
  . rw[qC6,show LW p (i::l.take k)=jG p i+LW p (l.take k) by simp[LW]];omega
  rw[qC6,show LW p (i::l.take k)=jG p i+LW p (l.take k) by simp[LW]];omega
def qty{p l k i}(h:l[k]?=some i):LW p (l.take k)+jG p i<=LW p l:=by
 have e:l=l.take k++i::l.drop (k+1):=by
  obtain⟨h1,h2⟩:=qBk.1 h;have:=qB9 k l;rw[qBE h1,h2]at this;exact this.symm
 have:=congrArg (LW p) e;rw[qg9,show LW p (i::l.drop (k+1))=jG p i+LW p (l.drop (k+1)) by simp[LW]]at this;omega
def qiN{p}(d:qg p=0){b c}(h:∀l,l<LW p (NG p).flatten->b l=c l):Zi p.vars (qS p) b=Zi p.vars (qS p) c:=by
 have m:=fun b=>(kD.1 (qbt d b)).len
 apply qCg;intro i;by_cases hi:i<p.vars.length
 . obtain⟨v,a⟩:∃v,p.vars[i]?=some v:=⟨_,qBm hi⟩;by_cases f:v.mode=0
   . rw[qbs b a f,qbs c a f]
   rw[vK d b a f,vK d c a f];obtain⟨k,g⟩:=qB1 (qaF d a f);have e:YN p b i=YN p c i:=Vj fun j o=>h _ (by
    rw[qcO d g];have:=qty (p:=p) g;omega)
   rw[e]
 rw[qBW (by rw[m];omega),qBW (by rw[m];omega)]
def qpr{p}(a:qg p=0){b c}(h:Zi p.vars (qS p) b=Zi p.vars (qS p) c):∀l,l<LW p (NG p).flatten->b l=c l:=by
 intro l m;obtain⟨k,i,d,h1,h2⟩:=qwD _ l m;obtain⟨v,g,o⟩:=km a (qBl d);have e:=vK a b g o;rw[h,vK a c g o]at e;have r:YN p b i=YN p c i:=by
  have:=Option.some.inj e;omega
 have m:=qcO a d;have f1:=Ko r (j:=l-JK (qS p) i) (by omega);have f:=Ko (rfl:YN p c i=YN p c i) (j:=l-JK (qS p) i) (by omega);rw[show JK (qS p) i+(l-JK (qS p) i)=l by omega]at f1 f;rw[f1,f]
def qpl(n b){l}(a:l<n):qxM ((List.range n).map b) l=b l:=by
 unfold qxM;rw[qBw,qBO,qD6 a];rfl
def qg0{p}(c:qg p=0):((qiY (LW p (NG p).flatten)).map fun s=>Zi p.vars (qS p) (qxM s)).Perm (yS p.vars):=by
 refine(List.perm_ext_iff_of_nodup ?_ (qaf _)).2 fun a=>?_
 . refine qDG.2 (List.Pairwise.imp_of_mem (fun {s t} f g d e=>d ?_) (qae _));have m:=Kc.1 f;have lt:=Kc.1 g;apply qCg;intro i;by_cases hi:i<LW p (NG p).flatten
   . have:=qpr c e i hi;unfold qxM at this;rw[qBw,qBw]at this;rw[qBm (by omega),qBm (by omega)]at this⊢;exact congrArg some (by simpa using this)
   rw[qBW (by omega),qBW (by omega)]
 constructor
 . intro h;obtain⟨s,-,rfl⟩:=qBH.1 h;exact qbt c _
 intro h;obtain⟨b,hb,-⟩:=qdC c h;refine qBH.2 ⟨(List.range (LW p (NG p).flatten)).map b,Kc.2 (by simp),?_⟩;rw[<- hb];exact qiN c fun l j=>qpl _ b j
def qbC:∀n,(qiY n).length=2^n
 |0=>rfl
 |n+1=>by rw[qiY,qBp,qBT,qBT,qbC n,qDA];omega
def qtA{p}(a:qg p=0)(c:p.vars.length<=1000):(LW p (NG p).flatten:Int)=kj p.vars (qI p):=by
 obtain⟨h1,h2⟩:=Jw a c;have b:=(qg0 a).length_eq;rw[qBT,qbC,h2]at b;have:LW p (NG p).flatten=(p.vars.map qfa).sum:=by
  rcases Nat.lt_trichotomy (LW p (NG p).flatten) (p.vars.map qfa).sum with h|h|h
  . have:=Nat.pow_lt_pow_right (by decide:1<2) h;omega
  . exact h
  have:=Nat.pow_lt_pow_right (by decide:1<2) h;omega
 rw[h1,this]
structure RnH(p):Prop where
 q:VQ p
 v20:p.vars.length<=20
 bits:kj p.vars (qI p)<=18
 dl:p.dists.length<=10000
 sl:p.soft.length<=10000
 wl:∀d∈p.dists,d.weights.length<=1000
def RnH.LW{p}(h:RnH p)(a:qg p=0):LW p (NG p).flatten<=18:=by
 have h1:=qtA a h.q.vars;have h2:=h.bits;omega
def RnH.all{p}(h:RnH p)(b:qg p=0):(yS p.vars).length<=2^18:=by
 have a:=(qg0 b).length_eq;rw[qBT,qbC]at a;rw[<- a];exact qBF (by omega) (h.LW b)
noncomputable def wR(p:Problem)(gi:Int)(a:List Int):Int×Int:=if(qt p).2≠0 then(0,(qt p).2) else Jx p gi a
noncomputable def qe4(p:Problem)(gi:Int)(a:List Int)(k:Int):List Int×Int :=
 if(wR p gi a).2≠0 then([],(wR p gi a).2) else if k<0\/(wR p gi a).1<=k then([],12) else(ky p gi.toNat a k,0)
def qm4(p R fx g c):WW p R fx g c<=lim:=by
 cases g with
 |nil=>unfold WW lim;split<;>omega
 | cons i r=>
  unfold WW;split
  . exact kd _ _ _ (qDj _)
  exact qDj _
def qfz{p gi a}(h:(Jx p gi a).2=0):0<=gi/\gi.toNat<(NG p).length/\qT p.vars a=true/\1<=(Jx p gi a).1/\(Jx p gi a).1<lim:=by
 unfold Jx at h⊢;split at h
 . cases h
 rename_i b;rw[if_neg b];split at h
 . cases h
 rename_i h0;rw[if_neg h0];split at h
 . cases h
 rename_i h1;rw[if_neg h1];have c:qat p (fun _=>none) a gi.toNat<=lim:=qm4 _ _ _ _ _;refine⟨?_,?_,?_,?_,?_⟩
 . exact qFm.1 fun e=>b (.inl e)
 . have:¬gi<0:=fun e=>b (.inl e)
   have:¬((NG p).length:Int)<=gi:=fun e=>b (.inr (.inl e))
   omega
 . cases hA:qT p.vars a with
   |true=>rfl
   |false=>exact absurd (.inr (.inr hA)) b
 . dsimp only;omega
 dsimp only;omega
def qyL:Ex:=.mk 17 0 [] [wO [97],wO [98]]
def p2(b:Bool):Problem:={vars:=[⟨[97],2,1,0⟩,⟨[98],2,1,0⟩],hard:=[qyL],soft:=[],dists:=[],groups:=if b then [[0],[1]] else [[0,1]]}
def qhf{ds v x}:∀{a n:Int},0<=a->a<=1099511627776->Kg ds v x (some a)=some n->0<=n/\n<=1099511627776:=by
 induction ds with
 |nil=>intro a n h0 h1 h;cases h;exact⟨h0,h1⟩
 | cons d ds ih=>
  intro a n h0 h1 h;change Kg ds v x (qiS v x a d)=some n at h
  cases hw:qiS v x a d with
  |none=>rw[hw,ZN]at h;cases h
  | some m=>
   rw[hw]at h;have:=Ve h0 h1 hw;exact ih this.1 this.2 h
def qhg{ds}{a:List Int}:∀{g:List Int}{b n:Int},0<=b->b<=1099511627776->g.foldl (fun s v=>Kg ds v (a.getD v.toNat 0) s) (some b)=some n->0<=n/\n<=1099511627776:=by
 intro g
 induction g with
 |nil=>intro b n h0 h1 h;cases h;exact⟨h0,h1⟩
 | cons v g ih=>
  intro b n h0 h1 h;rw[qB2]at h
  cases hw:Kg ds v (a.getD v.toNat 0) (some b) with
  |none=>rw[hw,ZO]at h;cases h
  | some m=>
   rw[hw]at h;have:=qhf h0 h1 hw;exact ih this.1 this.2 h
def Vd{ds a g n}(h:qmI ds a g=some n):0<=n/\n<=1099511627776:=qhg (by omega) (by omega) h
def qdT(ds:List Dist)(g:List Int):List (List Int)->List Int->Int->Option (List Int×Int)
 |[],out,sum=>some (out,sum)
 | x::r,out,sum=>match qmI ds x g with
  |none=>none
  |some w=>if 1099511627776-w<sum then none else qdT ds g r (out++[w]) (sum+w)
def qpI(o:Option (List Int×Int)):List Int×Int×Bool:=match o with
 |some q=>(q.1,q.2,true)
 |none=>([],0,false)
def qhh(p:Problem)(i:Nat)(g:List Int)(l:List (List Int))(V:p.groups[i]?=some g)(K:g.length<=1000000)(N:∀x∈l,∀v∈g,0<=v/\v<(x.length:Nat))(hd:p.dists.length<=10000)(W:∀d∈p.dists,d.weights.length<=1000)(Y:l.length<=1000000):
 Pure prog GG 155 [.agg (qw p),.sl 1 (l.map qn) .none,.int .i64 i] (.tup [.sl 1 ((qpI (qdT p.dists g l [] 0)).1.map qf) .none,.int .i64 (qpI (qdT p.dists g l [] 0)).2.1,.bool (qpI (qdT p.dists g l [] 0)).2.2]):=by
 refine qFD func155 ?_;obtain⟨y,E⟩:∃y,y=qdT p.dists g l [] 0:=⟨_,rfl⟩;rw[<- E];have I:=fun x (c:x∈l)=>qmJ p i g x V K (N x c) hd W
 simp only[qw]at I;simp;refine qFW l (fun d ev σ=>∃out sum,ev 1=.sl 1 (l.map qn) .none/\ev 2=.int .i64 i/\ev 3=.ptr 0 0/\ev 9=wN 1 qf 0 out/\ev 10=.int .i64 sum/\ev 11=.int .i64 d.length/\σ=⟨[.cells (qw p)],jP [] out⟩/\0<=sum/\sum<=1099511627776/\out.length=d.length/\y=qdT p.dists g (l.drop d.length) out sum) ?_ ?_ ?_
 . exact⟨[],0,by simp,by simp,by simp,by simp,by simp,by simp,by simp[qw],by omega,by omega,rfl,by simpa using E⟩
 . rintro d x rest ev σ R U a0 c X ⟨out,sum,f,j,r,A,u,e,rfl,J,S,C,b⟩;have L:=wr (n:=(d.length:Int)+1);have z:(d.length:Int)<l.length:=(by omega);have B:=I x (qBl c);have P:l.drop d.length=x::l.drop (d.length+1):=by
    obtain⟨h1,h2⟩:=qBk.1 c;rw[qBE h1,h2]
   rw[P]at b;unfold qdT at b;have O:=fun n h=>Vd (ds:=p.dists) (a:=x) (g:=g) (n:=n) h
   generalize qmI p.dists x g=o at *;have Q:∀(H:List Blk) (s:List Int),s.length<2^30->∀n,qm (Dof prog) ⟨H,jP [] s⟩ 36 (wN 1 qf 0 s) (.sl 1 [[.int .i64 n]] .tight)=some (wN 1 qf 0 (s++[n]),⟨H,jP [] (s++[n])⟩):=fun H s hs n=>
    yg (D:=Dof prog) (sz:=1) (T:=[]) (H:=H) (m:=[n]) (en:=qf) D36 rfl D3 rfl (by decide) rfl (by decide) (by simp only[qBR];omega) 1 (.inl rfl)
   cases o with
   | none=>
    simp[f,j,r,e,z,c,qw,qn];refine qFG (G:=qW GG) B ?_;simp[qpK,unA,b,qpI]
   | some w=>
    obtain⟨w0,Z⟩:=O w rfl;have F:=wr (n:=(1099511627776:Int)-w);dsimp only at b;by_cases t:1099511627776-w<sum
    . rw[if_pos t]at b;simp[f,j,r,e,z,c,qw,qn];refine qFG (G:=qW GG) B ?_;simp[qpK,unA,u,F,t,b,qpI]
    rw[if_neg t]at b;have M:=wr (n:=sum+w);simp[f,j,r,e,z,c,qw,qn];refine qFG (G:=qW GG) B ?_;simp[qpK,unA,A,u,e,F,t,qe,qp,Q _ _ (show out.length<2^30 by omega),M,L];exact U _ _ ⟨out++[w],sum+w,by simp[f],by simp[j],by simp[r],by simp,by simp,by simp,by simp[qw],by omega,by omega,by simp[C],by rw[qBp];exact b⟩
 rintro ev σ ⟨out,sum,f,j,r,A,u,e,rfl,J,S,C,b⟩;have:y=some (out,sum):=by rw[b,qCw];rfl
 subst this;simp[-fin,-kw,-w9,f,A,u,e,qpI]
noncomputable def kb(p:Problem)(gi:Int)(a:List Int):List (List Int)×List Int×Int×Int :=
 if(Jz p).2≠0 then([],[],0,(Jz p).2)
 else if gi<0\/(p.groups.length:Int)<=gi\/(decide (qg p=0)&&qT p.vars a)=false then([],[],0,1)
 else if jh p.groups gi.toNat (p.groups.getD gi.toNat []) a (Jz p).1=[] then([],[],0,11)
 else match qdT p.dists (p.groups.getD gi.toNat []) (jh p.groups gi.toNat (p.groups.getD gi.toNat []) a (Jz p).1) [] 0 with
  |none=>([],[],0,3)
  |some q=>(jh p.groups gi.toNat (p.groups.getD gi.toNat []) a (Jz p).1,q.1,q.2,0)
def Ys{G i g a v l}(h:v∈jh G i g a l):v∈l:=by
 have:∀(l out:List (List Int)),v∈l.foldl (vP G i g a) out->v∈out\/v∈l:=by
  intro l
  induction l with
  |nil=>intro out h;exact .inl h
  | cons x l ih=>
   intro out h;rw[qB2]at h;rcases ih _ h with h|h
   . rcases qce h with h|h
     . exact .inl h
     . exact .inr (by simp[h])
   exact .inr (by simp[h])
 rcases this l [] h with h|h
 . cases h
 exact h
def Yt{G i g a l}:(jh G i g a l).length<=l.length:=by
 have:∀(l out:List (List Int)),(l.foldl (vP G i g a) out).length<=out.length+l.length:=by
  intro l
  induction l with
  |nil=>intro out;simp
  | cons x l ih=>
   intro out;rw[qB2,qBB];have h1:=ih (vP G i g a out x);have h2:=qcf (G:=G) (i:=i) (g:=g) (a:=a) (x:=x) (out:=out);omega
 have:=this l [];unfold jh;simpa using this
def VA(p)(h:RfH p)(N:VP p)(s:RnH p)(gi a)(P:Fits a):
 Pure prog GG 105 [.agg (qw p),.int .i64 gi,.sl 1 (a.map qf) .none] (.tup [.sl 1 ((kb p gi a).1.map qn) .none,.sl 1 ((kb p gi a).2.1.map qf) .none,.int .i64 (kb p gi a).2.2.1,.int .i64 (kb p gi a).2.2.2]):=by
 refine qFD func105 ?_;obtain⟨K,b⟩:∃K,K=kb p gi a:=⟨_,rfl⟩;rw[<- b];unfold kb at b;have d:=qzu p h s.bits;have j:=qhS p a N P;simp only[qw]at d j;by_cases l:(Jz p).2=0
 case neg=>
  rw[if_pos l]at b;simp;refine qFG (G:=qW GG) d ?_;simp[l,b]
 rw[if_neg (fun e=>e l)]at b;rw[l]at d;by_cases h0:gi<0
 . rw[if_pos (.inl h0)]at b;simp;refine qFG (G:=qW GG) d ?_;simp[h0,b]
 by_cases h1:(p.groups.length:Int)<=gi
 . rw[if_pos (.inr (.inl h1))]at b;simp;refine qFG (G:=qW GG) d ?_;simp[h0,h1,b]
 cases hA:(decide (qg p=0)&&qT p.vars a) with
 | false=>
  rw[if_pos (.inr (.inr hA))]at b;rw[hA]at j;simp;refine qFG (G:=qW GG) d ?_;simp[h0,h1];refine qFG (G:=qW GG) j ?_;simp[unA,b]
 | true=>
  rw[hA]at j;have J:=hA;rw[qBq,decide_eq_true_eq]at J;obtain⟨i,has⟩:=J;rw[if_neg (by rw[hA];simp;omega)]at b;obtain⟨g,rfl⟩:=qBG (by omega:0<=gi);rw[qBU]at b;obtain⟨G,r⟩:∃G,p.groups[g]?=some G:=⟨_,qBm (by omega)⟩;rw[show p.groups.getD g []=G by rw[qBw,r];rfl]at b;have A:=(J4 i has).1;have E:=h.vq.vars;have z:=qBl r;have u:∀g∈p.groups,g.length<=1000000/\∀v∈g,0<=v/\v<(p.vars.length:Nat):=fun f m=>by
   have O:=J7 i E;have h1:=O.1 (f.map Int.toNat) (qBH.2 ⟨f,m,rfl⟩);rw[qBT]at h1;refine⟨by omega,fun v y=>?_⟩;obtain⟨n,w,R,M,_⟩:=Zn ((jI i).2.1 _ (qB3.2 ⟨f,m,y⟩));have:=(qBk.1 M).1;omega
  have F:∀x∈(Jz p).1,x.length=p.vars.length:=fun x c=>by
   unfold Jz at c;split at c
   . exact(kD.1 (qCk.1 c).1).len
   cases c
  have I:(Jz p).1.length<=1000000:=by
   have h2:=s.all i;unfold Jz;split
   . exact qCq (qCP _ _) (by omega)
   simp
  have Q:p.groups.length<=10000000:=by
   have:=(J7 i E).2;rw[NG,qBT]at this;omega
  have B:=qiB p (Jz p).1 g G a r I Q (fun f m=>by rw[A];exact u f m) (fun x c=>by rw[A];exact F x c);have D:=qhh p g G (jh p.groups g G a (Jz p).1) r (u G z).1 (fun x c v y=>by rw[(fun x c=>F x (Ys c)) x c];exact(u G z).2 v y) h.dists s.wl (qCq Yt I);simp only[qw]at B D;generalize jh p.groups g G a (Jz p).1=C at *;generalize (Jz p).1=L at *;simp;refine qFG (G:=qW GG) d ?_;simp[h0,h1];refine qFG (G:=qW GG) j ?_;simp[unA];refine qFG (G:=qW GG) B ?_;by_cases t:C=[]
  . subst t;rw[if_pos rfl]at b;simp[b]
    try simp[Leq,zl]
  rw[if_neg t]at b;simp[t];refine qFG (G:=qW GG) D ?_;generalize qdT p.dists G C [] 0=o at *
  cases o with
  | none=>
   simp[qpI,unA,b]
   try simp[Leq,zl]
  | some q=>
   simp[qpI,unA,b]
def qri(p)(h:RfH p)(d:VP p)(c:RnH p)(gi a)(e:Fits a):
 Pure prog GG 65 [.agg (qw p),.int .i64 gi,.sl 1 (a.map qf) .none] (.tup [.int .i64 (kb p gi a).2.2.1,.int .i64 (kb p gi a).2.2.2]):=by
 refine qFD func65 ?_;have b:=VA p h d c gi a e;generalize kb p gi a=q at *;simp only[qw]at b;simp;refine qFG (G:=qW GG) b ?_;simp
def atW:List Int->Int->Nat
 |[],_=>0
 |w::r,k=>if k<w then 0 else atW r (k-w)+1
def qdM(c:List Int)(G:List Int)(a:List Int):List Int:=G.foldl (fun o v=>o.set v.toNat (c.getD v.toNat 0)) a
noncomputable def vI(p:Problem)(gi:Int)(a:List Int)(k:Int):List Int×Int :=
 if(kb p gi a).2.2.2≠0 then([],(kb p gi a).2.2.2)
 else if k<0\/(kb p gi a).2.2.1<=k then([],12)
 else(qdM ((kb p gi a).1.getD (atW (kb p gi a).2.1 k) []) (p.groups.getD gi.toNat []) a,0)
def qfn{ds g}:∀{l:List (List Int)}{out:List Int}{sum:Int}{q:List Int×Int},qdT ds g l out sum=some q->q.1.length=out.length+l.length/\q.2-q.1.sum=sum-out.sum/\q.2<=max sum 1099511627776/\((∀w∈out,0<=w/\w<=1099511627776)->∀w∈q.1,0<=w/\w<=1099511627776)
 | [],out,sum,q,h=>by
  cases h;exact⟨by simp,by dsimp only,by dsimp only;omega,fun h=>h⟩
 | x::r,out,sum,q,h=>by
  unfold qdT at h
  cases hw:qmI ds x g with
  |none=>rw[hw]at h;cases h
  | some w=>
   rw[hw]at h;dsimp only at h;have b:=Vd hw;split at h
   . cases h
   obtain⟨h1,h2,e,d⟩:=qfn h;refine⟨by rw[h1];simp;omega,by rw[h2,qE4];simp;omega,by omega,fun c=>d fun w' a=>?_⟩;rcases qBC.1 a with a|a
   . exact c _ a
   have:w'=w:=by simpa using a
   rw[this];exact b
structure PrepOk(p:Problem)(gi:Nat)(G a:List Int)(C:List (List Int))(W:List Int)(s:Int):Prop where
 v:qg p=0
 g:p.groups[gi]?=some G
 ass:qT p.vars a=true
 all:∀x∈C,x.length=p.vars.length
 len:W.length=C.length
 sum:s=W.sum
 le:s<=1099511627776
 rng:∀w∈W,0<=w/\w<=1099511627776
def qrV{p gi a}(h:(kb p gi a).2.2.2=0):0<=gi/\∃G,PrepOk p gi.toNat G a (kb p gi a).1 (kb p gi a).2.1 (kb p gi a).2.2.1/\p.groups.getD gi.toNat []=G:=by
 unfold kb at h⊢;split at h
 . rename_i h1;exact absurd h h1
 rename_i h1;rw[if_neg h1];split at h
 . cases h
 rename_i h2;rw[if_neg h2];split at h
 . cases h
 rename_i f;rw[if_neg f];have l:gi.toNat<p.groups.length:=by
  have:¬(p.groups.length:Int)<=gi:=fun e=>h2 (.inr (.inl e))
  omega
 have c:(decide (qg p=0)&&qT p.vars a)=true:=by
  cases c:(decide (qg p=0)&&qT p.vars a) with
  |true=>rfl
  |false=>exact absurd (.inr (.inr c)) h2
 rw[qBq,decide_eq_true_eq]at c;have d:=qBm l;refine⟨(qFm.1 fun e=>h2 (.inl e)),p.groups[gi.toNat],?_,by rw[qBw,d];rfl⟩
 cases hw:qdT p.dists (p.groups.getD gi.toNat []) (jh p.groups gi.toNat (p.groups.getD gi.toNat []) a (Jz p).1) [] 0 with
 |none=>rw[hw]at h;cases h
 | some q=>
  obtain⟨j,i,m,g⟩:=qfn hw;refine⟨c.1,d,c.2,fun x b=>?_,by rw[j];simp,by simp at i;dsimp only;omega,by dsimp only;omega,g (by simp)⟩;have b:=Ys b;unfold Jz at b;split at b
  . exact(kD.1 (qCk.1 b).1).len
  cases b
def qqC:∀{W:List Int}{k:Int},k<W.sum->0<=k->atW W k<W.length
 |[],k,h,h0=>by simp at h;omega
 | w::r,k,h,h0=>by
  unfold atW;rw[qDv]at h;split
  . simp
  have:=qqC (W:=r) (k:=k-w) (by omega) (by omega);rw[qBB];omega
def YR(c):∀(G a),(qdM c G a).length=a.length
 |[],a=>rfl
 | v::G,a=>by
  show(qdM c G (a.set v.toNat (c.getD v.toNat 0))).length=_;rw[YR c G,qCO]
def qnE{p}(b:RnH p){gi a}:(kb p gi a).1.length<=1000000:=by
 unfold kb;split
 . simp
 split
 . simp
 rename_i h2;split
 . simp
 split
 . simp
 refine qCq Yt ?_;unfold Jz;split
 . rename_i c;have d:=(Zy b.q b.dl b.sl c).1;exact qCq (qCP _ _) (by have:=b.all d;omega)
 simp
def qjM(c d v a):qdM c (d++[v]) a=(qdM c d a).set v.toNat (c.getD v.toNat 0):=by
 unfold qdM;rw[qCb];rfl
def qpf(p)(h:RfH p)(b1:VP p)(hr:RnH p)(gi a)(d4:Fits a)(k):
 Pure prog GG 67 [.agg (qw p),.int .i64 gi,.sl 1 (a.map qf) .none,.int .i64 k] (.tup [.sl 1 ((vI p gi a k).1.map qf) .none,.int .i64 (vI p gi a k).2]):=by
 refine qFC oM true func67 ?_;have x:=VA p h b1 hr gi a d4;obtain⟨Y,f⟩:∃Y,Y=vI p gi a k:=⟨_,rfl⟩;rw[<- f];unfold vI at f;have a3:=qrV (p:=p) (gi:=gi) (a:=a);have b4:=qnE hr (gi:=gi) (a:=a);generalize kb p gi a=q at *;obtain⟨C,W,s,e⟩:=q;dsimp only at x f a3 b4;simp at x;by_cases Q:e=0
 case neg=>
  rw[if_pos Q]at f;simp;refine qFG (G:=qW GG) x ?_;simp[*];rw[ql (by simp)];exact⟨by simp,by simp[Leq,zl]⟩
 subst Q;rw[if_neg (fun e=>e rfl)]at f;by_cases l:k<0\/s<=k
 . rw[if_pos l]at f;simp;refine qFG (G:=qW GG) x ?_;rcases l with l|l
   . simp[*];rw[ql (by simp)];exact⟨by simp,by simp[Leq,zl]⟩
   by_cases e9:k<0
   . simp[*];rw[ql (by simp)];exact⟨by simp,by simp[Leq,zl]⟩
   simp[*];rw[ql (by simp)];exact⟨by simp,by simp[Leq,zl]⟩
 rw[if_neg l]at f;obtain⟨g0,G,⟨F,D,c5,c1,d6,hs,f0,b0⟩,a9⟩:=a3 rfl;rw[a9]at f;obtain⟨g,rfl⟩:=qBG g0;rw[qBU]at D;have a2:=(J4 F c5).1;have b5:=h.vq.vars;have L:=qBl D;have U:∀v∈G,0<=v/\v<(p.vars.length:Nat):=fun v K=>by
  obtain⟨n,w,M,z,_⟩:=Zn ((jI F).2.1 _ (qB3.2 ⟨G,L,K⟩));have:=(qBk.1 z).1;omega
 have f3:G.length<=1000:=by
  have h1:=(J7 F b5).1 (G.map Int.toNat) (qBH.2 ⟨G,L,rfl⟩)
  rwa[qBT]at h1
 have a4:a≠[]:=fun e=>by
  obtain⟨v,K⟩:=qDH G ((jI F).1 G L);have:=U v K;rw[e]at a2;simp at a2;omega
 have c2:=qqC (W:=W) (k:=k) (by omega) (by omega);obtain⟨r,a1⟩:∃r,r=atW W k:=⟨_,rfl⟩;rw[<- a1]at c2 f;obtain⟨c,P⟩:∃c,C[r]?=some c:=⟨_,qBm (by omega)⟩;have d7:c.length=p.vars.length:=c1 c (qBl P);rw[show C.getD r []=c by rw[qBw,P];rfl]at f;have d5:¬(a.length=0):=by have:=qBA.2 a4;omega
 simp;refine qFG (G:=qW GG) x ?_;simp[show ¬k<0 from fun e=>l (.inl e),show ¬s<=k from fun e=>l (.inr e)];refine qFL (fun m ev σ=>∃(at_:Nat) (b:Int),m=W.length-at_/\at_<=W.length/\0<=b/\b<(W.drop at_).sum/\r=at_+atW (W.drop at_) b/\b<=1099511627776/\ev 1=.int .i64 g/\ev 2=.sl 1 (a.map qf) .none/\ev 3=.int .i64 b/\ev 4=.ptr 0 0/\ev 10=.sl 1 (C.map qn) .none/\ev 11=.sl 1 (W.map qf) .none/\ev 14=.int .i64 at_/\σ=⟨[.cells (qw p)],[]⟩) W.length ?_ ?_
 . exact⟨0,k,rfl,by omega,by omega,by rw[qCG];omega,by rw[qCG,a1];omega,by omega,by simp,by simp,by simp,by simp,by simp,by simp,by simp,by simp[qw]⟩
 rintro m ev σ R hR ⟨i,b,rfl,hi,r0,E,t,r2,M,z,e3,e4,a5,a0,Z,rfl⟩;have d1:i<W.length:=by
  apply Classical.byContradiction;intro hn;rw[qBZ (by omega)]at E;simp at E;omega
 have e8:(i:Int)<W.length:=by omega
 obtain⟨w,J⟩:∃w,W[i]?=some w:=⟨_,qBm d1⟩;have d0:W.drop i=w::W.drop (i+1):=by
  obtain⟨h1,h2⟩:=qBk.1 J;rw[qBE h1,h2]
 rw[d0]at E t;rw[qDv]at E;unfold atW at t;have e6:=b0 w (qBl J);by_cases V:b<w
 case neg=>
  rw[if_neg V]at t;have e5:w<=b:=by omega
  have f2:=wr (n:=b-w);have d8:=wr (n:=(i:Int)+1);simp[*];exact hR (W.length-(i+1)) _ _ (by omega) ⟨i+1,b-w,rfl,by omega,by omega,by omega,by omega,by omega,by simp[M],by simp[z],by simp,by simp[e4],by simp[a5],by simp[a0],by simp⟩
 rw[if_pos V,qCV]at t;subst t;simp[z,e3,a0,Z,J,show ¬w<=b by omega,oM,qY,zD,qP,Zl,d5,show a.length<=549755813888 by omega,a4,qw];refine qFW G (fun d ev σ=>ev 1=.int .i64 g/\ev 4=.ptr 0 0/\ev 10=.sl 1 (C.map qn) .none/\ev 14=.int .i64 r/\ev 15=.ms 1 0 a.length 1/\ev 16=.int .i64 d.length/\∃T,σ=⟨[.cells (qw p),.cells (zc (qdM c d a))],T⟩) ?_ ?_ ?_
 . refine⟨by simp[M],by simp[e4],by simp[a5],by simp[Z],by simp,by simp,[],?_⟩;have:qdM c [] a=a:=rfl;rw[this,jD,qCQ];simp[qw]
 . rintro d v rest b2 σ R2 b9 e7 S d9 ⟨f1,B,O,N,A,I,T,rfl⟩;have a7:=wr (n:=(d.length:Int)+1);have c6:(d.length:Int)<G.length:=(by omega);obtain⟨c4,e0⟩:=U v (qBl S);obtain⟨n,rfl⟩:=qBG c4;have c0:n<c.length:=(by omega);have a6:n<a.length:=(by omega);have b7:(n:Int)<a.length:=(by omega);have d2:n+1<=a.length:=a6;obtain⟨y,hy⟩:∃y,c[n]?=some y:=⟨_,qBm c0⟩;have X:=qjM c d (n:Int) a;rw[qBU,show c.getD n 0=y by rw[qBw,hy];rfl]at X;have u:=YR c d a;have c8:∀(o:List Int),(zc o).set n (.int .i64 y)=zc (o.set n y):=fun o=>by simp[zc,qFt]
   have c7:∀j σ',j 1=.int .i64 g->j 4=.ptr 0 0->j 10=.sl 1 (C.map qn) .none->j 14=.int .i64 r->j 15=.ms 1 0 a.length 1->j 16=.int .i64 ((d.length:Int)+1)->σ'=⟨[.cells (qw p),.cells (zc ((qdM c d a).set n y))],T⟩->R2 j σ':=fun j σ' x1 x4 c3 c9 d3 b6 xs=>
    b9 _ _ ⟨x1,x4,c3,c9,d3,by rw[b6,qBp,qBR];rfl,T,by rw[X];exact xs⟩
   generalize qdM c d a=o at *;simp[f1,B,O,N,A,I,D,c6,S,P,hy,b7,d2,c8,u,a7,qw,qn,qO];exact c7 _ _ (by simp[f1]) (by simp[B]) (by simp[O]) (by simp[N]) (by simp[A]) (by simp) (by simp[qw])
 rintro b2 σ ⟨f1,B,O,N,A,I,T,rfl⟩;have u:=YR c G a;have b8:qdM c G a≠[]:=fun e=>by rw[e]at u;simp at u;omega
 simp[f1,B,A,I,D,qw,qn,f];have a8:qmt 1 [.cells [AV.sl 4 (p.vars.map qu) .none,.sl 4 (p.hard.map qo) .none,.sl 4 (p.soft.map qo) .none,.sl 2 (p.dists.map zu) .none,.sl 1 (p.groups.map qn) .none],.cells (zc (qdM c G a))] (.ms 1 0 a.length 1) (qdM c G a):=.inr ⟨b8,by rw[u],rfl⟩;obtain⟨q1,q2,q3⟩:=a8.frz 6;exact vA q1 q2 q3
def WR{p}(c:qg p=0){a}(d:a∈yS p.vars){i}(hi:i∈(NG p).flatten):∃x:Nat,a[i]?=some (x:Int)/\x<2^jG p i/\aN a i=x:=by
 obtain⟨v,b,e⟩:=km c hi;obtain⟨x,h1,h2⟩:=vx (kD.1 d) b;rw[if_neg e]at h2;obtain⟨n,rfl⟩:=qBG h2.1;refine⟨n,h1,?_,by unfold aN;rw[qBw,h1];simp⟩;rw[(qq2 c b).1];unfold zG at h2;omega
def QD{vs a}(h:qT vs a=true):a∈yS vs:=by
 unfold qT at h;simp only[qBq,decide_eq_true_eq,qBx]at h;refine kD.2 (qkv h.1 fun i v c=>?_);have hi:=(qBk.1 c).1;obtain⟨x,d⟩:∃x,a[i]?=some x:=⟨_,qBm (by omega)⟩;have h1:=h.2 (v,x) (qBl (qCA.2 ⟨c,d⟩));unfold jE at h1;simp only[qBq,decide_eq_true_eq,qDo,qC5,decide_eq_false_iff_not]at h1;refine⟨x,d,?_⟩;by_cases b:v.mode=0
 . rw[if_pos b];exact h1.2.resolve_left fun h=>h b
 rw[if_neg b];have:((2^v.width.toNat:Nat):Int)=(2:Int)^v.width.toNat:=by simp
 unfold zG;exact⟨h1.1.1,by omega⟩
def qcT{n i w}:∀{l:List Dist},(je n l)[i]?=some (some w)->∃d∈l,d.var.toNat=i/\d.weights=w:=by
 intro l
 induction hn:l.length generalizing l with
 | zero=>
  have:=qBy hn;subst this;intro h;simp[je]at h;have:=qDs (qBl h);cases this
 | succ k ih=>
  obtain⟨d,x,rfl⟩:∃d x,l=d++[x]:=⟨l.dropLast,l.getLast (by rintro rfl;simp at hn),(qCa _).symm⟩;intro h;rw[Wa]at h;by_cases hi:x.var.toNat=i
  . have a:x.var.toNat<(je n d).length:=by
     have:=(qBk.1 h).1;rw[qCO]at this;omega
    subst hi;rw[qBo a]at h;simp at h;exact⟨x,by simp,rfl,h⟩
  rw[qBn hi]at h;obtain⟨y,b,h1,h2⟩:=ih (by simpa using hn) h;exact⟨y,by simp[b],h1,h2⟩
def JD:∀(l) (s),(zO l s).2=0->∃m:Nat,(zO l s).1=m/\s∣m/\∀w∈l,w.each≠true->wsz w∣m
 |[],s,_=>⟨s,rfl,Nat.dvd_refl _,by simp⟩
 | w::r,s,h=>by
  unfold zO at h⊢;by_cases c:w.each=true
  . rw[if_pos c]at h⊢;obtain⟨m,h1,h2,d⟩:=JD r s h;refine⟨m,h1,h2,fun x a b=>?_⟩;rcases qBN.1 a with rfl|a
    . exact absurd c b
    exact d x a b
  rw[if_neg c]at h⊢;by_cases e:Nat.lcm s (wsz w)<9223372036854775808
  . rw[if_pos e]at h⊢;obtain⟨m,h1,h2,d⟩:=JD r _ h;refine⟨m,h1,Nat.dvd_trans (Nat.dvd_lcm_left _ _) h2,fun x a b=>?_⟩;rcases qBN.1 a with rfl|a
    . exact Nat.dvd_trans (Nat.dvd_lcm_right _ _) h2
    exact d x a b
  rw[if_neg e]at h;cases h
def qdU{l v}(a:vX l v=true)(h:(zU l v).2=0):1<=(zU l v).1:=by
 unfold zU at h⊢;split at h
 . exact absurd h (by assumption)
 rename_i h1;split at h
 . exact absurd h (by assumption)
 rename_i h2;rw[if_neg h1,if_neg h2];obtain⟨i,_,_⟩:=Qb (qCf.1 h1);have r:=kr l 1 i (by omega) (by omega);obtain⟨m,f,_,j⟩:=JD l 1 (qCf.1 h2);have g:0<m:=by
  rcases r with⟨_,c,_⟩|c
  . rw[f]at c;omega
  rw[c]at h2;exact absurd (show((3:Int))≠0 by decide) h2
 rw[f]at h⊢;rw[show((m:Int)).toNat=m by omega]at h⊢;unfold vZ at h⊢;have o:Yi l v=l.find? (inW v):=rfl;unfold vX at a;rw[<- o]at a
 cases hO:Yi l v with
 |none=>rw[hO]at a;cases a
 | some w=>
  rw[hO]at a h;dsimp only at a h⊢;have t:=of_decide_eq_true a;have e:=qER hO;have s:=i w e;by_cases b:w.each=true
  . rw[if_pos b]at h⊢;unfold Yo at h⊢;split at h
    . rename_i d;rw[if_pos d];have:0<w.weight.toNat*m:=qFd (by omega) g;dsimp only;omega
    cases h
  rw[if_neg b]at h⊢;unfold Yo at h⊢;split at h
  . rename_i d;rw[if_pos d];have hd:=Nat.div_pos (qFq g (j w e b)) (Ke s.2.1);have:0<w.weight.toNat*(m/wsz w):=qFd (by omega) hd;dsimp only;omega
  cases h
def qqR{l v}(a:vX l v=true):0<wtO (some l) v:=by
 unfold wtO;dsimp only;split
 . unfold lim;omega
 rename_i h;have:=qdU a (qCf.1 h);exact qEJ fun e=>by
  rw[Zw]at e;omega
def qug{p}(c:qg p=0){b}(hb:b∈yS p.vars)(A:∀e∈zw p,evalV (ke p.vars b) e≠0){i}(hi:i∈(NG p).flatten):0<wtP p i (aN b i)/\aN b i<2^jG p i/\b[i]?=some (aN b i:Int):=by
 obtain⟨v,a,s⟩:=km c hi;obtain⟨x,f,r⟩:=vx (kD.1 hb) a;rw[if_neg s]at r;have l:aN b i=x.toNat:=by unfold aN;rw[qBw,f];rfl
 have h:((aN b i:Nat):Int)=x:=by rw[l];omega
 refine⟨?_,?_,by rw[h];exact f⟩
 . unfold wtP;obtain⟨o,g⟩:∃o,(je p.vars.length p.dists)[i]?=some o:=⟨_,qBm (by rw[yF];exact(qBk.1 a).1)⟩;rw[qBw,g]
   cases o with
   |none=>exact Nat.one_pos
   | some w=>
    obtain⟨d,hd,B,u⟩:=qcT g;have t:vO p.vars d∈zw p:=by
     unfold zw jB yJ;rw[if_pos c];exact qCu _ (qBH.2 ⟨d,hd,rfl⟩)
    have m:=(qgO (A _ t)).2;have y:vO p.vars d=zT v.name (jr (ZR v w)):=by
     unfold vO;rw[B,a,u]
    rw[y]at m;have j:=(JB _ _ _).1 m;rcases qlo c hb a f with⟨z,_⟩|h0
    . rw[z]at j;have:=(qCk.1 j).2;rw[h];exact qqR this
    exact absurd h0 s
 have:=(qq2 c a).1;rw[this,l];unfold zG at r;omega
def qaM{p val}:∀{g:List Nat},(∀i∈g,0<wtP p i (val i))->0<jN p val g
 |[],_=>Nat.one_pos
 |i::r,h=>qFd (h i (by simp)) (qaM fun k a=>h k (by simp[a]))
noncomputable def qhy(p:Problem)(a:List Int)(g:Nat):Nat:=yO p (qt p).1 (fun _=>none) ((NG p).getD g []) (Ze p a g)
def qe6(p a gi):∀(l) (fx) (c) (out) (k),k∉l->(chP p a gi l fx c out)[k]?=out[k]?
 |[],_,_,_,_,_=>rfl
 | i::r,fx,c,out,k,b=>by
  unfold chP;dsimp only;rw[qe6 p a gi r _ _ _ k fun h=>b (by simp[h]),qBn fun e=>b (by simp[e])]
def Q8{p}(h:qg p=0){k d}(a:p.dists[k]?=some d):yU p.vars d.var=true/\∀y∈p.dists.take k,y.var≠d.var:=by
 have hd:yH p.vars p.dists=0:=by
  unfold qg at h;split at h
  . exact absurd h (by assumption)
  split at h
  . rename_i h1;exact absurd h h1
  split at h
  . rename_i h1;exact absurd h h1
  rename_i h1;exact qCf.1 h1
 have g:=(qBk.1 a).1;unfold yH at hd;have:=zs.1 hd k (by simp;omega);unfold jR at this;rw[a]at this;simp only at this;split at this
 . cases this
 rename_i b;split at this
 . cases this
 rename_i c;refine⟨by simpa using b,fun y f e=>c (qBM.2 ⟨y,f,by simp[e]⟩)⟩
def qcS{p}(h:qg p=0){d}(hd:d∈p.dists):∃i:Nat,d.var=i/\i<p.vars.length/\i∈(NG p).flatten/\(je p.vars.length p.dists)[i]?=some (some d.weights):=by
 obtain⟨k,a⟩:=qB1 hd;obtain⟨h1,h2⟩:=Q8 h a;simp only[yU,qBq,decide_eq_true_eq]at h1;obtain⟨i,hi⟩:=qBG h1.1;rw[hi,qBU]at h1;obtain⟨v,f,u⟩:∃v,p.vars[i]?=some v/\v.mode≠0:=by
  cases hv:p.vars[i]? with
  |none=>rw[hv]at h1;simp at h1
  |some v=>rw[hv]at h1;exact⟨v,rfl,by simpa using h1.2⟩
 have g:=(qBk.1 f).1;refine⟨i,hi,g,qaF h f u,?_⟩;have later:∀y∈p.dists.drop (k+1),y.var.toNat≠i:=fun y w e=>by
  obtain⟨j,b⟩:=qB1 w;rw[qCm]at b;obtain⟨t,s⟩:=Q8 h b;simp only[yU,qBq,decide_eq_true_eq]at t;refine s d ?_ (by omega);refine qBl (i:=k) ?_;rw[qDM (by omega),a]
 have keep:∀(l:List Dist) (o:List (Option (List Weight))),(∀y∈l,y.var.toNat≠i)->(l.foldl (fun o d=>o.set d.var.toNat (some d.weights)) o)[i]?=o[i]?:=by
  intro l
  induction l with
  |nil=>intro o _;rfl
  | cons y l ih=>
   intro o c;rw[qB2,ih _ fun z m=>c z (by simp[m]),qBn (c y (by simp))]
 have e:p.dists=p.dists.take k++d::p.dists.drop (k+1):=by
  obtain⟨r,x⟩:=qBk.1 a;have:=qB9 k p.dists;rw[qBE r,x]at this;exact this.symm
 unfold je;rw[e,qCb,qB2,keep _ _ later,hi,qBU];refine qBo ?_;have:=yF p.vars.length (p.dists.take k);unfold je at this
 rwa[this]
def qzz{p}(c:qg p=0){gi}(d:gi<(NG p).length):∃g,(NG p)[gi]?=some g/\(NG p).getD gi []=g/\g.Nodup/\∀i∈g,i∈(NG p).flatten:=by
 obtain⟨g,a⟩:∃g,(NG p)[gi]?=some g:=⟨_,qBm d⟩;refine⟨g,a,by rw[qBw,a];rfl,?_,fun i hi=>qB3.2 ⟨g,qBl a,hi⟩⟩;have b:=qg6 c;obtain⟨post,e⟩:=qg5 a;rw[e]at b;exact(qCX.1 (qCX.1 b).1).2.1
def okF(fx:Nat->Option Nat)(g:List Nat)(x:List Int):Bool:=g.all fun i=>(fx i).all fun v=>decide (aN x i=v)
def Qe{α}(f q):∀l:List α,jl f (l.filter q)=jl (fun a=>if q a=true then f a else 0) l
 |[]=>rfl
 | a::l=>by
  have ih:=Qe f q l;rw[qDe];by_cases h:q a=true
  . rw[if_pos h];simp only[jl,ih,if_pos h]
  rw[if_neg h];simp only[jl,ih,if_neg h];omega
def qca(K:Nat->Nat):∀(N v),v<N->jl (fun x=>if v=x then K x else 0) (List.range N)=K v
 |0,v,h=>by omega
 | N+1,v,h=>by
  rw[qCL,Zs];by_cases b:v=N
  . subst b;have:jl (fun x=>if v=x then K x else 0) (List.range v)=0:=ZS fun a c=>by
     have:=qCe.1 c;rw[if_neg (by omega)]
    rw[this];simp[jl]
  rw[qca K N v (by omega)];simp[jl,b]
structure Reps(p:Problem)(R:List Ex)(g:List Nat)(c:List (Nat×Nat))(C:List (List Int)):Prop where
 sol:∀x∈C,x∈yS p.vars/\yX p.vars R x=true/\∀q∈c,aN x q.1=q.2
 cov:∀x∈yS p.vars,yX p.vars R x=true->(∀q∈c,aN x q.1=q.2)->∃y∈C,∀i∈g,aN y i=aN x i
 dis:C.Pairwise fun x y=>∃i∈g,aN x i≠aN y i
def qp9{p}(d:qg p=0){R c}(e:∀q∈c,q.1∈(NG p).flatten):okC p R c=true↔∃x∈yS p.vars,yX p.vars R x=true/\∀q∈c,aN x q.1=q.2:=by
 unfold okC;rw[qBM];constructor
 . rintro⟨x,a,h⟩;rw[qBq,qBx]at h;refine⟨x,a,h.1,fun q b=>?_⟩;have:=of_decide_eq_true (h.2 q b);obtain⟨y,h1,h2,j⟩:=WR d a (e q b);rw[this]at h1;have:=Option.some.inj h1;omega
 rintro⟨x,a,h1,h2⟩;refine⟨x,a,?_⟩;rw[qBq,qBx];refine⟨h1,fun q b=>?_⟩;obtain⟨y,f,i,g⟩:=WR d a (e q b);have:=h2 q b;rw[f,decide_eq_true_eq];congr 1;omega
def Kr{p}(o:qg p=0){R}(fx):∀(g:List Nat) (c:List (Nat×Nat)) (C:List (List Int)),(∀i∈g,i∈(NG p).flatten)->(∀q∈c,q.1∈(NG p).flatten)->Reps p R g c C ->
 yO p R fx g c=jl (fun x=>if okF fx g x=true then jN p (aN x) g else 0) C
 | [],c,C,t,m,h=>by
  have L:C.length<=1:=by
   match C,h.dis with
   |[],_=>simp
   |[x],_=>simp
   | x::y::r,hd=>
    have:=(qDT.1 hd).1 y (by simp);obtain⟨i,hi,_⟩:=this;cases hi
  unfold yO;by_cases l:okC p R c=true
  . rw[if_pos l];obtain⟨x,a,h1,h2⟩:=(qp9 o m).1 l;obtain⟨y,e,_⟩:=h.cov x a h1 h2
    match C,L,e with
    |[z],_,_=>simp[jl,okF,jN]
    |z::w::r,J,_=>simp at J
  rw[if_neg l];have:C=[]:=by
   apply qCZ.2;intro x a;obtain⟨f,u,s⟩:=h.sol x a;exact l ((qp9 o m).2 ⟨x,f,u,s⟩)
  rw[this];rfl
 | i::g,c,C,t,m,h=>by
  have hi:=t i (by simp);have ih:=fun v=>Kr o (R:=R) fx g (c++[(i,v)]) (C.filter fun x=>decide (aN x i=v)) (fun j d=>t j (by simp[d])) (fun q b=>by
   rcases qBC.1 b with b|b
   . exact m q b
   have:q=(i,v):=by simpa using b
   rw[this];exact hi) ⟨fun x a=>by
   rw[qCk,decide_eq_true_eq]at a;obtain⟨f,u,s⟩:=h.sol x a.1;refine⟨f,u,fun q b=>?_⟩;rcases qBC.1 b with b|b
   . exact s q b
   . have:q=(i,v):=by simpa using b
     rw[this];exact a.2,fun x h1 h2 A=>by
   obtain⟨y,e,D⟩:=h.cov x h1 h2 fun q b=>A q (by simp[b])
   have E:aN x i=v:=A (i,v) (by simp);refine⟨y,qCk.2 ⟨e,by rw[decide_eq_true_eq,D i (by simp),E]⟩,fun j d=>D j (by simp[d])⟩,by
   refine(h.dis.filter _).imp_of_mem ?_;intro x y a e ⟨j,d,B⟩;rw[qCk,decide_eq_true_eq]at a e;rcases qBN.1 d with rfl|d
   . exact absurd (a.2.trans e.2.symm) B
   exact⟨j,d,B⟩⟩
  unfold yO;simp only[ih,Qe];have F:∀v,wtP p i v*jl (fun x=>if decide (aN x i=v)=true then(if okF fx g x=true then jN p (aN x) g else 0) else 0) C=jl (fun x=>if aN x i=v then wtP p i v*(if okF fx g x=true then jN p (aN x) g else 0) else 0) C:=fun v=>by
   rw[<- qav];refine yC fun x _=>?_
   by_cases a:aN x i=v<;>simp[a]
  simp only[F];rw[Kw];refine yC fun x a=>?_
  obtain⟨f,_,_⟩:=h.sol x a;obtain⟨y,M,I,K⟩:=WR o f hi;have G:okF fx (i::g) x=((fx i).all (fun v=>decide (aN x i=v))&&okF fx g x):=by unfold okF;rw[qCH]
  rw[G];show jl _ (wP (jG p i) (fx i))=_
  cases hf:fx i with
  | none=>
   show jl _ (List.range _)=_;rw[qca (fun v=>wtP p i v*(if okF fx g x=true then jN p (aN x) g else 0)) _ _ (by rw[K];exact I)];simp only[Option.all_none,qCC,jN];split
   . rfl
   rw[Nat.mul_zero]
  | some v=>
   show jl _ [v]=_;simp only[jl,qCV,Option.all_some,jN];by_cases a:aN x i=v
   . rw[if_pos a];cases hO:okF fx g x<;>simp[a]
   rw[if_neg a];simp[a]
def Jj{p}(c:qg p=0):p.groups=(NG p).map fun g=>g.map fun n:Nat=>(n:Int):=by
 unfold NG;rw[qCN]
 conv=>lhs;rw[<- qFc p.groups]
 refine qCy fun g a=>?_
 show g=(g.map Int.toNat).map fun n:Nat=>(n:Int)
 rw[qCN]
 conv=>lhs;rw[<- qFc g]
 refine qCy fun v b=>?_
 obtain⟨n,w,d,_⟩:=Zn ((jI c).2.1 _ (qB3.2 ⟨g,a,b⟩));show v=((v.toNat:Nat):Int);omega
def qfl{x y}{g:List Nat}:agG x y (g.map fun n:Nat=>(n:Int))=true↔∀i∈g,x.getD i 0=y.getD i 0:=by
 unfold agG agV;simp[qBx]
def Wd{a b c}:∀{l:List Int},jx a b l=true->jx b c l=true->jx a c l=true
 |[],h,_=>by cases h
 | v::l,h1,h2=>by
  unfold jx at h1 h2⊢;split at h1
  . rename_i e;split at h2
    . rename_i d;rw[if_pos (e.trans d)];exact Wd h1 h2
    rename_i d;rw[decide_eq_true_eq]at h2;rw[if_neg (by omega),decide_eq_true_eq];omega
  rename_i e;rw[decide_eq_true_eq]at h1;split at h2
  . rename_i d;rw[if_neg (by omega),decide_eq_true_eq];omega
  rename_i d;rw[decide_eq_true_eq]at h2;rw[if_neg (by omega),decide_eq_true_eq];omega
def qcU{a b}:∀{l:List Int},jx a b l=false->jx b a l=true\/∀v∈l,a.getD v.toNat 0=b.getD v.toNat 0
 |[],_=>.inr fun v d=>by cases d
 | v::l,h=>by
  unfold jx at h⊢;by_cases e:a.getD v.toNat 0=b.getD v.toNat 0
  . rw[if_pos e]at h;rw[if_pos e.symm];rcases qcU h with h|h
    . exact .inl h
    refine .inr fun w c=>?_
    rcases qBN.1 c with rfl|c
    . exact e
    exact h w c
  rw[if_neg e]at h;rw[if_neg (fun h=>e h.symm)];rw[decide_eq_false_iff_not]at h;exact .inl (by rw[decide_eq_true_eq];omega)
def qgo{a b}:∀{l:List Int},jx a b l=true->∃v∈l,a.getD v.toNat 0≠b.getD v.toNat 0
 |[],h=>by cases h
 | v::l,h=>by
  unfold jx at h;by_cases e:a.getD v.toNat 0=b.getD v.toNat 0
  . rw[if_pos e]at h;obtain⟨w,h1,h2⟩:=qgo h;exact⟨w,by simp[h1],h2⟩
  exact⟨v,by simp,e⟩
def qgY(f):∀(n) (o),o.length=n->(∀(j) (x),(atX f o).1<=j->o[j]?=some x->f x=false)/\((atX f o).1=0\/∃x,o[(atX f o).1-1]?=some x/\f x=true)
 | 0,o,h=>by
  have:=qBy h;subst this;exact⟨fun j x _ a=>by simp at a,.inl rfl⟩
 | n+1,o,h=>by
  obtain⟨d,y,rfl⟩:∃d y,o=d++[y]:=⟨o.dropLast,o.getLast (by rintro rfl;simp at h),(qCa _).symm⟩;have hd:d.length=n:=by simpa using h
  obtain⟨h1,h2⟩:=qgY f n d hd;have i:=qfc f d;rw[qbq,i.1]
  cases hy:f y with
  | true=>
   rw[if_pos rfl];refine⟨fun j x b a=>?_,.inr ⟨y,?_,hy⟩⟩
   . have:=(qBk.1 a).1;simp at this b;omega
   dsimp only;rw[Nat.add_sub_cancel,qBt (qBs _),qCh];rfl
  | false=>
   rw[if_neg (by simp)];refine⟨fun j x b a=>?_,?_⟩
   . by_cases e:j<d.length
     . rw[qBv e]at a;exact h1 j x b a
     . have:=(qBk.1 a).1;simp at this;have:j=d.length:=by omega
       subst this;rw[qBt (qBs _),qCh]at a;have:y=x:=by simpa using a
       rw[<- this];exact hy
   rcases h2 with h2|⟨x,c,g⟩
   . exact .inl h2
   refine .inr ⟨x,?_,g⟩;dsimp only;have:=(qBk.1 c).1;rw[qBv this];exact c
structure ChI(G:List (List Int))(i:Nat)(l:List Int)(a:List Int)(S out:List (List Int)):Prop where
 mem:∀c∈out,c∈S/\jg G 0 i c a=true
 ord:out.Pairwise fun x y=>jx x y l=true
 cov:∀x∈S,jg G 0 i x a=true->∃c∈out,jg G i (i+1) c x=true
def qjE{G i g a}(u:∀x y:List Int,jg G i (i+1) x y=true↔∀v∈zQ g,x.getD v.toNat 0=y.getD v.toNat 0){S out}(h:ChI G i (zQ g) a S out)(x):ChI G i (zQ g) a (S++[x]) (vP G i g a out x):=by
 unfold vP;by_cases h1:jg G 0 i x a=true
 case neg=>
  rw[if_neg h1];refine⟨fun c b=>⟨by simp[(h.mem c b).1],(h.mem c b).2⟩,h.ord,fun y f m=>?_⟩;rcases qBC.1 f with f|f
  . exact h.cov y f m
  have:y=x:=by simpa using f
  rw[this]at m;exact absurd m h1
 rw[if_pos h1];by_cases h2:(out.any fun v=>jg G i (i+1) v x)=true
 . rw[if_pos h2];refine⟨fun c b=>⟨by simp[(h.mem c b).1],(h.mem c b).2⟩,h.ord,fun y f m=>?_⟩;rcases qBC.1 f with f|f
   . exact h.cov y f m
   have:y=x:=by simpa using f
   rw[this];obtain⟨c,b,B⟩:=qBM.1 h2;exact⟨c,b,B⟩
 rw[if_neg h2];obtain⟨M,t⟩:=qgY (fun v=>jx v x (zQ g)) out.length out rfl;generalize (atX (fun v=>jx v x (zQ g)) out).1=n at *;have I:∀c∈out.take n,jx c x (zQ g)=true:=fun c b=>by
  obtain⟨j,l⟩:=qB1 b;have F:=(qBk.1 l).1;simp at F;rw[qDM (by omega)]at l;rcases t with t|⟨z,r,s⟩
  . omega
  by_cases w:j=n-1
  . subst w;rw[l]at r;cases r;exact s
  obtain⟨E,D⟩:=qBk.1 l;obtain⟨K,J⟩:=qBk.1 r;have:=qC2.1 h.ord j (n-1) E K (by omega);rw[D,J]at this;exact Wd this s
 have A:∀c∈out.drop n,jx x c (zQ g)=true:=fun c b=>by
  obtain⟨j,l⟩:=qB1 b;rw[qCm]at l;have L:=M (n+j) c (by omega) l;rcases qcU L with h|h
  . exact h
  exact absurd h ((fun c b e=>h2 (qBM.2 ⟨c,b,(u c x).2 e⟩)) c (qBl l))
 refine⟨fun c b=>?_,?_,fun y f m=>?_⟩
 . simp at b;rcases b with b|b|b
   . have:=h.mem c (qB6 b);exact⟨by simp[this.1],this.2⟩
   . subst b;exact⟨by simp,h1⟩
   have:=h.mem c (qCD b);exact⟨by simp[this.1],this.2⟩
 . have o:=h.ord;rw[<- qB9 n out,qEv]at o;rw[qEv];refine⟨o.1,qDT.2 ⟨A,o.2.1⟩,fun c b d hd=>?_⟩;rcases qBN.1 hd with rfl|hd
   . exact I c b
   exact o.2.2 c b d hd
 rcases qBC.1 f with f|f
 . obtain⟨c,b,C⟩:=h.cov y f m;refine⟨c,?_,C⟩;rw[<- qB9 n out]at b;simp only[qBC,qBN]at b⊢;rcases b with b|b
   . exact .inl b
   exact .inr (.inr b)
 have:y=x:=by simpa using f
 rw[this];exact⟨x,by simp,(u x x).2 fun _ _=>rfl⟩
def qe5{G i g a}(d:∀x y:List Int,jg G i (i+1) x y=true↔∀v∈zQ g,x.getD v.toNat 0=y.getD v.toNat 0)(S):ChI G i (zQ g) a S (jh G i g a S):=by
 have:∀(l S out:List (List Int)),ChI G i (zQ g) a S out->ChI G i (zQ g) a (S++l) (l.foldl (vP G i g a) out):=by
  intro l
  induction l with
  |nil=>intro S out h;simpa using h
  | cons x l ih=>
   intro S out h;rw[qB2];have:=ih (S++[x]) _ (qjE d h x);simpa using this
 have:=this S [] [] (⟨fun c e=>(by cases e),List.Pairwise.nil,fun x b=>(by cases b)⟩);unfold jh;simpa using this
def Ji{p}(b:qg p=0){x}(a:x∈yS p.vars){i}(hi:i∈(NG p).flatten):x.getD i 0=(aN x i:Int):=by
 obtain⟨y,h1,h2,c⟩:=WR b a hi;rw[c,qBw,h1];rfl
def qdI{p}(c:qg p=0){gi g}(b:(NG p)[gi]?=some g)(x y):jg p.groups gi (gi+1) x y=true↔∀i∈g,x.getD i 0=y.getD i 0:=by
 unfold jg;have h1:(p.groups.drop gi).take (gi+1-gi)=[g.map fun n:Nat=>(n:Int)]:=by
  rw[Jj c,<- qFo,<- List.map_take,show gi+1-gi=1 by omega];obtain⟨a,d⟩:=qBk.1 b;rw[qBE a,d];rfl
 rw[h1];simp;exact qfl
def qmp{p}(b:qg p=0)(gi x y):jg p.groups 0 gi x y=true↔∀i∈((NG p).take gi).flatten,x.getD i 0=y.getD i 0:=by
 unfold jg;rw[qEu,qCG,Jj b,<- List.map_take,qBx];constructor
 . intro h i hi;obtain⟨g,h1,h2⟩:=qB3.1 hi;exact qfl.1 (h _ (qBH.2 ⟨g,h1,rfl⟩)) i h2
 intro h c a;obtain⟨g,h1,rfl⟩:=qBH.1 a;exact qfl.2 fun i hi=>h i (qB3.2 ⟨g,h1,hi⟩)
def qnc{g:List Nat}{x y:List Int}:(∀v∈zQ (g.map fun n:Nat=>(n:Int)),x.getD v.toNat 0=y.getD v.toNat 0)↔∀i∈g,x.getD i 0=y.getD i 0:=by
 constructor
 . intro h i hi;have:=h (i:Int) ((ZW _).2 (qBH.2 ⟨i,hi,rfl⟩));simpa using this
 intro h v a;obtain⟨i,hi,rfl⟩:=qBH.1 ((ZW _).1 a);simpa using h i hi
noncomputable def qpQ(p:Problem):List (List Int):=(yS p.vars).filter (yX p.vars (qt p).1)
def qdw{p}(d:qg p=0){gi g}(r:(NG p)[gi]?=some g){a}(t:a∈yS p.vars):
 Reps p (qt p).1 g (Ze p a gi) (jh p.groups gi (g.map fun n:Nat=>(n:Int)) a (qpQ p))/\(jh p.groups gi (g.map fun n:Nat=>(n:Int)) a (qpQ p)).Pairwise fun x y=>jx x y (zQ (g.map fun n:Nat=>(n:Int)))=true:=by
 have m:∀i∈g,i∈(NG p).flatten:=fun i hi=>qB3.2 ⟨g,qBl r,hi⟩
 have o:∀i∈((NG p).take gi).flatten,i∈(NG p).flatten:=fun i hi=>by
  obtain⟨l,h1,h2⟩:=qB3.1 hi;exact qB3.2 ⟨l,qB6 h1,h2⟩
 have j:=qe5 (G:=p.groups) (i:=gi) (g:=g.map fun n:Nat=>(n:Int)) (a:=a) (fun x y=>(qdI d r x y).trans qnc.symm) (qpQ p);have s:∀x∈yS p.vars,jg p.groups 0 gi x a=true↔∀q∈Ze p a gi,aN x q.1=q.2:=fun x b=>by
  rw[qmp d];constructor
  . intro h q A;obtain⟨i,hi,rfl⟩:=qBH.1 A;have:=h i hi;rw[Ji d b (o i hi),Ji d t (o i hi)]at this;dsimp only;omega
  intro h i hi;have:=h (i,aN a i) (qBH.2 ⟨i,hi,rfl⟩);rw[Ji d b (o i hi),Ji d t (o i hi)];dsimp only at this;omega
 generalize jh p.groups gi (g.map fun n:Nat=>(n:Int)) a (qpQ p)=C at *;have f:∀x∈C,x∈yS p.vars/\yX p.vars (qt p).1 x=true:=fun x b=>by
  have:=(j.mem x b).1;exact qCk.1 this
 refine⟨⟨fun x b=>⟨(f x b).1,(f x b).2,(s x (f x b).1).1 (j.mem x b).2⟩,fun x h1 h2 z=>?_,?_⟩,j.ord⟩
 . obtain⟨c,u,w⟩:=j.cov x (qCk.2 ⟨h1,h2⟩) ((s x h1).2 z);refine⟨c,u,fun i hi=>?_⟩;have:=(qdI d r c x).1 w i hi;rw[Ji d (f c u).1 (m i hi),Ji d h1 (m i hi)]at this;omega
 refine j.ord.imp_of_mem ?_;intro x y b B h;obtain⟨v,h1,h2⟩:=qgo h;obtain⟨i,hi,rfl⟩:=qBH.1 ((ZW _).1 h1);rw[qBU,Ji d (f x b).1 (m i hi),Ji d (f y B).1 (m i hi)]at h2;exact⟨i,hi,fun e=>h2 (by rw[e])⟩
def qmH{p}(b:qg p=0){i}(hi:i∈(NG p).flatten){x}(a:0<wtP p i x){A:Nat}(h1:1<=A)(h2:A<=1099511627776):
 Kg p.dists (i:Int) (x:Int) (some (A:Int))=if A*wtP p i x<=1099511627776 then some ((A*wtP p i x:Nat):Int) else none:=by
 obtain⟨v,Q,U⟩:=km b hi;obtain⟨o,t⟩:∃o,(je p.vars.length p.dists)[i]?=some o:=⟨_,qBm (by rw[yF];exact(qBk.1 Q).1)⟩;have C:wtP p i x=wtO o (x:Int):=by unfold wtP;rw[qBw,t];rfl
 have skip:∀(l:List Dist) (B:Option Int),(∀d∈l,d.var≠(i:Int))->Kg l (i:Int) (x:Int) B=B:=by
  intro l
  induction l with
  |nil=>intro B _;rfl
  | cons d l ih=>
   intro B h;show Kg l _ _ (B.bind fun n=>qiS (i:Int) (x:Int) n d)=B;rw[ih _ fun e J=>h e (by simp[J])]
   cases B with
   |none=>rfl
   | some n=>
    show qiS (i:Int) (x:Int) n d=_;unfold qiS;rw[if_pos (h d (by simp))]
 cases o with
 | none=>
  rw[skip _ _ fun d hd e=>?_,show wtP p i x=1 by rw[C];rfl,Nat.mul_one,if_pos h2];obtain⟨j,c,_,_,u⟩:=qcS b hd;have:j=i:=by omega
  subst this;rw[t]at u;cases u
 | some w=>
  obtain⟨d,hd,V,K⟩:=qcT t;obtain⟨k,g⟩:=qB1 hd;obtain⟨j,c,_,_,u⟩:=qcS b hd;have f:j=i:=by omega
  have e:p.dists=p.dists.take k++d::p.dists.drop (k+1):=by
   obtain⟨M,O⟩:=qBk.1 g;have:=qB9 k p.dists;rw[qBE M,O]at this;exact this.symm
  have T:∀y∈p.dists.take k,y.var≠(i:Int):=fun y s=>by
   have:=(Q8 b g).2 y s
   rwa[c,f]at this
  have S:∀y∈p.dists.drop (k+1),y.var≠(i:Int):=fun y s P=>by
   obtain⟨m,I⟩:=qB1 s;rw[qCm]at I;refine(Q8 b I).2 d ?_ (by rw[P,c,f]);refine qBl (i:=k) ?_;rw[qDM (by omega),g]
  have N:∀(l m:List Dist) (B:Option Int),Kg (l++m) (i:Int) (x:Int) B=Kg m (i:Int) (x:Int) (Kg l (i:Int) (x:Int) B):=fun l m B=>by unfold Kg;rw[qCb]
  rw[e,N,skip _ _ T,show ∀(d:Dist) (m:List Dist) (B:Int),Kg (d::m) (i:Int) (x:Int) (some B)=Kg m (i:Int) (x:Int) (qiS (i:Int) (x:Int) B d) from fun _ _ _=>rfl,skip _ _ S];unfold qiS;rw[if_neg (by rw[c,f];simp),K];rw[C]at a⊢;unfold wtO at a⊢;dsimp only at a⊢;have z:=QG w (x:Int);obtain⟨n,r,L⟩:∃n r,zU w (x:Int)=(n,r):=⟨_,_,rfl⟩;simp only[L]at a z⊢;by_cases F:r=0
  case neg=>
   simp only[ne_eq,F,not_false_eq_true,if_true,true_or];rw[if_neg];unfold lim;have:=qCz 1099511627777 h1;omega
  subst F;simp only[ne_eq,not_true_eq_false,if_false,false_or]at a⊢;obtain⟨m,rfl⟩:=qBG z;rw[qBU]at a⊢;have R:0<m:=qEJ fun e=>by rw[e]at a;simp[sat]at a
  have G:((1099511627776:Int)/(m:Int)<(A:Int))↔1099511627776<A*m:=by
   rw[show(1099511627776:Int)/(m:Int)=((1099511627776/m:Nat):Int) by simp,Int.ofNat_lt];exact qFk R
  by_cases E:1099511627776<A*m
  . rw[if_pos ⟨by omega,G.2 E⟩,if_neg];unfold sat lim;by_cases D:m<=1099511627777
    . rw[qC9 D];omega
    rw[qEn (by omega)];have:=qCz 1099511627777 h1;omega
  have D:m<=1099511627776:=by
   have:=qCz m h1;omega
  rw[if_neg (fun h=>E (G.1 h.2)),show sat m=m by unfold sat lim;omega,if_pos (by omega)];simp
def qbS{p}(c:qg p=0){x}(e:x∈yS p.vars):∀(g:List Nat) (A:Nat),(∀i∈g,i∈(NG p).flatten/\0<wtP p i (aN x i))->1<=A->A<=1099511627776 ->
 (g.map fun n:Nat=>(n:Int)).foldl (fun s v=>Kg p.dists v (x.getD v.toNat 0) s) (some (A:Int))=if A*jN p (aN x) g<=1099511627776 then some ((A*jN p (aN x) g:Nat):Int) else none
 |[],A,_,h1,h2=>by simp[jN,h2]
 | i::g,A,d,h1,h2=>by
  obtain⟨hi,f⟩:=d i (by simp);have h:=fun j (a:j∈g)=>d j (by simp[a])
  have l:0<jN p (aN x) g:=qaM fun j a=>(h j a).2
  rw[qBz,qB2,qBU,Ji c e hi,qmH c hi f h1 h2];unfold jN;by_cases b:A*wtP p i (aN x i)<=1099511627776
  . rw[if_pos b,qbS c e g _ h (qFd h1 f) b,qFp]
  rw[if_neg b,ZO,if_neg];rw[<- qFp];have:=Nat.mul_le_mul_left (A*wtP p i (aN x i)) l;omega
def qi4{p}(d:qg p=0){g}(b:∀i∈g,i∈(NG p).flatten):∀(C) (out) (s:Nat),(∀x∈C,x∈yS p.vars/\∀i∈g,0<wtP p i (aN x i))->s<=1099511627776 ->
 qdT p.dists (g.map fun n:Nat=>(n:Int)) C out (s:Int)=if s+jl (fun x=>jN p (aN x) g) C<=1099511627776 then some (out++C.map (fun x=>(jN p (aN x) g:Int)),((s+jl (fun x=>jN p (aN x) g) C:Nat):Int)) else none
 |[],out,s,_,a=>by simp[qdT,jl,a]
 | x::C,out,s,c,a=>by
  obtain⟨e,h⟩:=c x (by simp);have ih:=fun out s a=>qi4 d b C out s (fun y f=>c y (by simp[f])) a
  have j:qmI p.dists x (g.map fun n:Nat=>(n:Int))=if jN p (aN x) g<=1099511627776 then some ((jN p (aN x) g:Nat):Int) else none:=by
   unfold qmI;have:=qbS d e g 1 (fun i hi=>⟨b i hi,h i hi⟩) (qBs _) (by omega);rw[qEA]at this;exact this
  unfold qdT;rw[j];simp only[jl,qBz];by_cases h1:jN p (aN x) g<=1099511627776
  . rw[if_pos h1];dsimp only;by_cases h2:s+jN p (aN x) g<=1099511627776
    . rw[if_neg (by omega),<- Int.natCast_add,ih _ _ h2];rw[qDu,qBX];rfl
    rw[if_pos (by omega),if_neg (by omega)]
  rw[if_neg h1,if_neg (by omega)]
noncomputable def qe3(p:Problem)(gi:Nat)(a:List Int):List (List Int):=jh p.groups gi (((NG p).getD gi []).map fun n:Nat=>(n:Int)) a (qpQ p)
structure ChL(p gi g a C):Prop where
 reps:Reps p (qt p).1 g (Ze p a gi) C
 ord:C.Pairwise fun x y=>jx x y (zQ (g.map fun n:Nat=>(n:Int)))=true
 all:∀x∈C,x∈yS p.vars/\∀i∈g,0<wtP p i (aN x i)
def qbm{p}(h0:(qt p).2=0){gi g}(b:(NG p)[gi]?=some g){a}(l:a∈yS p.vars):ChL p gi g a (qe3 p gi a):=by
 obtain⟨f,_,r,m⟩:=kQ h0;obtain⟨h1,h2⟩:=qdw f b l;unfold qe3;rw[show(NG p).getD gi []=g by rw[qBw,b];rfl];refine⟨h1,h2,fun x j=>?_⟩;obtain⟨d,c,_⟩:=h1.sol x j;refine⟨d,fun i hi=>?_⟩;have o:∀e∈zw p,evalV (ke p.vars x) e≠0:=fun e h=>by
  unfold yX at c;exact of_decide_eq_true (qBx.1 c e (m e h))
 exact(qug f d o (qB3.2 ⟨g,qBl b,hi⟩)).1
def qgg(g x):okF (fun _=>none) g x=true:=by
 unfold okF;simp
def qaq{p}(h0:(qt p).2=0){gi g}(b:(NG p)[gi]?=some g){a}(d:a∈yS p.vars):qhy p a gi=jl (fun x=>jN p (aN x) g) (qe3 p gi a):=by
 obtain⟨e,_,_,_⟩:=kQ h0;have h:=qbm h0 b d;unfold qhy;rw[show(NG p).getD gi []=g by rw[qBw,b];rfl,Kr e (fun _=>none) g _ _ (fun i hi=>qB3.2 ⟨g,qBl b,hi⟩) (fun q c=>by
  obtain⟨i,hi,rfl⟩:=qBH.1 c;obtain⟨l,h1,h2⟩:=qB3.1 hi;exact qB3.2 ⟨l,qB6 h1,h2⟩) h.reps]
 simp only[qgg,if_true]
def VB{p}(h0:(qt p).2=0){gi:Nat}{g}(b:(NG p)[gi]?=some g){a}(f:qT p.vars a=true):
 kb p gi a=if qe3 p gi a=[] then([],[],0,11) else if qhy p a gi<=1099511627776 then(qe3 p gi a,(qe3 p gi a).map (fun x=>(jN p (aN x) g:Int)),((qhy p a gi:Nat):Int),0) else([],[],0,3):=by
 obtain⟨e,_,_,_⟩:=kQ h0;have j:=QD f;have h:=qbm h0 b j;have s:=(qBk.1 b).1;have r:p.groups.length=(NG p).length:=by simp[NG]
 have m:p.groups.getD gi []=g.map fun n:Nat=>(n:Int):=by
  rw[Jj e,qBw,qBO,b];rfl
 have o:jh p.groups gi (g.map fun n:Nat=>(n:Int)) a (qpQ p)=qe3 p gi a:=by unfold qe3;rw[show(NG p).getD gi []=g by rw[qBw,b];rfl]
 unfold kb;rw[show Jz p=(qpQ p,0) by unfold Jz;rw[if_pos h0];rfl,if_neg (by simp),if_neg (by rw[f,e];simp;omega),qBU,m];simp only[o];have l:=qi4 e (fun i hi=>qB3.2 ⟨g,qBl b,hi⟩) (qe3 p gi a) [] 0 h.all (by omega);rw[qDb,<- qaq h0 b j,qBL,show((0:Nat):Int)=0 from rfl]at l;rw[l];by_cases d:qe3 p gi a=[]
 . rw[if_pos d,if_pos d]
 rw[if_neg d,if_neg d];by_cases c:qhy p a gi<=1099511627776
 . rw[if_pos c,if_pos c]
 rw[if_neg c,if_neg c]
def VC(p gi a):(kb p gi a).2.2=((wR p gi a).1,(wR p gi a).2):=by
 unfold wR;by_cases h0:(qt p).2=0
 case neg=>
  have j:Jz p=([],(qt p).2):=by unfold Jz;rw[if_neg h0]
  rw[if_pos h0];unfold kb;rw[j,if_pos h0]
 obtain⟨w,_,_,_⟩:=kQ h0;rw[if_neg (fun e=>e h0)];by_cases b:gi<0\/((NG p).length:Int)<=gi\/qT p.vars a=false
 . have j:Jz p=(qpQ p,0):=(by unfold Jz;rw[if_pos h0];rfl);unfold kb Jx;rw[j,if_neg (by simp),if_pos b,if_pos (by rw[show p.groups.length=(NG p).length by simp[NG],w];simpa using b)]
 have y:¬((NG p).length:Int)<=gi:=fun e=>b (.inr (.inl e))
 have o:qT p.vars a=true:=by
  cases hA:qT p.vars a with
  |true=>rfl
  |false=>exact absurd (.inr (.inr hA)) b
 obtain⟨k,rfl⟩:=qBG (qFm.1 fun e=>b (.inl e));obtain⟨g,d⟩:∃g,(NG p)[k]?=some g:=⟨_,qBm (by omega)⟩;have r:=QD o;have t:=qaq h0 d r;have u:=qbm h0 d r;have v:qat p (fun _=>none) a k=sat (qhy p a k):=Kv _ _ _ _;rw[VB h0 d o];unfold Jx;rw[if_neg b,qBU,v];have l:qhy p a k=0↔qe3 p k a=[]:=by
  rw[t];constructor
  . intro h;apply qCZ.2;intro x m;have h1:=qjB (f:=fun x=>jN p (aN x) g) m;have h2:0<jN p (aN x) g:=qaM (u.all x m).2;omega
  intro h;rw[h];rfl
 by_cases c:qe3 p k a=[]
 . rw[if_pos c,if_pos (Zw.2 (l.2 c))]
 rw[if_neg c,if_neg (fun e=>c (l.1 (Zw.1 e)))];by_cases s:qhy p a k<=1099511627776
 . have i:sat (qhy p a k)=qhy p a k:=(by unfold sat lim;omega);rw[if_pos s,i,if_neg (by unfold lim;omega)]
 have i:sat (qhy p a k)=lim:=by unfold sat lim;omega
 rw[if_neg s,i,if_pos rfl]
def sel(w:List Int->Nat):List (List Int)->Int->List Int
 |[],_=>[]
 |c::r,k=>if k<(w c:Nat) then c else sel w r (k-(w c:Nat))
def qjN(w):∀(C) (k),C.getD (atW (C.map fun x=>((w x:Nat):Int)) k) []=sel w C k
 |[],k=>rfl
 | c::r,k=>by
  rw[qBz];unfold atW sel;split
  . rfl
  rw[List.getD_cons_succ];exact qjN w r _
def qfM(w c r k):sel w (c::r) k=if k<(w c:Nat) then c else sel w r (k-(w c:Nat)):=rfl
def qei(w):∀(A B) (k),0<=k->sel w (A++B) k=if k<(jl w A:Nat) then sel w A k else sel w B (k-(jl w A:Nat))
 |[],B,k,h=>by simp[jl,sel];omega
 | c::A,B,k,h=>by
  obtain⟨S,a⟩:∃S,S=jl w (c::A):=⟨_,rfl⟩;have b:S=w c+jl w A:=a;rw[<- a,qBV,qfM,qfM];by_cases h1:k<(w c:Nat)
  . rw[if_pos h1,if_pos (by omega),if_pos h1]
  rw[if_neg h1,if_neg h1,qei w A B _ (by omega)];by_cases h2:k-(w c:Nat)<(jl w A:Nat)
  . rw[if_pos h2,if_pos (by omega)]
  rw[if_neg h2,if_neg (by omega)];congr 1;omega
def qeh(w):∀(A:List (List Int)) (k:Int),0<=k->k<(jl w A:Nat)->sel w A k∈A
 |[],k,h0,h1=>by simp[jl]at h1;omega
 | c::A,k,h0,h1=>by
  simp only[jl]at h1;unfold sel;split
  . simp
  exact qCE _ (qeh w A _ (by omega) (by omega))
def qnm(w:List Int->Nat)(B:Nat->List (List Int)){N q:Nat}(b:q<N){r:Int}(h0:0<=r)(h1:r<(jl w (B q):Nat)):sel w ((List.range N).flatMap B) ((jl (fun v=>jl w (B v)) (List.range' 0 q):Nat)+r)=sel w (B q) r:=by
 have e:List.range N=List.range q++q::List.range' (q+1) (N-(q+1)):=by
  rw[qCF,qCF];have h1:=List.range'_append (s:=0) (m:=q) (n:=N-q) (step:=1);obtain⟨m,a⟩:∃m,N-q=m+1:=⟨N-q-1,by omega⟩;rw[a,qC0]at h1;simp at h1;rw[show N-(q+1)=m by omega,h1,show q+(m+1)=N by omega]
 rw[e,List.flatMap_append,qBJ];rw[qei w _ _ _ (by omega),show jl w ((List.range q).flatMap B)=jl (fun v=>jl w (B v)) (List.range' 0 q) by rw[Yd,qCF],if_neg (by omega),qei w _ _ _ (by omega),if_pos (by omega)];congr 1;omega
def Ky(f:List Int->Nat):∀(N) (L),(L.Pairwise fun x y=>f x<=f y)->(∀x∈L,f x<N)->L=(List.range N).flatMap fun v=>L.filter fun x=>decide (f x=v)
 | 0,L,_,h=>by
  have:L=[]:=qCZ.2 fun x b=>by have:=h x b;omega
  subst this;rfl
 | N+1,L,c,h=>by
  rw[qCL,List.flatMap_append];have l:∀L:List (List Int),(L.Pairwise fun x y=>f x<=f y)->(∀x∈L,f x<N+1)->L=(L.filter fun x=>decide (f x<N))++L.filter fun x=>decide (f x=N):=by
   intro L
   induction L with
   |nil=>intro _ _;rfl
   | cons x L ih=>
    intro c h;rw[qDT]at c;have b:=h x (by simp);by_cases j:f x<N
    . have d:decide (f x<N)=true:=(by simp[j]);have g:decide (f x=N)=false:=(by simp;omega);rw[qDe,if_pos d,qDe,if_neg (by rw[g];simp),qBV,<- ih c.2 fun y a=>h y (by simp[a])]
    have i:∀y∈x::L,f y=N:=fun y a=>by
     rcases qBN.1 a with rfl|a
     . omega
     have:=c.1 y a;have:=h y (by simp[a]);omega
    have d:(x::L).filter (fun x=>decide (f x<N))=[]:=by
     rw[List.filter_eq_nil_iff];intro y a;simp[i y a]
    have g:(x::L).filter (fun x=>decide (f x=N))=x::L:=by
     rw[List.filter_eq_self];intro y a;simp[i y a]
    rw[d,g];rfl
  have ih:=Ky f N (L.filter fun x=>decide (f x<N)) (c.filter _) (fun x b=>by
   rw[qCk,decide_eq_true_eq]at b;exact b.2)
  have e:((List.range N).flatMap fun v=>(L.filter fun x=>decide (f x<N)).filter fun x=>decide (f x=v))=(List.range N).flatMap fun v=>L.filter fun x=>decide (f x=v):=by
   rw[qCQ,qCQ];congr 1;refine qCy fun v m=>?_
   rw[List.filter_filter];refine qEN fun x _=>?_
   have:=qCe.1 m;by_cases b:f x=v
   . simp[b,this]
   simp[b]
  rw[e]at ih
  conv=>lhs;rw[l L c h]
  rw[ih];simp
def qse{fx i v}(c:fx i=none){g}(hi:i∈g)(x):okF (yT fx i v) g x=(okF fx g x&&decide (aN x i=v)):=by
 unfold okF;rw[qCo,qBq,qBx,qBx,decide_eq_true_eq];constructor
 . intro h;refine⟨fun j b=>?_,?_⟩
   . by_cases a:j=i
     . subst a;rw[c];rfl
     . have:=h j b
       rwa[Kp a]at this
   have:=h i hi;rw[qd8]at this;simpa using this
 rintro⟨h1,h2⟩ j b;by_cases a:j=i
 . subst a;rw[qd8];simpa using h2
 rw[Kp a];exact h1 j b
def qte{p:Problem}(s:qg p=0){a:List Int}{gi:Nat}{g:List Nat}(a8:(NG p).getD gi []=g)(X:g.Nodup)(o:∀i∈g,i∈(NG p).flatten){C:List (List Int)}(Q:Reps p (qt p).1 g (Ze p a gi) C):
 ∀ (l:List Nat) (fx:Nat->Option Nat) (c:Int) (out:List Int),l.Nodup->(∀i∈l,fx i=none/\i∈g/\i<out.length)->(C.filter (okF fx g)).Pairwise (fun x y=>jx x y (l.map fun n:Nat=>(n:Int))=true) ->
  0<=c->c<(jl (fun x=>jN p (aN x) g) (C.filter (okF fx g)):Nat)->jl (fun x=>jN p (aN x) g) (C.filter (okF fx g))<lim ->
  ∀i∈l,(chP p a gi l fx c out)[i]?=some (aN (sel (fun x=>jN p (aN x) g) (C.filter (okF fx g)) c) i:Int):=by
 have z:∀fx,yO p (qt p).1 fx g (Ze p a gi)=jl (fun x=>jN p (aN x) g) (C.filter (okF fx g)):=fun fx=>by
  rw[Kr s fx g _ C o (fun q hq=>by
   obtain⟨i,hi,rfl⟩:=qBH.1 hq;obtain⟨l,h1,h2⟩:=qB3.1 hi;exact qB3.2 ⟨l,qB6 h1,h2⟩) Q,Qe]
 intro l
 induction l with
 |nil=>intro fx c out _ _ _ _ _ _ i hi;cases hi
 | cons i r ih=>
  intro fx c out A D P h0 h1 h2;rw[qC7]at A;obtain⟨M,d,a4⟩:=D i (by simp);have t:∀v,C.filter (okF (yT fx i v) g)=(C.filter (okF fx g)).filter fun x=>decide (aN x i=v):=fun v=>by
   rw[List.filter_filter];refine qEN fun x _=>?_
   rw[qse M d,Bool.and_comm]
  have I:=Ks (p:=p) (R:=(qt p).1) M g (Ze p a gi) X d;rw[z]at I;have K:∀x,x<2^jG p i->yO p (qt p).1 (yT fx i x) g (Ze p a gi)<=jl (fun x=>jN p (aN x) g) (C.filter (okF fx g)):=fun x b=>by
   rw[I];exact qjB (f:=fun x=>yO p (qt p).1 (yT fx i x) g (Ze p a gi)) (qCe.2 b)
  have J:∀x,x<2^jG p i->qat p (yT fx i x) a gi=yO p (qt p).1 (yT fx i x) g (Ze p a gi):=fun x b=>by
   rw[Kv,a8];have:=K x b;exact qC9 (by unfold Ze at this;omega)
  have B:=qfr p i;have a0:∀m,m<=2^wdN p i->jl (fun x=>qat p (yT fx i x) a gi) (List.range' 0 m)=jl (fun v=>jl (fun x=>jN p (aN x) g) ((C.filter (okF fx g)).filter fun x=>decide (aN x i=v))) (List.range' 0 m):=fun m D=>by
   refine yC fun v N=>?_
   rw[<- qCF]at N;have:=qCe.1 N;rw[J v (by rw[<- B];omega),z,t]
  have a5:jl (fun x=>qat p (yT fx i x) a gi) (List.range' 0 (2^wdN p i))=jl (fun x=>jN p (aN x) g) (C.filter (okF fx g)):=by
   rw[I,B,<- qCF];exact yC fun x b=>J x (qCe.1 b)
  obtain⟨⟨_,q1⟩,F,E,S⟩:=VI (fun x=>qat p (yT fx i x) a gi) (2^wdN p i) 0 c h0 (by rwa[a5]);unfold chP;dsimp only;generalize yz (fun x=>qat p (yT fx i x) a gi) (2^wdN p i) 0 c=q at *;rw[qDb]at q1;rw[qEu,a0 _ (by omega)]at S;have G:q.1<2^jG p i:=by rwa[<- B]
  rw[J _ G,z,t]at E
  -- the choices,by the first variable's value
  have w:∀x∈C.filter (okF fx g),x∈yS p.vars:=fun x b=>(Q.sol x (qCk.1 b).1).1
  have Y:(C.filter (okF fx g)).Pairwise fun x y=>aN x i<=aN y i:=by
   refine P.imp_of_mem ?_;intro x y b u h;rw[qBz]at h;unfold jx at h;rw[qBU,Ji s (w x b) (o i d),Ji s (w y u) (o i d)]at h;split at h
   . rename_i e;omega
   rename_i e;rw[decide_eq_true_eq]at h;omega
  have T:=Ky (fun x=>aN x i) (2^jG p i) _ Y fun x b=>by
   obtain⟨y,e1,e2,U⟩:=WR s (w x b) (o i d)
   rwa[U]
  have a6:sel (fun x=>jN p (aN x) g) (C.filter (okF fx g)) c=sel (fun x=>jN p (aN x) g) ((C.filter (okF fx g)).filter fun x=>decide (aN x i=q.1)) q.2:=by
   conv=>lhs;rw[T]
   rw[S];exact qnm _ (fun v=>(C.filter (okF fx g)).filter fun x=>decide (aN x i=v)) G F E
  have L:=qeh (fun x=>jN p (aN x) g) _ q.2 F E;have a7:(C.filter (okF (yT fx i q.1) g)).Pairwise fun x y=>jx x y (r.map fun n:Nat=>(n:Int))=true:=by
   rw[t];refine(P.filter _).imp_of_mem ?_;intro x y b u h;rw[qCk,decide_eq_true_eq]at b u;rw[qBz]at h;unfold jx at h;rw[if_pos]at h
   . exact h
   rw[qBU,Ji s (w x b.1) (o i d),Ji s (w y u.1) (o i d),b.2,u.2]
  have O:=ih (yT fx i q.1) q.2 (out.set i (q.1:Int)) A.2 (fun k j=>by
   obtain⟨W,Z,V⟩:=D k (by simp[j]);exact⟨by rw[Kp (by rintro rfl;exact A.1 j)];exact W,Z,by simpa using V⟩) a7 F (by rwa[t]) (by
    have:=K _ G;rw[z]at this;omega)
  rw[t]at O;intro k j;rw[a6];rcases qBN.1 j with rfl|j
  . rw[qe6 p a gi r _ _ _ k A.1,qBo a4];rw[qCk,decide_eq_true_eq]at L;rw[L.2]
  exact O k j
def qc4(x):∀A B:List Int,qdR x A B=(qeJ A x).reverse++B
 |[],B=>by simp[qdR,qeJ]
 | a::A,B=>by
  unfold qdR qeJ;split
  . rw[qc4 x A];simp
  simp
def qef(l):zQ l=wt l:=by
 unfold zQ wt;congr 1;funext S x;rw[qc4];simp[qeK]
def qrr(g):zQ (g.map fun n:Nat=>(n:Int))=(ka g).map fun n:Nat=>(n:Int):=by
 rw[qef,qaw]
def qfL(c):∀(g:List Nat) (a) (i),i<a.length->(qdM c (g.map fun n:Nat=>(n:Int)) a)[i]?=if i∈g then some (c.getD i 0) else a[i]?
 |[],a,i,h=>by simp[qdM]
 | j::g,a,i,h=>by
  show(qdM c (g.map fun n:Nat=>(n:Int)) (a.set ((j:Nat):Int).toNat (c.getD ((j:Nat):Int).toNat 0)))[i]?=_;rw[qBU,qfL c g _ i (by simpa using h)];by_cases b:i∈g
  . rw[if_pos b,if_pos (by simp[b])]
  rw[if_neg b];by_cases d:i=j
  . subst d;rw[if_pos (by simp),qBo h]
  rw[if_neg (by simp[b,d]),qBn (Ne.symm d)]
def vD(g)(C:List (List Int)):C.filter (okF (fun _=>none) g)=C:=by
 rw[List.filter_eq_self];intro x _;exact qgg g x
def qlQ(p gi a k):vI p gi a k=qe4 p gi a k:=by
 have L:=VC p gi a;unfold vI qe4;rw[L];dsimp only;by_cases b:(wR p gi a).2=0
 case neg=>rw[if_pos b,if_pos b]
 simp only[b,ne_eq,not_true_eq_false,if_false];by_cases d:k<0\/(wR p gi a).1<=k
 . simp only[if_pos d]
 simp only[if_neg d];have h0:(qt p).2=0:=by
  apply Classical.byContradiction;intro w;unfold wR at b;rw[if_pos w]at b;exact w b
 rw[show wR p gi a=Jx p gi a by unfold wR;rw[if_neg (fun e=>e h0)]]at b d;obtain⟨F,y,has,_,_⟩:=qfz b;obtain⟨j,_,_,_⟩:=kQ h0;obtain⟨n,rfl⟩:=qBG F;rw[qBU]at y⊢;obtain⟨N,P,u,O,z⟩:=qrj b;change (Jx p n a).1=(qhy p a n:Nat) at u;change qhy p a n<lim at z;obtain⟨g,m,D,A,o⟩:=qzz j y;have s:=QD has;have I:=(kD.1 s).len;have r:=qbm h0 m s;have l:=qaq h0 m s;rw[u]at d;have J:qe3 p n a≠[]:=fun e=>by rw[l,e]at d;simp[jl]at d;omega
 have C:=VB h0 m has;rw[if_neg J,if_pos (by unfold lim at z;omega)]at C;have G:p.groups.getD n []=g.map fun n:Nat=>(n:Int):=by
  rw[Jj j,qBw,qBO,m];rfl
 rw[C,G];dsimp only;rw[qjN (fun x=>jN p (aN x) g)];have t:=qFm.1 fun e=>d (.inl e)
 have Q:=Int.not_le.1 fun e=>d (.inr e)
 have K:=qeh (fun x=>jN p (aN x) g) (qe3 p n a) k t (by rwa[<- l]);have B:=qte j D A o r.reps (ka g) (fun _=>none) k a (qeg A) (fun i hi=>by
  obtain⟨v,M,_⟩:=km j (o i (wS.1 hi));have:=(qBk.1 M).1;exact⟨rfl,wS.1 hi,by rw[I];exact this⟩) (by rw[vD,<- qrr];exact r.ord) t (by rwa[vD,<- l]) (by rwa[vD,<- l])
 rw[vD]at B;generalize sel (fun x=>jN p (aN x) g) (qe3 p n a) k=c at *;have E:ky p n a k=chP p a n (ka g) (fun _=>none) k a:=by unfold ky;rw[D]
 refine Prod.ext ?_ rfl;dsimp only;apply qCg;intro i;by_cases hi:i<a.length
 . rw[qfL c g a i hi];by_cases f:i∈g
   . rw[if_pos f,E,B i (wS.2 f),Ji j (r.all c K).1 (o i f)]
   rw[if_neg f,E,qe6 p a n _ _ _ _ i fun h=>f (wS.1 h)]
 rw[qBW (by rw[YR];omega),qBW (by rw[vJ];omega)]
def KK:∀(n) (l),l.length=n->l.Pairwise (· < ·)->(jr l).length<=(l.filter fun x=>!decide (x-1∈l)).length/\∀r,(jr l).getLast?=some r->r.2∈l/\∀y∈l,y<=r.2
 | 0,l,h,_=>by
  have:=qBy h;subst this;exact⟨by simp[jr],fun r b=>by simp[jr]at b⟩
 | n+1,l,h,s=>by
  obtain⟨d,x,rfl⟩:∃d x,l=d++[x]:=⟨l.dropLast,l.getLast (by rintro rfl;simp at h),(qCa _).symm⟩;rw[qEv]at s;obtain⟨t,_,A⟩:=s;have g:∀y∈d,y<x:=fun y a=>A y a x (by simp)
  obtain⟨o,z⟩:=KK n d (by simpa using h) t;have b:jr (d++[x])=kV (jr d) x:=by unfold jr;rw[qCb];rfl
  have v:((d++[x]).filter fun y=>!decide (y-1∈d++[x])).length=(d.filter fun y=>!decide (y-1∈d)).length+if x-1∈d then 0 else 1:=by
   rw[qEg,qBp];congr 1
   . congr 1;refine qEN fun y a=>?_
     have:=g y a;have e:(y-1∈d++[x])↔y-1∈d:=by
      rw[qBC,qB0];exact⟨fun h=>h.resolve_right (by omega),.inl⟩
     simp only[e]
   have e:(x-1∈d++[x])↔x-1∈d:=by
    rw[qBC,qB0];exact⟨fun h=>h.resolve_right (by omega),.inl⟩
   rw[qDe];simp only[e];by_cases c:x-1∈d<;>simp[c]
  rw[b,v];unfold kV
  cases hl:(jr d).getLast? with
  | none=>
   have B:jr d=[]:=qDI.1 hl;have hd:d=[]:=qCZ.2 fun y a=>by
    obtain⟨r,b,_⟩:=(YT y d).2 a;rw[B]at b;cases b
   subst hd;simp[jr]
  | some r=>
   dsimp only;obtain⟨u,w⟩:=z r hl;by_cases i:r.2=x-1
   . rw[if_pos i];obtain⟨m,j⟩:=qDJ.1 hl;rw[j,qC4];rw[j]at o;simp only[qBp,qBB,qCc]at o⊢;refine⟨by omega,fun q f=>?_⟩;simp at f;subst f;refine⟨by simp,fun y a=>?_⟩;rcases qBC.1 a with a|a
     . have:=g y a;dsimp only;omega
     have:y=x:=by simpa using a
     dsimp only;omega
   rw[if_neg i];have c:¬x-1∈d:=fun c=>by
    have h1:=w _ c;have h2:=g _ u;omega
   rw[if_neg c];simp only[qBp,qBB,qCc];refine⟨by omega,fun q f=>?_⟩;simp at f;subst f;refine⟨by simp,fun y a=>?_⟩;rcases qBC.1 a with a|a
   . have:=g y a;dsimp only;omega
   have:y=x:=by simpa using a
   dsimp only;omega
def qhW{x y}:∀{l:List Weight},(∀w∈l,inW x w=inW y w)->vX l x=vX l y:=by
 intro l h;unfold vX;have:l.find? (inW x)=l.find? (inW y):=by
  induction l with
  |nil=>rfl
  | cons w l ih=>
   rw[qDS,qDS,h w (by simp),ih fun z a=>h z (by simp[a])]
 rw[this]
def qnq(v l):(jr (ZR v l)).length<=2*l.length+1:=by
 obtain⟨d,f⟩:=qas v l;have h1:=(KK _ _ rfl d).1;have a:((ZR v l).filter fun x=>!decide (x-1∈ZR v l)).Nodup:=(d.imp fun h e=>by omega:(ZR v l).Pairwise (·≠·)).filter _;have g:∀x∈(ZR v l).filter fun x=>!decide (x-1∈ZR v l),x∈(0:Int)::l.flatMap fun w=>[w.lo,w.hi+1]:=fun x j=>by
  rw[qCk]at j;obtain⟨i,c⟩:=j;have c:¬x-1∈ZR v l:=by simpa using c
  have A:=f x i;by_cases h0:x=0
  . simp[h0]
  have s:=(qCk.1 i).2;have t:vX l (x-1)=false:=by
   rw[qCs];intro y;refine c (qCk.2 ⟨?_,y⟩);exact qBH.2 ⟨(x-1).toNat,qCe.2 (by omega),by omega⟩
  have:¬∀w∈l,inW x w=inW (x-1) w:=fun h=>by
   have:=qhW h;rw[s,t]at this;cases this
  have:∃w∈l,inW x w≠inW (x-1) w:=by
   apply Classical.byContradiction;intro a;exact this fun w b=>Classical.byContradiction fun m=>a ⟨w,b,m⟩
  obtain⟨w,b,z⟩:=this;refine qCE _ (qEX.2 ⟨w,b,?_⟩);by_cases o:x=w.lo
  . simp[o]
  by_cases r:x=w.hi+1
  . simp[r]
  exfalso;refine z ?_;unfold inW;rw[show decide (w.lo<=x)=decide (w.lo<=x-1) by rw[decide_eq_decide];omega,show decide (x<=w.hi)=decide (x-1<=w.hi) by rw[decide_eq_decide];omega]
 have h2:=K1 a g;have u:(l.flatMap fun w=>[w.lo,w.hi+1]).length=2*l.length:=by
  clear h1 h2 a g d f
  induction l with
  |nil=>rfl
  |cons w l ih=>rw[qBJ,qBp,ih];simp;omega
 rw[qBB,u]at h2;omega
def qrP(x):Pure prog GG 204 [.int .u64 x] (.int .u64 (qim x)):=by
 refine qFD func204 ?_;simp[IntKind.bits];rfl
def qrL(x k):Pure prog GG 156 [.int .u64 x,.int .u64 k] (.int .u64 (qvl x k)):=by
 refine qFD func156 ?_;simp;refine qFG (qrP _) ?_ rfl;simp;rfl
def qnw(r):Pure prog GG 106 [.agg (jt r)] (.tup [.int .u64 (Zf r).1,.agg (jt (Zf r).2)]):=by
 refine qFD func106 ?_;simp[jt];refine qFG (qrL _ _) ?_ rfl;simp;exact⟨rfl,rfl,rfl⟩
def qtb{n:Int}(h1:1<=n)(h2:n<=4611686018427387904):((18446744073709551615:Int).tmod n+1).tmod n=qo6 n:=by
 unfold qo6;have a:n≠0:=by omega
 have c:=qEa (18446744073709551615:Int) a;have b:(18446744073709551615:Int).tmod n=18446744073709551615%n:=qCr (by omega);rw[show IntKind.u64.wrap (0-n)=18446744073709551616-n by rw[qqV];omega,b,show((18446744073709551615:Int)%n+1).tmod n=(18446744073709551615%n+1)%n from qCr (by omega),show(18446744073709551616-n).tmod n=(18446744073709551616-n)%n from qCr (by omega),Int.emod_add_emod,show(18446744073709551615:Int)+1=18446744073709551616-n+n by omega,Int.add_emod_right]
def qti(n r):Pure prog GG 66 [.agg (jt r),.int .i64 n] (qiT (yZ n r)):=by
 refine qFD func66 ?_;by_cases h1:n<1
 . have e:yZ n r=(0,(0,0),1):=if_pos (.inl h1);rw[e];simp[h1,qiT,jt]
 by_cases h2:4611686018427387904<n
 . have e:yZ n r=(0,(0,0),1):=if_pos (.inr h2);rw[e];simp[h1,h2,qiT,jt]
 have e:yZ n r=((yf n r).1,(yf n r).2,0):=if_neg (fun h=>h.elim h1 h2);rw[e];have g:¬n=0:=by omega
 have I:=wru (n:=n) (by omega) (by omega);have P:=qtb (n:=n) (by omega) (by omega);have V:(18446744073709551615:Int).tmod n=18446744073709551615%n:=qCr (by omega);have S:=qEa (18446744073709551615:Int) g;have U:=qEh (18446744073709551615:Int) (show 0<n by omega);have N:=wru (n:=(18446744073709551615:Int).tmod n+1) (by omega) (by omega);obtain⟨j,B⟩:∃j,j=YH (qo6 n) 64 0 r:=⟨_,rfl⟩;have G:=Q7 (qo6 n) 64 0 r (by omega) (by omega);rw[<- B]at G;rw[show yf n r=(j.1.tmod n,j.2) by rw[B];rfl];generalize qo6 n=cut at *;simp[h1,h2,ye,I,g,jt,N,P];refine qFL (fun m ev σ=>∃(i:Nat) (v:Int) (c:Rng) (u:List Blk),m=64-i/\i<=63/\ev 2=.ptr 0 0/\ev 5=.ptr 1 0/\ev 7=.int .u64 n/\ev 8=.int .u64 cut/\ev 9=.int .i64 i/\σ=⟨[.cells (jt c),.cells [.int .u64 0,.int .u64 0]]++u,[]⟩/\j=YH cut (64-i) v c) 64 ?_ ?_
 . exact⟨0,0,r,[],rfl,by omega,by simp,by simp,by simp,by simp,by simp,by simp[jt],B⟩
 rintro m ev σ R O ⟨i,v,c,u,rfl,hi,b,t,l,o,s,rfl,a⟩;have E:(i:Int)<64:=by omega
 have M:=wr (n:=(i:Int)+1);obtain⟨k,K⟩:∃k,64-i=k+1:=⟨63-i,by omega⟩;rw[K]at a;unfold YH at a;have w:=qnw c;have D:0<=(Zf c).1/\(Zf c).1<18446744073709551616:=by
  unfold Zf qvl qim qi3;dsimp only;rw[qqV];omega
 obtain⟨x,r',F⟩:∃x r',Zf c=(x,r'):=⟨_,_,rfl⟩;rw[F]at a w D;simp only[jt]at w;have C:x.tmod n=x%n:=qCr D.1;have T:=qEa x g;have Q:=qEh x (by omega:0<n);have A:=wr (n:=x.tmod n) (by rw[C];omega) (by rw[C];omega);by_cases y:cut=0\/x<IntKind.u64.wrap (0-cut)\/i=63
 . have L:j=(x,r'):=by
    rcases y with h|h|h
    . rw[if_pos (.inl h)]at a;exact a
    . rw[if_pos (.inr h)]at a;exact a
    have:k=0:=by omega
    subst this;split at a
    . exact a
    exact a
   rw[L];dsimp only;simp[b,s,E,jt];refine qFG w ?_ rfl;by_cases d:cut=0
   . simp[b,t,l,o,d,g,ye,A,qiT,jt]
   by_cases f:x<IntKind.u64.wrap (0-cut)
   . have z:x<IntKind.u64.wrap (-cut):=(by simpa using f);simp[b,t,l,o,d,z,unA,g,ye,A,qiT,jt]
   have z:¬x<IntKind.u64.wrap (-cut):=(by simpa using f);have J:i=63:=by
    rcases y with h|h|h
    . exact absurd h d
    . exact absurd h f
    exact h
   subst J;simp[b,t,l,o,s,d,z,unA,g,ye,A,qiT,jt]
 have d:¬cut=0:=fun e=>y (.inl e)
 have f:¬x<IntKind.u64.wrap (0-cut):=fun e=>y (.inr (.inl e))
 rw[if_neg (fun h=>h.elim d f)]at a;simp[b,s,E,jt];refine qFG w ?_ rfl;simp[b,l,o,s,d,show ¬x<IntKind.u64.wrap (-cut) by simpa using f,show ¬(i:Int)=63 by omega,unA,M];exact O (64-(i+1)) _ _ (by omega) ⟨i+1,x,r',u++[.cells [.int .u64 r'.1,.int .u64 r'.2]],rfl,by omega,by simp[b],by simp[t],by simp[l],by simp[o],by simp,by simp[jt],by rw[show 64-(i+1)=k by omega];exact a⟩
def qfQ(p)(h:RfH p)(E:VP p)(D:RnH p)(r):Pure prog GG 32 [.agg (qw p),.agg (jt r)] (qtI (zo p r)):=by
 refine qFD func32 ?_;have l:=YV p h;simp only[qw]at l;by_cases h0:(qt p).2=0
 case neg=>
  have hs:zo p r=([],(0,0),(qt p).2):=if_pos h0;rw[hs];simp[jt];refine qFG (G:=qW GG) l ?_;simp[h0,qtI,jt]
  try simp[Leq,zl]
 obtain⟨N,_,_,_⟩:=kQ h0;have C:=qln p h.vq.vars;rw[show p.vars.map Var.value=qZ p.vars from Zr N]at C;rw[h0]at l;simp only[qw]at C;have U:=h.vq.vars;have a0:p.groups.length=(NG p).length:=by simp[NG]
 have a3:=(J7 N U).2;have z:(p.groups.length:Int)=(NG p).length:=by omega
 obtain⟨w,B⟩:∃w,w=zo p r:=⟨_,rfl⟩;rw[<- B];rw[show zo p r=qgD p (List.range (NG p).length) (qZ p.vars) r from if_neg (fun e=>e h0),qCF]at B;generalize (qt p).1=L at l;simp[jt];refine qFG (G:=qW GG) l ?_;simp;refine qFG (G:=qW GG) C ?_;simp;refine yu (NG p).length (fun k ev σ=>∃(a:List Int) (c:Rng) (u:List Blk),ev 2=.ptr 0 0/\ev 3=.ptr 1 0/\ev 5=.ptr 2 0/\ev 9=.sl 1 (a.map qf) .none/\ev 10=.int .i64 k/\σ=⟨[.cells (qw p),.cells (jt c),.cells [.int .u64 0,.int .u64 0]]++u,[]⟩/\a.length=p.vars.length/\w=qgD p (List.range' k ((NG p).length-k)) a c) ?_ ?_ ?_
 . exact⟨qZ p.vars,r,[],by simp,by simp,by simp,by simp,by simp,by simp[qw,jt],kN _,by rw[B,qEu]⟩
 . rintro k ev σ R hR a4 ⟨a,c,u,i,j,s,o,g,rfl,Q,f⟩;have J:(k:Int)<(NG p).length:=(by omega);have V:=wr (n:=(k:Int)+1);have K:Fits a:=(by unfold Fits;omega);have Z:List.range' k ((NG p).length-k)=k::List.range' (k+1) ((NG p).length-(k+1)):=by
    obtain⟨m,X⟩:∃m,(NG p).length-k=m+1:=⟨(NG p).length-k-1,by omega⟩;rw[X,qC0,show(NG p).length-(k+1)=m by omega]
   rw[Z]at f;unfold qgD at f;have x:=qri p h E D k a K;have M:wR p k a=Jx p k a:=(by unfold wR;rw[if_neg (fun e=>e h0)]);have Y:=VC p k a;rw[Y,M]at x;have T:=qfz (p:=p) (gi:=(k:Int)) (a:=a);have I:=fun d=>qpf p h E D k a K d
   have P:∀d:Int,vI p k a d=if(Jx p k a).2≠0 then([],(Jx p k a).2) else if d<0\/(Jx p k a).1<=d then([],12) else(ky p k a d,0):=fun d=>by
    rw[qlQ];unfold qe4;rw[M,qBU]
   have O:∀d,(ky p k a d).length=a.length:=fun d=>vJ _ _ _ _
   simp only[qw]at x I;generalize Jx p (k:Int) a=S at *;obtain⟨t,e⟩:=S;by_cases y:e=0
   case neg=>
    rw[if_pos y]at f;simp[i,o,g,z,J,qw];refine qFG (G:=qW GG) x ?_;simp[j,s,y,f,qtI,jt]
    try simp[Leq,zl]
   subst y;rw[if_neg (fun e=>e rfl)]at f;obtain⟨_,_,_,n1,W⟩:=T rfl;unfold lim at W;have a2:=Yx (n:=t) (by omega) c;have v:=qti t c;rw[show yZ t c=((yf t c).1,(yf t c).2,0) from if_neg (by omega)]at v f;rw[if_neg (fun e=>e rfl)]at f;have F:=I (yf t c).1;rw[P,if_neg (fun e=>e rfl),if_neg (by omega)]at F;have a1:=O (yf t c).1;unfold qiT at v;generalize (yf t c).1=d at *;generalize (yf t c).2=A at *;generalize ky p k a d=b at *;simp only[jt]at v;simp[i,o,g,z,J,qw,jt];refine qFG (G:=qW GG) x ?_;simp[j,g];refine qFG v ?_ rfl;simp[i,j,o,g];refine qFG (G:=qW GG) F ?_;simp[g,V];exact hR _ _ ⟨b,A,u++[.cells [.int .u64 A.1,.int .u64 A.2]],by simp[i],by simp[j],by simp[s],by simp,by simp,by simp[qw,jt],by omega,f⟩
 rintro ev σ ⟨a,c,u,i,j,s,o,g,rfl,Q,f⟩;have:w=(a,c,0):=by rw[f,qCh];rfl
 subst this;simp[i,j,s,o,g,z,qtI,qw,jt]
noncomputable def qiV(st:Problem×List (List Int))(x:Var×List Int):Problem×List (List Int) :=
 if x.1.mode≠2\/x.2.length=2^x.1.width.toNat then(st.1,st.2++[[]])
 else if(qt (Zb st.1 (qbI x.1 x.2))).2=11 then(st.1,st.2++[[]]) else(Zb st.1 (qbI x.1 x.2),st.2++[x.2])
noncomputable def qaK(l:List (Var×List Int))(q:Problem):Problem×List (List Int):=l.foldl qiV (q,[])
def qj4(l x q):qaK (l++[x]) q=qiV (qaK l q) x:=by
 unfold qaK;rw[qCb];rfl
noncomputable def qmz(p:Problem)(c:List (List Int))(r:Rng):List Int×List (List Int)×Rng×Int :=
 if qg p≠0 then([],[],(0,0),qg p)
 else if yt p.vars c=false then([],[],(0,0),1)
 else if(qt p).2≠0 then([],[],(0,0),(qt p).2)
 else if(zo (qaK (p.vars.zip c) p).1 r).2.2≠0 then([],[],(0,0),(zo (qaK (p.vars.zip c) p).1 r).2.2)
 else((zo (qaK (p.vars.zip c) p).1 r).1,qdP p.vars (qaK (p.vars.zip c) p).2 (zo (qaK (p.vars.zip c) p).1 r).1,(zo (qaK (p.vars.zip c) p).1 r).2.1,0)
def qr1:List (Nat×Sch×List Nat):=[(15,.step 0 [16,14] (.step 1 [16,14] (.step 2 [16,14,13,6,5,3] (.step 3 [16,14,13,6,5] (.step 4 [16,14,13,6,5] (.step 5 [16,14,13,6] (.step 6 [16,14,13] (.step 7 [16,14,13,12,11,10,8] (.step 8 [16,14,13,12,11,10] (.step 9 [16,14,13,12,11,10] (.step 10 [16,14,13,12,11] (.step 11 [16,14,13,12] (.step 12 [16,14,13] (.step 13 [16,14] (.step 14 [16] (.step 15 [16] (.step 16 [] (.done))))))))))))))))),[]),(19,.step 0 [11,10,1] (.step 2 [11,10] (.step 3 [11,10,9] (.step 4 [11,10,9,8,7,5] (.step 5 [11,10,9,8,7] (.step 6 [11,10,9,8,7] (.step 7 [11,10,9,8] (.step 8 [11,10,9] (.fork (.cons 1 (.step 9 [11,10] (.step 10 [11] (.step 11 [] (.done)))) (.cons 9 (.step 1 [11,10] (.step 10 [11] (.step 11 [] (.done)))) (.nil))))))))))),[]),(27,.step 0 [15,14,1] (.step 2 [15,14] (.step 3 [15,14,13,7,6,4] (.step 4 [15,14,13,7,6] (.step 5 [15,14,13,7,6] (.step 6 [15,14,13,7] (.step 7 [15,14,13] (.step 8 [15,14,13,12,11,10] (.step 9 [15,14,13,12,11,10] (.step 10 [15,14,13,12,11] (.step 11 [15,14,13,12] (.step 12 [15,14,13] (.fork (.cons 1 (.step 13 [15,14] (.step 14 [15] (.step 15 [] (.done)))) (.cons 13 (.step 1 [15,14] (.step 14 [15] (.step 15 [] (.done)))) (.nil))))))))))))))),[]),(28,.step 0 [6,5,4,3] (.step 1 [6,5,4] (.step 3 [6,5,4] (.fork (.cons 2 (.step 4 [6,5] (.step 5 [6] (.step 6 [] (.done)))) (.cons 4 (.step 2 [6,5] (.step 5 [6] (.step 6 [] (.done)))) (.nil)))))),[])]
def qm9(p)(a:p.vars.length<=1000)(h0:p.vars≠[])(H T):qh prog GG 29 [.agg (qw p)] ⟨H,T⟩ (qAb p.vars.length H):=by
 refine qFE o0 func29 ?_;simp[qz,qV,zt,qx,show(p.vars.length:Int)<=549755813888 by omega,h0];refine⟨qGe,_,rfl,?_,?_⟩
 . simp
 simp
structure RefH(p:Problem)(c:List (List Int)):Prop where
 rf:RfH p
 rn:RnH p
 vp:qg p=0->VP p
 sum:p.hard.length+p.vars.length<=20
 cl:Fits c
 cll:∀l∈c,Fits l
 w7:qg p=0->∀v∈p.vars,v.mode=2->v.width<=7
def qj5{p q k}(a:MoreH p q k){us}{v:Var}(f:jS v=0)(g:v∈p.vars)(e:Fits v.name){u}(d:v.mode=2->u.length≠2^v.width.toNat->jM v.width u≠[]):MoreH p (qiV (q,us) (v,u)).1 (k+1):=by
 unfold qiV;split
 . exact a.mono (by omega)
 rename_i b;simp only[not_or,ne_eq,Decidable.not_not]at b;split
 . exact a.mono (by omega)
 have c:=qfP f (d b.1 b.2);exact a.add (c.tame e (by omega) (by omega)) (c.valid (by omega) (by omega) (by unfold wK;rw[qBM];exact⟨v,g,by simp⟩))
def qv6(H e):qE (Abs.frz H 8 (.tup [.sl 0 [] .nil,.agg [.sl 0 [] .nil],.agg [.int .u64 0,.int .u64 0],.int .i64 e]))=true/\Leq (Abs.frz H 8 (.tup [.sl 0 [] .nil,.agg [.sl 0 [] .nil],.agg [.int .u64 0,.int .u64 0],.int .i64 e])) (qng ([],[],(0,0),e)):=by
 rw[ql (by simp)];simp[qng,jp,jt,Leq,zl]
def qfK{α:Type}{l:List α}{k:Nat}{x}(h:l[k]?=some x):l.set k x=l:=by
 apply qCg;intro i;by_cases hi:k=i
 . subst hi;rw[qBo (qBk.1 h).1,h]
 rw[qBn hi]
structure FixB(p:Problem)(c:List (List Int))(r:Rng)(B N n:Nat)(q:Problem)(H:List Blk):Prop where
 b0:H[0]?=some (.cells (qw p))
 b1:H[1]?=some (.cells (jp c))
 b2:H[2]?=some (.cells (jt r))
 b3:H[3]?=some (.cells [.sl 0 [] .nil])
 b4:H[4]?=some (.cells [.int .u64 0,.int .u64 0])
 b5:H[5]?=some (.cells (qw q))
 bN:H[N]?=some (.cells [.ms B 0 n 1])
 lo:5<B
 lt:B<N
def FixB.app{p c r B N n q H}(h:FixB p c r B N n q H)(t):FixB p c r B N n q (H++t):=⟨qa h.b0 _,qa h.b1 _,qa h.b2 _,qa h.b3 _,qa h.b4 _,qa h.b5 _,qa h.bN _,h.lo,h.lt⟩
def FixB.setB{p c r B N n q H}(h:FixB p c r B N n q H)(y):FixB p c r B N n q (H.set B y):=by
 have a:∀k,k≠B->(H.set B y)[k]?=H[k]?:=fun k b=>qBn (Ne.symm b)
 have:=h.lo;have:=h.lt;exact⟨by rw[a _ (by omega)];exact h.b0,by rw[a _ (by omega)];exact h.b1,by rw[a _ (by omega)];exact h.b2,by rw[a _ (by omega)];exact h.b3,by rw[a _ (by omega)];exact h.b4,by rw[a _ (by omega)];exact h.b5,by rw[a _ (by omega)];exact h.bN,h.lo,h.lt⟩
def FixB.setQ{p c r B N n q H}(h:FixB p c r B N n q H)(b):FixB p c r B N n b (H.set 5 (.cells (qw b))):=by
 have a:∀k y,k≠5->(H.set 5 y)[k]?=H[k]?:=fun k y d=>qBn (Ne.symm d)
 have:=h.lo;have:=h.lt;exact⟨by rw[a _ _ (by omega)];exact h.b0,by rw[a _ _ (by omega)];exact h.b1,by rw[a _ _ (by omega)];exact h.b2,by rw[a _ _ (by omega)];exact h.b3,by rw[a _ _ (by omega)];exact h.b4,qBo (qBk.1 h.b5).1,by rw[a _ _ (by omega)];exact h.bN,h.lo,h.lt⟩
def qzv(N k:Nat)(ev:Env):Prop:=ev 3=.ptr 0 0/\ev 4=.ptr 1 0/\ev 5=.ptr 2 0/\ev 7=.ptr 3 0/\ev 8=.ptr 4 0/\ev 11=.ptr 5 0/\ev 12=.ptr N 0/\ev 13=.int .i64 k
def qtx(p c)(h:RefH p c)(r):Pure prog GG 8 [.agg (qw p),.agg (jp c),.agg (jt r)] (qng (qmz p c r)):=by
 refine qFC ⟨true,qr1,[],[]⟩ true func8 ?_;have hq:=h.rf.vq;have l5:=QI p hq h.rf.flat;have i9:=YV p h.rf;simp[jt,jp];refine qFG l5 ?_;by_cases P:qg p=0
 case neg=>
  rw[show qmz p c r=([],[],(0,0),qg p) from if_pos P];simp[P];exact qv6 _ _
 have hw:∀v∈p.vars,1<=v.width/\v.width<=8:=fun v g=>by have:=zb (zJ P v g);omega
 have l6:=h.rn.v20;have d0:=h.vp P;have l1:=qvO p c (by unfold Fits;omega) h.cl h.cll (fun v g=>by have:=hw v g;omega);simp[P];refine qFG l1 ?_;cases hf:yt p.vars c
 case false=>
  rw[show qmz p c r=([],[],(0,0),1) by unfold qmz;rw[if_neg (by simp[P]),if_pos hf]];simp;exact qv6 _ _
 simp;refine qFG i9 ?_;by_cases he:(qt p).2=0
 case neg=>
  rw[show qmz p c r=([],[],(0,0),(qt p).2) by unfold qmz;rw[if_neg (by simp[P]),if_neg (by simp[hf]),if_pos he]];simp[he];exact qv6 _ _
 have g6:c.length=p.vars.length:=by
  unfold yt at hf;simp only[qBq,decide_eq_true_eq]at hf;exact hf.1
 have j0:qmz p c r=(if(zo (qaK (p.vars.zip c) p).1 r).2.2≠0 then([],[],(0,0),(zo (qaK (p.vars.zip c) p).1 r).2.2) else((zo (qaK (p.vars.zip c) p).1 r).1,qdP p.vars (qaK (p.vars.zip c) p).2 (zo (qaK (p.vars.zip c) p).1 r).1,(zo (qaK (p.vars.zip c) p).1 r).2.1,0)):=by
  unfold qmz;rw[if_neg (by simp[P]),if_neg (by simp[hf]),if_neg (by simp[he])]
 rw[j0];by_cases h0:p.vars=[]
 . have M:=qrp p (by omega);have c1:=qfQ p h.rf d0 h.rn r;simp only[h0,List.zip_nil_left,qCc,qDN]at M⊢;simp only[qw,jt,qtI,h0,qBS]at M c1;rw[show qaK [] p=(p,[]) from rfl];dsimp only;simp[he,h0];refine qFG M ?_;simp;refine yu 0 (fun _ ev σ=>ev=_/\σ=_) ⟨rfl,rfl⟩ (fun i _ _ _ _ hi=>absurd hi (by omega)) ?_;rintro _ _ ⟨rfl,rfl⟩;simp;refine qFG c1 ?_;obtain⟨a,O,e⟩:=zo p r;by_cases hE:e=0
   . simp[hE];refine yu 0 (fun _ ev σ=>ev=_/\σ=_) ⟨rfl,rfl⟩ (fun i _ _ _ _ hi=>absurd hi (by omega)) ?_;rintro _ _ ⟨rfl,rfl⟩;simp;rw[qG rfl];simp[qX];rw[ql (by simp)];simp[qng,qdP,jt,Leq,zl]
   simp[hE];exact qv6 _ _
 obtain⟨n,hn⟩:∃n,n=p.vars.length:=⟨_,rfl⟩;rw[<- hn]at l6 g6;have M:=qm9 p (by omega) h0;have i8:Fits p.vars:=by unfold Fits;omega
 have o4:(p.vars.zip c).length=n:=by rw[List.length_zip,g6,<- hn,Nat.min_self]
 obtain⟨ST,c9⟩:∃ST,ST=fun k=>qaK ((p.vars.zip c).take k) p:=⟨_,rfl⟩
 have e6:ST 0=(p,[]):=by rw[c9];rfl
 have h9:qaK (p.vars.zip c) p=ST n:=by rw[c9];dsimp only;rw[qBr (by omega)]
 have g8:∀k v u,p.vars[k]?=some v->c[k]?=some u->ST (k+1)=qiV (ST k) (v,u):=fun k v u h1 h2=>by
  rw[c9];dsimp only;rw[qBQ,show(p.vars.zip c)[k]?=some (v,u) from qCA.2 ⟨h1,h2⟩,<- qj4];rfl
 have j1:=(QZ (by omega)).1 hf;have d5:∀(k:Nat) (v:Var) (u:List Int),p.vars[k]?=some v->c[k]?=some u->u.length<=2^v.width.toNat/\u.length<=2^8:=fun k v u h1 h2=>by
  obtain⟨g1,g2⟩:=qgf (qp8 (j1 k v u h1 h2)).2;have:=(qkm _ u g1 g2).1;have:=hw v (qBl h1);have:2^v.width.toNat<=2^8:=qBF (by omega) (by omega);omega
 have g5:∀(k:Nat) (v:Var) (u:List Int),p.vars[k]?=some v->c[k]?=some u->v.mode=2->u.length≠2^v.width.toNat->jM v.width u≠[]:=fun k v u h1 h2 _ L=>qaJ (by
  have:=(d5 k v u h1 h2).1;omega)
 have g3:∀k,k<=n->MoreH p (ST k).1 k/\(ST k).2.length=k/\∀u∈(ST k).2,u.length<=2^8:=fun k=>by
  induction k with
  |zero=>exact fun _=>by rw[e6];exact⟨qGb p,rfl,by simp⟩
  | succ k ih=>
   intro X;obtain⟨i1,i2,i3⟩:=ih (by omega);obtain⟨v,g⟩:∃v,p.vars[k]?=some v:=⟨_,qBm (by omega)⟩;obtain⟨u,s⟩:∃u,c[k]?=some u:=⟨_,qBm (by omega)⟩;have E:=qBl g;rw[g8 k v u g s];refine⟨qj5 i1 (zJ P v E) E (hq.names v E) (g5 k v u g s),?_⟩;have hl:=(d5 k v u g s).2;have f0:∀{y:List Int},y.length<=2^8->∀x∈(ST k).2++[y],x.length<=2^8:=fun hy x d=>by
    rcases qBC.1 d with d|d
    . exact i3 x d
    rw[qB0.1 d];exact hy
   unfold qiV;split
   . exact⟨by simp[i2],f0 (by simp)⟩
   split
   . exact⟨by simp[i2],f0 (by simp)⟩
   exact⟨by simp[i2],f0 hl⟩
 have e2:∀k q,k<=n->MoreH p q k->RfH q/\VP q/\RnH q:=fun k q X l=>by
  have hs:=h.sum;have Y:=l.vq hq (by omega);have j3:q.hard.length<=20:=by
   obtain⟨_,_,_,_,es,q1,q2,_⟩:=l;rw[q1,qBp];omega
  refine⟨⟨Y,by rw[l.groups];exact h.rf.flat,by rw[l.dists];exact h.rf.dists,by rw[l.soft];exact h.rf.soft,by rw[l.dists];exact h.rf.runs⟩,⟨by rw[l.vars];exact d0.vars20,Y.names,j3,by rw[l.soft];exact d0.soft20,Y.exprs,Y.dists,Y.weights,Y.groups,Y.group,by rw[l.groups];exact d0.flat⟩,⟨Y,by rw[l.vars];exact h.rn.v20,by rw[l.bits P];exact h.rn.bits,by rw[l.dists];exact h.rn.dl,by rw[l.soft];exact h.rn.sl,by rw[l.dists];exact h.rn.wl⟩⟩
 rw[h9];clear c9 h9;simp[he];refine qFJ (M _ _) ?_;rintro v ⟨Z,T1⟩ ⟨i4,B,rfl,hB,cw⟩;dsimp only at i4 cw;simp only[qBB,qCc]at hB;have o6:=(qBk.1 cw).1;rw[<- hn]at cw;have hF:FixB p c r B Z.length n p (Z++[.cells [.ms B 0 n 1]]):=by
  have X:∀k x,([Blk.cells (qw p),.cells (jp c),.cells (jt r),.cells [.sl 0 [] .nil],.cells [.int .u64 0,.int .u64 0],.cells (qw p)]:List Blk)[k]?=some x->(Z++[.cells [.ms B 0 n 1]])[k]?=some x:=fun k x h=>qa (i4.2 k x (by simpa[jt] using h) (by simp)) _
  exact⟨X 0 _ rfl,X 1 _ rfl,X 2 _ rfl,X 3 _ rfl,X 4 _ rfl,X 5 _ rfl,by simp,by omega,by omega⟩
 simp[<- hn];refine yu n (fun k ev σ=>qzv Z.length k ev/\FixB p c r B Z.length n (ST k).1 σ.H/\∃ws,σ.H[B]?=some (.cells ws)/\ws.length=n/\qbG ws/\(∀(i:Nat) (u:List Int) (x:AV),(ST k).2[i]?=some u->ws[i]?=some x->vY Z.length σ.H x u)/\∀(i:Nat) (x:AV),k<=i->ws[i]?=some x->x=.sl 0 [] .nil) ?_ ?_ ?_
 . refine⟨⟨by simp,by simp,by simp,by simp,by simp,by simp,by simp,by simp⟩,by rw[e6];exact hF,_,qa cw _,by simp,(fun i j b b' k k' _ d=>by have:=qDs (qBl d);cases this),fun i u x hi=>by rw[e6]at hi;simp at hi,fun i x _ d=>qDs (qBl d)⟩
 . rintro k ev ⟨C,T2⟩ R hR m5 ⟨⟨m,Q,e5,G,J,V,D,U⟩,f,ws,cw,W,d1,a2,b9⟩;dsimp only at f cw a2;generalize Z.length=N at *;have b0:=f.b0;have b1:=f.b1;have b5:=f.b5;have bN:=f.bN;have c8:=f.lo;have c7:=f.lt;simp only[qw,jp]at b0 b1;have c0:(k:Int)<n:=(by omega);have c4:k+1<=n:=(by omega);have T:=wr (n:=(k:Int)+1);obtain⟨v,g⟩:∃v,p.vars[k]?=some v:=⟨_,qBm (by omega)⟩;obtain⟨u,s⟩:∃u,c[k]?=some u:=⟨_,qBm (by omega)⟩;have c2:=qBl g;have n1:=hw v c2;have h7:¬v.width<0:=(by omega);have f8:=yo (w:=v.width) (by omega) (by omega);have i0:=qry (w:=v.width) (by omega) (by omega);have M:=g8 k v u g s;obtain⟨l,e0,_⟩:=g3 k (by omega);have a0:(k:Int)<p.vars.length:=(by omega);have b8:(k:Int)<c.length:=(by omega);have f4:ws[k]?=some (.sl 0 [] .nil):=by
    obtain⟨x,d⟩:∃x,ws[k]?=some x:=⟨_,qBm (by omega)⟩;rw[d,b9 k x (qBs _) d]
   -- the variable's history stays empty
   have qim:∀A T' H' t,H'=C++t->qzv N (k+1) A->ST (k+1)=((ST k).1,(ST k).2++[[]])->R A ⟨H',T'⟩:=by
    intro A T' H' t ht hr hs;subst ht;refine hR _ _ ⟨hr,by rw[hs];exact f.app t,ws,qa cw _,W,d1,fun i u x hi d=>?_,fun i x hi=>b9 i x (by omega)⟩;rw[hs]at hi;dsimp only at hi;by_cases h4:i<k
    . rw[qBv (by omega)]at hi;exact(a2 i u x hi d).keep (qGe (bs:=[])) (by simp)
    have:=(qBk.1 hi).1;have d3:i=k:=(by simp at this;omega);subst d3;rw[qBt (by omega),e0,qCh]at hi;simp at hi;rw[f4]at d;cases d;exact .inl ⟨hi,.inr rfl⟩
   simp[m,U,b0,a0];rw[wd (by rfl)];by_cases E:v.mode=2
   case neg=>
    simp[-getElem?_pos,m,U,b0,a0,g,qu,E,T];exact qim _ _ _ [] (by simp) ⟨by simp[m],by simp[Q],by simp[e5],by simp[G],by simp[J],by simp[V],by simp[D],by simp⟩ (by rw[M];exact if_pos (.inl E))
   by_cases c6:u.length=2^v.width.toNat
   . have d7:(u.length:Int)=((2^v.width.toNat:Nat):Int):=(by omega);simp[-getElem?_pos,-Int.natCast_pow,m,Q,U,b0,b1,a0,b8,g,s,qu,qn,E,h7,IntKind.bits,f8,i0,ye,d7,T];exact qim _ _ _ [] (by simp) ⟨by simp[m],by simp[Q],by simp[e5],by simp[G],by simp[J],by simp[V],by simp[D],by simp⟩ (by rw[M];exact if_pos (.inr c6))
   have d7:¬(u.length:Int)=((2^v.width.toNat:Nat):Int):=(by omega);have M:ST (k+1)=if(qt (Zb (ST k).1 (qbI v u))).2=11 then((ST k).1,(ST k).2++[[]]) else(Zb (ST k).1 (qbI v u),(ST k).2++[u]):=by
    rw[M];exact if_neg (by simp[E,c6])
   have n9:=h.w7 P v c2 E;have n4:2^v.width.toNat<=2^7:=qBF (by omega) (by omega);have l7:=zJ P v c2;have l2:=h.cll u (qBl s);have g7:=quU v.width (by omega) (by omega) u l2;have m6:qny v.width u=jM v.width u:=(by unfold qny jM;simp[c6]);rw[m6]at g7;have l3:=g5 k v u g s E c6;obtain⟨_,m9,j4⟩:=YU u (w:=v.width) (by omega) (by omega);have o3:=(KE u (w:=v.width) (by omega) (by omega)).2;have m7:(ST k).1.vars[k]?=some v:=(by rw[l.vars];exact g);have k8:(ST k).1.hard.length<=100000:=by
    have:=(e2 k _ (by omega) l).2.1.hard20;omega
   have f1:=qcs (ST k).1 m7 (by rw[l.vars];exact i8) k8 (jM v.width u) m9 (fun x d=>by have:=j4 x d;omega) (by omega);rw[show qtK v.name (jM v.width u)=qbI v u from rfl]at f1;have ho:=qfP l7 l3;have m4:=l.add (ho.tame (hq.names v c2) (by omega) (by omega)) (ho.valid (by omega) (by omega) (by unfold wK;rw[qBM];exact⟨v,c2,by simp⟩));have f7:=YV (Zb (ST k).1 (qbI v u)) (e2 (k+1) _ (by omega) m4).1;generalize n2:Zb (ST k).1 (qbI v u)=TR at *;simp only[qw]at f1 f7 b5;simp[-getElem?_pos,-Int.natCast_pow,m,Q,U,b0,b1,a0,b8,g,s,qu,qn,E,h7,IntKind.bits,f8,i0,ye,d7,T];rw[qG rfl];simp[-getElem?_pos,qX,m,Q,V,U,b0,b1,b5,a0,b8,g,s,qu,qn];refine qFG g7 ?_;simp[qX];refine qFG f1 ?_;simp[qX,qw];refine qFG f7 ?_;by_cases c5:(qt TR).2=11
   . simp[c5,U,T];exact qim _ _ _ _ rfl ⟨by simp[m],by simp[Q],by simp[e5],by simp[G],by simp[J],by simp[V],by simp[D],by simp⟩ (by rw[M,if_pos c5])
   rw[if_neg c5]at M;have fin:∀A T' H' x',qzv N (k+1) A->FixB p c r B N n TR H'->H'[B]?=some (.cells (ws.set k x'))->(∀(j:Nat) (y:Blk),C[j]?=some y->j≠B->j≠5->H'[j]?=some y)->vY N H' x' u->(∀b k',x'=.ms b 0 k' 1->C.length<=b)->R A ⟨H',T'⟩:=by
    intro A T' H' x' hr m0 d8 i6 n8 j9;have k7:k<ws.length:=(by omega);have hold:∀(i:Nat) (x:AV) (u:List Int),ws[i]?=some x->vY N C x u->vY N H' x u:=fun i x u hi d=>d.same fun b k' e=>by
     subst e;have h1:=d.lt;rw[i6 b _ (qBm h1.1) (by omega) (by omega),qBm h1.1]
    refine hR _ _ ⟨hr,by rw[M];exact m0,_,d8,by simp[W],d1.set (fun b k' hy i b' n0 hi g9=>?_),fun i u' x hi d=>?_,fun i x hi d=>b9 i x (by omega) (by rwa[qBn (by omega)]at d)⟩
    . have:=j9 b k' hy;by_cases h4:i<k
      . obtain⟨u2,m3⟩:∃u2,(ST k).2[i]?=some u2:=⟨_,qBm (by omega)⟩;have:=(a2 i u2 _ m3 g9).lt;omega
      have:=b9 i _ (by omega) g9;cases this
    rw[M]at hi;dsimp only at hi;by_cases h4:i<k
    . rw[qBv (by omega)]at hi;rw[qBn (by omega)]at d;exact hold i x u' d (a2 i u' x hi d)
    have:=(qBk.1 hi).1;have d3:i=k:=(by simp at this;omega);subst d3;rw[qBt (by omega),e0,qCh]at hi;simp at hi;rw[qBo k7]at d;cases d
    rwa[<- hi]
   have k0:=(qBk.1 b5).1;have l8:=fun w=>qa b5 w
   have c3:ws.drop k=.sl 0 [] .nil::ws.drop (k+1):=by
    obtain⟨h1,h2⟩:=qBk.1 f4;rw[qBE h1,h2]
   simp[c5,V,l8,k0];have d4:=f.setQ TR;have a4:∀(j:Nat) (z:Blk),C[j]?=some z->j≠5->(C.set 5 (.cells (qw TR)))[j]?=some z:=fun j z h1 h2=>by rw[qBn (Ne.symm h2)];exact h1
   have k5:(C.set 5 (.cells (qw TR))).length=C.length:=qCO;simp only[qw]at d4 a4 k5;generalize C.set 5 _=K at *;have g1:=fun w=>qa (a4 1 _ b1 (by omega)) w
   have gN:=fun w=>qa (a4 N _ bN (by omega)) w
   have gB:=fun w=>qa (a4 B _ cw (by omega)) w
   have o5:=(qBk.1 (a4 B _ cw (by omega))).1;rw[qG rfl];by_cases a1:u=[]
   . simp[-getElem?_pos,qX,Q,D,U,g1,gN,gB,b8,s,qn,c3,W,c0,c4,a1,T,qY,zD,Zl,qP,qm,qR];refine⟨?_,?_⟩
     all_goals
      refine fin _ _ _ (.sl 1 [] .tight) ⟨by simp[m],by simp[Q],by simp[e5],by simp[G],by simp[J],by simp[V],by simp[D],by simp⟩ ((d4.app _).setB _) (qBo (by simp;omega)) (fun j y h1 h2 L=>?_) (.inl ⟨a1,.inl rfl⟩) (fun b k' e=>by cases e);rw[qBn (Ne.symm h2)];exact qa (a4 j y h1 L) _
   have d6:u.length<=549755813888:=(by have:=(d5 k v u g s).2;omega);simp[-getElem?_pos,qX,Q,D,U,g1,gN,gB,b8,s,qn,c3,W,c0,c4,a1,T,qY,zD,Zl,qP,d6,Wt];refine⟨?_,?_⟩
   all_goals
    refine fin _ _ _ (.ms (K.length+1) 0 u.length 1) ⟨by simp[m],by simp[Q],by simp[e5],by simp[G],by simp[J],by simp[V],by simp[D],by simp⟩ ((d4.app _).setB _) (qBo (by simp;omega)) (fun j y h1 h2 L=>?_) (.inr ⟨a1,_,?_,rfl,?_⟩) (fun b k' e=>by cases e;omega)
    . rw[qBn (Ne.symm h2)];exact qa (a4 j y h1 L) _
    . have:=(qBk.1 bN).1;omega
    rw[qBn (by omega)];simp
 rintro ev ⟨C,T2⟩ ⟨⟨m,Q,e5,G,J,V,D,U⟩,f,ws,cw,W,d1,a2,b9⟩;dsimp only at f cw a2;obtain⟨l,e0,j5⟩:=g3 n (qBs _);obtain⟨k1,k2,k3⟩:=e2 n _ (qBs _) l;have c1:=qfQ (ST n).1 k1 k2 k3 r;have e1:=QL (p:=(ST n).1) (r:=r);rw[l.vars]at e1;have b0:=f.b0;have b2:=f.b2;have b5:=f.b5;have c8:=f.lo;have c7:=f.lt;generalize Z.length=N at *;generalize (ST n).2=us at *;generalize hQ:(ST n).1=q at *;have f9:(n:Int)=p.vars.length:=by omega
 simp only[qw,jt]at b0 b2 b5;simp only[qw,jt,qtI]at c1;simp[m,e5,V,U,b0,b2,b5,f9];refine qFG c1 ?_;generalize zo q r=S at *;obtain⟨a,O,er⟩:=S;dsimp only at e1⊢;by_cases f6:er=0
 case neg=>
  have f2:=(qBk.1 f.b3).1;have e9:=(qBk.1 f.b4).1;simp[-getElem?_pos,f6,G,J,qa f.b3,qa f.b4,qfK f.b3,qfK f.b4,f2,e9];exact qv6 _ _
 subst f6;have d9:=e1 rfl;rw[<- hn]at d9;have hM:=f.app [.cells [.int .u64 O.1,.int .u64 O.2]];have j2:His B N C.length p.vars us a 0 ws (C++[.cells [.int .u64 O.1,.int .u64 O.2]]):=His.app ⟨cw,by omega,by omega,by omega,d1,fun i v u z x hi=>absurd hi (by omega),fun i u x _ h1 h2=>by
  have L:=a2 i u x h1 h2;exact⟨L,fun b k e=>by subst e;exact L.lt.1⟩⟩ _
 simp[-getElem?_pos];refine yu n (fun k ev σ=>ev 3=.ptr 0 0/\ev 7=.ptr 3 0/\ev 8=.ptr 4 0/\ev 12=.ptr N 0/\ev 17=.sl 1 (a.map qf) .none/\ev 18=.ptr C.length 0/\ev 19=.int .i64 k/\FixB p c r B N n q σ.H/\σ.H[C.length]?=some (.cells [.int .u64 O.1,.int .u64 O.2])/\∃ws,His B N C.length p.vars us a k ws σ.H) ?_ ?_ ?_
 . exact⟨by simp[m],by simp[G],by simp[J],by simp[D],by simp,by simp,by simp,hM,by simp,ws,j2⟩
 . rintro k ev ⟨F,T5⟩ R hR m5 ⟨m,G,J,D,a6,b7,a9,o,a5,ws,I⟩;dsimp only at o a5 I;have b0:=o.b0;have bN:=o.bN;have c8:=o.lo;have c7:=o.lt;simp only[qw]at b0;have n3:=(qBk.1 f.bN).1;have c0:(k:Int)<n:=(by omega);have c4:k+1<=n:=(by omega);have a0:(k:Int)<p.vars.length:=(by omega);have T:=wr (n:=(k:Int)+1);have W:=I.len;rw[<- hn]at W;obtain⟨v,g⟩:∃v,p.vars[k]?=some v:=⟨_,qBm (by omega)⟩;obtain⟨x,d2⟩:∃x,ws[k]?=some x:=⟨_,qBm (by omega)⟩;obtain⟨u,s⟩:∃u,us[k]?=some u:=⟨_,qBm (by omega)⟩;obtain⟨z,hz⟩:∃z,a[k]?=some z:=⟨_,qBm (by omega)⟩;by_cases E:v.mode=2
   case neg=>
    simp[-getElem?_pos,m,a9,b0,a0,g,qu,E,T];exact hR _ _ ⟨by simp[m],by simp[G],by simp[J],by simp[D],by simp[a6],by simp[b7],by simp,o,a5,ws,I.skip g E⟩
   have cw:=I.cw;have m8:=(I.left k u x (qBs _) s d2).1;have c3:ws.drop k=x::ws.drop (k+1):=by
    obtain⟨h1,h2⟩:=qBk.1 d2;rw[qBE h1,h2]
   have fin:∀A T' H' nb,A 3=.ptr 0 0->A 7=.ptr 3 0->A 8=.ptr 4 0->A 12=.ptr N 0->A 17=.sl 1 (a.map qf) .none->A 18=.ptr C.length 0->A 19=.int .i64 ((k:Int)+1)->F.length<=nb->(∀j,j≠B->(∀b' k',x=.ms b' 0 k' 1->j≠b')->j<F.length->H'[j]?=F[j]?)->H'[B]?=some (.cells (ws.set k (.ms nb 0 (u.length+1) 1)))->H'[nb]?=some (.cells (zc (u++[z])))->R A ⟨H',T'⟩:=by
    intro A T' H' nb a3 a7 a8 l0 m1 l9 i5 j6 g0 d8 k6;have hold:=fun(j:Nat) (y:Blk) (h1:F[j]?=some y) h2 L=>I.hold s d2 g0 h1 h2 L
    have o7:=(qBk.1 bN).1;exact hR _ _ ⟨a3,a7,a8,l0,m1,l9,i5,⟨hold _ _ o.b0 (by omega) (.inl (by omega)),hold _ _ o.b1 (by omega) (.inl (by omega)),hold _ _ o.b2 (by omega) (.inl (by omega)),hold _ _ o.b3 (by omega) (.inl (by omega)),hold _ _ o.b4 (by omega) (.inl (by omega)),hold _ _ o.b5 (by omega) (.inl (by omega)),hold _ _ bN (by omega) (.inl (by omega)),c8,c7⟩,hold _ _ a5 (by omega) (.inr (qBs _)),_,I.put E g s hz d2 (by omega) (by omega) j6 g0 d8 k6⟩
   simp[-getElem?_pos,m,a9,b0,a0,g,qu,E];rw[qG rfl];have f5:=fun w=>qa bN w
   have h8:=fun w=>qa cw w
   have o8:=(qBk.1 cw).1;rcases m8 with⟨a1,i7⟩|⟨a1,b6,n7,rfl,f3⟩
   . rcases i7 with rfl|rfl
     all_goals
      subst a1;simp[-getElem?_pos,qX,D,a6,a9,c0,c4,bN,f5,cw,h8,c3,hz,W,d9,qY,zD,Zl,qP,qe,qp,T];refine⟨?_,?_⟩
      all_goals
       refine fin _ _ _ F.length (by simp[m]) (by simp[G]) (by simp[J]) (by simp[D]) (by simp[a6]) (by simp[b7]) (by simp) (qBs _) (fun j h1 _ L=>?_) (qBo (by simp;omega)) ?_
       . rw[qBn (Ne.symm h1),qBv L]
       rw[qBn (by omega)];simp[zc]
   have o1:=qBA.2 a1;have n5:=(qBk.1 f3).1;have d6:u.length+1<=549755813888:=(by have:=j5 u (qBl s);omega);have j7:(zc u).take u.length=zc u:=qBr (by simp[qO]);have l4:∀y,(F.set b6 y)[B]?=some (.cells ws):=fun y=>by rw[qBn (by omega)];exact cw
   have j8:∀y,(F.set b6 y)[N]?=some (.cells [.ms B 0 n 1]):=fun y=>by rw[qBn (by omega)];exact bN
   simp[-getElem?_pos,qX,D,a6,a9,c0,c4,bN,f5,cw,h8,f3,show ∀y w,(F.set b6 y++w)[B]?=some (.cells ws) from fun y w=>qa (l4 y) w,show ∀y w,(F.set b6 y++w)[N]?=some (.cells [.ms B 0 n 1]) from fun y w=>qa (j8 y) w,c3,hz,W,d9,qY,zD,Zl,qP,qe,qp,T,qO,d6,j7];refine⟨?_,?_⟩
   all_goals
    refine fin _ _ _ F.length (by simp[m]) (by simp[G]) (by simp[J]) (by simp[D]) (by simp[a6]) (by simp[b7]) (by simp) (qBs _) (fun j h1 h2 L=>?_) (qBo (by simp;omega)) ?_
    . rw[qBn (Ne.symm h1),qBv (by simp;omega),qBn (Ne.symm (h2 b6 u.length rfl))]
    rw[qBn (by omega)];simp[zc]
 rintro ev ⟨F,T5⟩ ⟨m,G,J,D,a6,b7,a9,o,a5,ws,I⟩;dsimp only at o a5 I;have b0:=o.b0;have b3:=o.b3;have b4:=o.b4;have bN:=o.bN;have c8:=o.lo;have c7:=o.lt;have f2:=(qBk.1 b3).1;have e9:=(qBk.1 b4).1;simp only[qw]at b0;simp[-getElem?_pos,m,a9,b0,f9];rw[qG rfl];have o2:=(qBk.1 f.bN).1;have m2:∀y,(F.set 3 y)[C.length]?=_:=fun y=>(qBn (by omega)).trans a5
 have g4:∀y,(F.set 3 y)[4]?=_:=fun y=>(qBn (by omega)).trans b4
 have fin:∀y z,qE (Abs.frz ((F.set 3 y).set 4 z) 8 (.tup [.sl 1 (a.map qf) .none,.agg [.ms B 0 n 1],.agg [.int .u64 O.1,.int .u64 O.2],.int .i64 0]))=true/\Leq (Abs.frz ((F.set 3 y).set 4 z) 8 (.tup [.sl 1 (a.map qf) .none,.agg [.ms B 0 n 1],.agg [.int .u64 O.1,.int .u64 O.2],.int .i64 0])) (qng (a,qdP p.vars us a,O,0)):=fun y z=>by
  refine Jk (by simp) (by rw[ql (by simp)];simp) (qdd (ws:=ws) (by rw[qBn (by omega),qBn (by omega)];exact I.cw) (by rw[I.len,hn]) (by rw[YY _ _ _ I.ul I.al,hn]) (fun i w x hi d=>?_) 4);obtain⟨v,u',z',h1,h2,L,rfl⟩:=qaT p.vars us a i w hi;have n6:=(qBk.1 h1).1;have h5:=I.done i v u' z' x (by omega) h1 h2 L d;have h6:vY B F x (qiW v u' z'):=by
   rcases h5 with h|⟨q0,b',q1,q2,q3⟩
   . exact .inl h
   exact .inr ⟨q0,b',by omega,q2,q3⟩
  exact h6.same fun b' k e=>by
   subst e;have:=h6.lt;rw[qBn (by omega),qBn (by omega)]
 simp[-getElem?_pos,qX,G,J,D,a6,b7,bN,a5,b3,b4,f2,e9,m2,g4];exact fin _ _
def MoreH.eq{p q k}(h:MoreH p q k):q = {p with hard:=q.hard}:=by
 obtain⟨a,b,c,d,_⟩:=h;cases q;dsimp only at a b c d;subst a b c d;rfl
def MoreH.same{p q a k k'}(b:qg p=0)(h:MoreH p q k)(h':MoreH p a k')(c:wq p.vars q.hard a.hard):(qt q).2=(qt a).2/\∀r,zo q r=zo a r:=by
 have:=qhM (p:=p) (h:=q.hard) (h':=a.hard) (by rw[<- h.eq];exact h.valid b) (by rw[<- h'.eq];exact h'.valid b) c
 rwa[<- h.eq,<- h'.eq]at this
def qmr(p:Problem)(a b:Problem×List (List Int)):Prop:=(∃k,MoreH p a.1 k)/\(∃k,MoreH p b.1 k)/\wq p.vars a.1.hard b.1.hard/\a.2=b.2
def qjT{p}(y:qg p=0){i:Nat}{v:Var}(hi:p.vars[i]?=some v)(O:Fits v.name){u:List Int}(s:okV v u=true){a b}(h:qmr p a b):qmr p (WY a (v,vz v u)) (qiV b (v,u)):=by
 obtain⟨⟨o,g⟩,⟨A,hb⟩,j,D⟩:=h;obtain⟨c,us⟩:=a;obtain⟨d,Z⟩:=b;dsimp only at g hb j D;subst D;obtain⟨h1,h2⟩:=qp8 s;obtain⟨V,U⟩:=qgf h2;have a0:=(qkm _ u V U).1;have L:=qBl hi;have K:=zJ y v L;have Y:0<2^v.width.toNat:=qDt _;have F:wK p.vars v.name=true:=by unfold wK;rw[qBM];exact⟨v,L,by simp⟩
 have G:vz v u=[]->v.mode≠2\/u.length=2^v.width.toNat->qmr p (WY (c,us) (v,vz v u)) (qiV (d,us) (v,u)):=fun e W=>by
  rw[e];unfold WY qiV qiu;rw[if_pos (.inr rfl),if_pos W];exact⟨⟨o,g⟩,⟨A,hb⟩,j,rfl⟩
 by_cases m:v.mode=2
 case neg=>
  have:=h1 m;subst this;exact G (by unfold vz;split<;>rfl) (.inl m)
 by_cases M:u.length=2^v.width.toNat
 . exact G (by unfold vz zG;rw[if_neg (by omega)]) (.inr M)
 have X:vz v u=u:=by unfold vz zG;rw[if_pos (by omega)]
 have z:=qaJ (w:=v.width) (l:=u) (by omega);have s:=qfP K z;have B:=hb.add (s.tame O (by omega) (by omega)) (s.valid (by omega) (by omega) F);have E:=fun(x:List Int) (f:x∈yS p.vars)=>qrG y hi m z f
 rw[X];have S:qiV (d,us) (v,u)=if(qt (Zb d (qbI v u))).2=11 then(d,us++[[]]) else(Zb d (qbI v u),us++[u]):=if_neg (by simp[m,M])
 rw[S];by_cases I:u=[]
 . subst I;have t:WY (c,us) (v,[])=(c,us++[[]]):=(by unfold WY qiu;rw[if_pos (.inr rfl)]);rw[t];have r:wq p.vars c.hard (Zb d (qbI v [])).hard:=fun x f=>by
    show _=yX p.vars (d.hard++[qbI v []]) x;obtain⟨C,_,T,Q⟩:=E x f;rw[Z0,C,<- j x f,decide_eq_true (qcu.2 ⟨⟨T,Q⟩,by simp⟩),qCR]
   split
   . exact⟨⟨o,g⟩,⟨A,hb⟩,j,rfl⟩
   exact⟨⟨o,g⟩,⟨_,B⟩,r,rfl⟩
 have J:=qkM K z;have N:=g.add (J.tame O (by omega) (by omega)) (J.valid (by omega) (by omega) F);have r:wq p.vars (Zb c (VW v u)).hard (Zb d (qbI v u)).hard:=fun x f=>by
  show yX p.vars (c.hard++[VW v u]) x=yX p.vars (d.hard++[qbI v u]) x;obtain⟨C,R,_⟩:=E x f;rw[Z0,Z0,C,R,j x f]
 have P:=(N.same y B r).1;have t:WY (c,us) (v,u)=if(qt (Zb c (VW v u))).2=11 then(c,us++[[]]) else(Zb c (VW v u),us++[u]):=by
  unfold WY qiu;rw[if_neg (by simp[m,I])];split<;>rfl
 rw[t,P];split
 . exact⟨⟨o,g⟩,⟨A,hb⟩,j,rfl⟩
 exact⟨⟨_,N⟩,⟨_,B⟩,r,rfl⟩
def qfN{p}(e:qg p=0)(d:∀v∈p.vars,Fits v.name):∀(l:List (Var×List Int)) (a b),(∀x∈l,(∃i:Nat,p.vars[i]?=some x.1)/\okV x.1 x.2=true)->qmr p a b->qmr p ((l.map fun x=>(x.1,vz x.1 x.2)).foldl WY a) (l.foldl qiV b)
 |[],_,_,_,h=>h
 | x::l,a,b,c,h=>by
  obtain⟨⟨i,hi⟩,f⟩:=c x (by simp);exact qfN e d l _ _ (fun y g=>c y (by simp[g])) (qjT e hi (d _ (qBl hi)) f h)
def qnf{p c}(l:∀v∈p.vars,Fits v.name)(r):qmz p c r=QN p c r:=by
 unfold qmz QN;split
 . rfl
 rename_i b;have b:=qCf.1 b;split
 . rfl
 rename_i a;have a:yt p.vars c=true:=by simpa using a
 have m:∀x∈p.vars.zip c,(∃i:Nat,p.vars[i]?=some x.1)/\okV x.1 x.2=true:=fun x d=>by
  refine⟨qB1 (qE5 d).1,?_⟩;unfold yt at a;simp only[qBq,qBx]at a;exact a.2 x d
 have j:=qfN b l (p.vars.zip c) (p,[]) (p,[]) m ⟨⟨0,qGb p⟩,⟨0,qGb p⟩,fun _ _=>rfl,rfl⟩;obtain⟨⟨s,h⟩,⟨o,hb⟩,h1,h2⟩:=j;have g:=(h.same b hb h1).2 r;have e:vV (Qm p.vars c) p=((p.vars.zip c).map fun x=>(x.1,vz x.1 x.2)).foldl WY (p,[]):=rfl;have f:qaK (p.vars.zip c) p=(p.vars.zip c).foldl qiV (p,[]):=rfl;rw[e,f,h2,g]
def quR(x y:Int):qbh (Dof prog) 32 [AV.int .u64 x,AV.int .u64 y] [AV.int .u64 x,AV.int .u64 y]=some true:=by
 simp[qbh,Ww,kz,qP,z9,qCL,jk,wc]
def qdv(p:Problem):∀(l:List (Var×List Int)) (st:Problem×List (List Int)),st.1.vars=p.vars->(l.foldl WY st).1.vars=p.vars
 |[],_,h=>h
 | x::l,st,h=>qdv p l _ (by
  unfold WY qiu;dsimp only;split
  . exact h
  split<;>exact h)
def qhH{p c r}(t:c.length=p.vars.length\/yt p.vars c=false\/qg p≠0)(d:∀l∈c,l.length<=40)(A:p.vars.length<=20):
 (QN p c r).1.length<=20/\(QN p c r).2.1.length<=20/\∀l∈(QN p c r).2.1,l.length<=41:=by
 unfold QN;split
 . simp
 rename_i h1;split
 . simp
 rename_i h2;split
 . simp
 split
 . simp
 rename_i m;have s:c.length=p.vars.length:=by
  rcases t with h|h|h
  . exact h
  . exact absurd h h2
  exact absurd h h1
 have a:=QL (qCf.1 m);rw[show(vV (Qm p.vars c) p).1.vars=p.vars from qdv p _ _ rfl]at a;have b:=Y7 p (Qm p.vars c);rw[qcB s]at b;dsimp only;refine⟨by omega,by rw[YY _ _ _ b a];omega,fun l o=>?_⟩;obtain⟨i,hi⟩:=qB1 o;obtain⟨v,u,z,_,j,_,rfl⟩:=qaT _ _ _ i l hi;have w:u.length<=40:=by
  obtain⟨x,f,e⟩:=qlF p _ i u j;rcases e with rfl|rfl
  . obtain⟨y,g,rfl⟩:=qBH.1 (qBl f);have:=d _ (qE5 g).2;unfold vz;split
    . exact this
    simp
  simp
 unfold qiW;split
 . simp;omega
 omega
def qrs(p:Problem)(c:List (List Int))(r:Rng)(h:VM p)(i:HC p c):Pure prog GG 3 [.agg (qw p),.agg (jp c),.agg (jt r)] (.bool true):=by
 refine qFC o0 true func3 ?_;have y:=qrt p h;have w:=qzm c i.fits i.each;have m:=qwi;simp only[qw,ZG,qn]at y w;simp[-getElem?_pos,jt];refine qFG (G:=qW GG) y ?_;cases hsm:wb p
 case false=>
  simp[-getElem?_pos,unA];refine qFG (G:=qW GG) m ?_;simp[-getElem?_pos,QV]
 simp[-getElem?_pos,unA];refine qFG (G:=qW GG) w ?_;cases hfw:(decide (c.length<=6)&&(c.take 7).all fun l=>decide (l.length<=40))
 case false=>
  simp[-getElem?_pos,unA];refine qFG (G:=qW GG) m ?_;simp[-getElem?_pos,QV]
 simp only[qBq,decide_eq_true_eq,qBx]at hfw;have s:∀l∈c,l.length<=40:=fun l f=>hfw.2 l (by rw[qBr (by omega)];exact f)
 have b:=qta h hsm hfw.1 s;have j:=qe0 p c b r;have D:RefH p c:=by
  have B:=hsm;simp only[wb,qBq,decide_eq_true_eq,qBx]at hsm;obtain⟨⟨⟨⟨⟨⟨L,P⟩,z⟩,A⟩,F⟩,J⟩,K⟩:=hsm;have k1:=(yd A).1;have O:=(yd F).1;refine⟨⟨b.vq,h.flat z,b.dists,b.soft,fun d hd v=>?_⟩,⟨b.vq,b.vars,b.bits,b.dists,b.soft,b.wts⟩,fun C=>qya h B C,by omega,i.fits,i.each,b.w7⟩;have:=qnq v d.weights;have:=J d hd;omega
 have g:=qtx p c D r;rw[qnf b.vq.names]at g;have o:=qhH (p:=p) (c:=c) (r:=r) (by
  by_cases h1:qg p=0
  . cases h2:yt p.vars c
    . exact .inr (.inl rfl)
    . unfold yt at h2;simp only[qBq,decide_eq_true_eq]at h2;exact .inl h2.1
  exact .inr (.inr h1)) s b.vars
 obtain⟨a,d,u,e,I⟩:∃a d u e,QN p c r=(a,d,u,e):=⟨_,_,_,_,rfl⟩;rw[I]at j g o;dsimp only at o;obtain⟨N,M,x⟩:=o;have E:=qkw a a (by unfold Fits;omega) (by unfold Fits;omega);have t:=quO d d (by unfold Fits;omega) (by unfold Fits;omega) (fun l f=>by have:=x l f;unfold Fits;omega) (fun l f=>by have:=x l f;unfold Fits;omega);simp only[qng,qw,jp,jt]at j g;simp only[ZG]at t;simp[-getElem?_pos,unA];refine qFG (G:=qW GG) j ?_;simp[-getElem?_pos,qV,zt,qx];refine qFG (G:=qW GG) g ?_;simp[-getElem?_pos,qV,zt,qx];refine qFG (G:=qW GG) E ?_;simp[-getElem?_pos];refine qFG (G:=qW GG) t ?_;simp[-getElem?_pos,quR];refine qFG (G:=qW GG) m ?_;simp[-getElem?_pos,QV]
def qm7{H:Type}{enc:TypeId×Value->H}{W c:World}{v:Value}{d:DataW H}{a:List MemPlace}{b:Nat->Bool}(h:DataW.Trod enc prog W 0 (fun _=>true) true 27 v d a)(hb:Go.RowKit.Below W.heap.size W c)(f:∀x∈a,x.block<W.heap.size)(g:∀p∈a,b p.block=true):
 DataW.Trod enc prog c 0 b true 27 v d a :=
 WideElems.Trod_stays ZC (by kernel_rfl) (of_decide_eq_true (by kernel_rfl)) h (fun x e=>hb.same (f x e)) g
def qm6{H:Type}{enc:TypeId×Value->H}{W c:World}{v:Value}{d:DataW H}{a:List MemPlace}{b:Nat->Bool}(h:DataW.Trod enc prog W 0 (fun _=>true) true 29 v d a)(hb:Go.RowKit.Below W.heap.size W c)(f:∀x∈a,x.block<W.heap.size)(g:∀p∈a,b p.block=true):
 DataW.Trod enc prog c 0 b true 29 v d a :=
 WideElems.Trod_stays ZC (by kernel_rfl) (of_decide_eq_true (by kernel_rfl)) h (fun x e=>hb.same (f x e)) g
def qm5{H:Type}{enc:TypeId×Value->H}{W c:World}{v:Value}{d:DataW H}{a:List MemPlace}{b:Nat->Bool}(h:DataW.Trod enc prog W 0 (fun _=>true) true 32 v d a)(hb:Go.RowKit.Below W.heap.size W c)(f:∀x∈a,x.block<W.heap.size)(g:∀p∈a,b p.block=true):
 DataW.Trod enc prog c 0 b true 32 v d a :=
 WideElems.Trod_stays ZC (by kernel_rfl) (of_decide_eq_true (by kernel_rfl)) h (fun x e=>hb.same (f x e)) g
def qsu(os:Os)(started:os.Started)(H:Type)(enc:TypeId×Value->H):
 ReturnsInHanded {} Tryz.checked os 3 .any (fun w args=>(Rows.cyclicSolvesSpec.pre enc prog Tryz.f3 [] false w args/\laidMetH prog qic w)/\sizedMet enc prog Tryz.f3 (OpenSpec.ofChange Rows.cyclicSolvesSpec) false w args)
  (Rows.cyclicSolvesSpec.post enc prog Tryz.f3 false true false false):=by
 refine returnsInHanded_of_change_and (C:=Tryz.checked) (X:=fun w _=>laidMetH prog qic w) (fun _ _ _ Q h=>h.of_heap Q) qr7 started (by kernel_rfl) func3
  (ChangeSpec.witness_shaped (enc:=enc) (C:=Tryz.checked) (os:=os) (X:=fun w _=>laidMetH prog qic w) false (World.doorLaid prog 400 os) #[.agg #[.slice none 0 0,.slice none 0 0,.slice none 0 0,.slice none 0 0,.slice none 0 0],.agg #[.slice none 0 0],.agg #[.int .u64 0,.int .u64 0]] 8 rfl (World.shaped_of_RefB (by kernel_rfl) (by kernel_rfl)) (by kernel_rfl) (by kernel_rfl) (by kernel_rfl) (qo0 os _)) ?_
 intro W base args ds E before M y _ a5 K _;have d:∀(j:Nat) t v,Tryz.f3.params[j]?=some t->args[j]?=some v->Value.okWide prog W .any base t v:=M;have z:(DataW.weightsEach prog (Tryz.f3.params.toList++Rows.cyclicSolvesSpec.plain.varTypes prog) (ds++E)).all (·<=reachBytes)=true:=a5;have a2:=y;obtain⟨p,q,T,S,rfl,b1,b2⟩:=y;have A:DataW.TrodAll enc prog W 0 (fun _=>true) true Tryz.f3.params.toList args.toList ds p:=T;rw[Tryz.params3]at A d z;obtain⟨v0,v1,v2,D,I,Y,B,p1,p2,rfl,rfl,rfl,h0,h1,h2⟩:=trodAll_three A;obtain⟨rfl,rfl⟩:=trodVars_none S;have o:=d 0 27 v0 rfl rfl;unfold Value.okWide at o;rw[underlying27]at o;obtain⟨g,rfl,_,_⟩:=o;have G:=h0;obtain⟨a8,a7⟩:=h0;have a6:∀k∈D.weights prog 27,k<=reachBytes:=fun k R=>of_decide_eq_true (qBx.1 z k (DataW.weights_mem_each (j:=0) (t:=27) rfl rfl k R))
 obtain⟨i,a3,N⟩:=rdP a7 a6;have c:=d 1 29 v1 rfl rfl;unfold Value.okWide at c;rw[underlying29]at c;obtain⟨l,rfl,_,_⟩:=c;have a4:=h1;obtain⟨b4,V⟩:=h1;obtain⟨s,a1,P⟩:=rdC (p:=i) V;have u:=d 2 32 v2 rfl rfl;unfold Value.okWide at u;rw[underlying32]at u;obtain⟨f,rfl,_,_⟩:=u;have U:=h2;obtain⟨b0,a0⟩:=h2;obtain⟨r,F,a9⟩:=rdR a0;have L:=qrs i s r N P;have J:qj (KMw W) [.agg (qw i),.agg (jp s),.agg (jt r)] (#[Value.agg g,Value.agg l,Value.agg f]:Array Value).toList:=by
  simp only[qj];have Z:qi (KMw W) (.agg (qw i)) (Value.agg g):=by
   unfold qi;exact⟨g,rfl,a3⟩
  have g1:qi (KMw W) (.agg (jp s)) (Value.agg l):=by
   unfold qi;exact⟨l,rfl,a1⟩
  have O:qi (KMw W) (.agg (jt r)) (Value.agg f):=by
   unfold qi;exact⟨f,rfl,F⟩
  exact⟨_,_,rfl,Z,_,_,rfl,g1,_,_,rfl,O,rfl⟩
 refine(L.2 W (qhO W) #[Value.agg g,Value.agg l,Value.agg f] (qla K) (fun _ _ _ e=>e) J).mono ?_;rintro e W' ⟨v,ro',rfl,hb,_,_,_,hv⟩;have c:v=.bool true:=by simpa only[qi] using hv
 subst c;have m:=a2;simp only[qB4]at m;have b:=fun x a=>m.lt x a
 refine⟨_,rfl,[D,I,Y],[],B++(p1++p2),[],B++(p1++p2),[],(by simpa only[qBX] using m),?_,?_,?_,hb.frame _,fun h=>by cases h⟩
 . exact trodAll_mk1 (shut_bool underlying4 true)
 . exact trodAll_mk3 (qm7 G hb (fun x a=>b x (qB5 _ (qB5 _ a))) (fun x a=>by simpa using b x (qB5 _ (qB5 _ a)))) (qm6 a4 hb (fun x a=>b x (qB5 _ (qCu _ a))) (fun x a=>by simpa using b x (qB5 _ (qCu _ a)))) (qm5 U hb (fun x a=>b x (qCu _ a)) (fun x a=>by simpa using b x (qCu _ a)))
 rfl
