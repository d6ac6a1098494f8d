import Derived.Test.YtdapogpjhljhaaaGreatDoorCs22
set_option maxRecDepth 100000
set_option maxHeartbeats 16000000
set_option linter.all false
set_option linter.defProp false
namespace Go.Proofs.YtdapogpjhljhaaaGreatDoor
open Go Go.Abs Proofs.Tryz
def VW(v:Var)(u:List Int):Ex:=zT v.name (jr (jM v.width u))
noncomputable def qiu(v:Var)(u:List Int)(q:Problem):Problem×List Int :=
 if v.mode≠2\/u=[] then(q,u) else if(qt (Zb q (VW v u))).2=11 then(q,[]) else(Zb q (VW v u),u)
noncomputable def WY(st:Problem×List (List Int))(x:Var×List Int):Problem×List (List Int):=((qiu x.1 x.2 st.1).1,st.2++[(qiu x.1 x.2 st.1).2])
noncomputable def vV(l:List (Var×List Int))(q:Problem):Problem×List (List Int):=l.foldl WY (q,[])
def Jq(l x q):vV (l++[x]) q=WY (vV l q) x:=by
 unfold vV;rw[qCb];rfl
def Y7(q l):(vV l q).2.length=l.length:=by
 induction hn:l.length generalizing l with
 | zero=>
  have:=qBy hn;subst this;rfl
 | succ k ih=>
  obtain⟨d,x,rfl⟩:∃d x,l=d++[x]:=⟨l.dropLast,l.getLast (by rintro rfl;simp at hn),(qCa _).symm⟩;rw[Jq];have:=ih d (by simpa using hn);simp[WY,this]
def qlF(q l):∀(i:Nat) (u:List Int),(vV l q).2[i]?=some u->∃x,l[i]?=some x/\(u=x.2\/u=[]):=by
 induction hn:l.length generalizing l with
 | zero=>
  have:=qBy hn;subst this;intro i u h;simp[vV]at h
 | succ k ih=>
  obtain⟨d,x,rfl⟩:∃d x,l=d++[x]:=⟨l.dropLast,l.getLast (by rintro rfl;simp at hn),(qCa _).symm⟩;intro i u h;rw[Jq]at h;unfold WY at h;have hd:=Y7 q d;by_cases hi:i<d.length
  . rw[qBv (by omega)]at h;obtain⟨y,a,h2⟩:=ih d (by simpa using hn) i u h;exact⟨y,by rw[qBv hi];exact a,h2⟩
  have b:i=d.length:=by
   have:=(qBk.1 h).1;simp at this;omega
  subst b;rw[qBt (by omega),hd,qCh]at h;refine⟨x,by simp,?_⟩;simp at h;subst h;unfold qiu;split
  . exact .inl rfl
  split
  . exact .inr rfl
  exact .inl rfl
def YU{w}(l)(h0:0<=w)(d:w<=8):(jM w l).Pairwise (· < ·)/\(jM w l).length<=256/\∀x∈jM w l,0<=x/\x<((2^w.toNat:Nat):Int):=by
 have c:2^w.toNat<=2^8:=qBF (by omega) (by omega);unfold jM;refine⟨List.Pairwise.filter _ ?_,?_,fun x a=>?_⟩
 . rw[qDG];exact(qE9 (n:=2^w.toNat)).imp fun h=>by omega
 . refine qCq (qCP _ _) ?_;rw[qBT,qDX];omega
 obtain⟨m,b,rfl⟩:=qBH.1 (qCk.1 a).1;have:=qCe.1 b;omega
def qcu{w l x}:x∈jM w l↔(0<=x/\x<((2^w.toNat:Nat):Int))/\x∉l:=by
 unfold jM;rw[qCk,qBH];constructor
 . rintro⟨⟨m,c,rfl⟩,h⟩;have:=qCe.1 c;refine⟨by omega,fun b=>?_⟩;have:(l.any fun y=>(m:Int)==y)=true:=qBM.2 ⟨_,b,by simp⟩;rw[this]at h;cases h
 rintro⟨h1,h2⟩;refine⟨⟨x.toNat,qCe.2 (by omega),by omega⟩,?_⟩;have:(l.any fun y=>x==y)=false:=by
  rw[qCM];intro y d a;exact h2 (by rwa[eq_of_beq a])
 rw[this];rfl
def qgi{α:Type}[DecidableEq α]:∀{a b:List α},a.Nodup->(∀x∈a,x∈b)->a.length<=b.length
 |[],_,_,_=>by simp
 | x::a,b,c,e=>by
  rw[qC7]at c;have d:=e x (by simp);have h1:a.length<=(b.erase x).length:=qgi c.2 fun y f=>by
   have g:y≠x:=(by rintro rfl;exact c.1 f);exact(List.mem_erase_of_ne g).2 (e y (by simp[f]))
  rw[qEf d]at h1;have:=qFa d;simp only[qBB];omega
def qaJ{w l}(h:l.length<2^w.toNat):jM w l≠[]:=fun e=>by
 have h1:(vy w).Nodup:=by
  unfold vy;exact(qDG.2 ((List.nodup_range (n:=2^w.toNat)).imp fun a e=>a (by omega)))
 have h2:=qgi h1 (b:=l) fun x c=>by
  apply Classical.byContradiction;intro d;have:x∈jM w l:=qcu.2 ⟨by
   obtain⟨m,f,rfl⟩:=qBH.1 c;have:=qCe.1 f;omega,d⟩
  rw[e]at this;cases this
 rw[Qo]at h2;omega
def KE{w}(l)(h0:0<=w)(b:w<=8):(∀r∈jr (jM w l),qiZ r)/\2*(jr (jM w l)).length<=2^w.toNat+1:=by
 have d:2^w.toNat<=2^8:=qBF (by omega) (by omega);obtain⟨h1,_,c⟩:=YU l h0 b;generalize 2^w.toNat=W at *;have:=qaE (N:=(W:Int)) h1 (fun x a=>by have:=c x a;omega) (by omega);exact⟨this.1,by omega⟩
def K8{v}(b:jS v=0)(a:Fits v.name)(u):ZK (VW v u):=by
 have h1:=zb b;have c:2^v.width.toNat<=2^8:=qBF (by omega) (by omega);have h2:=KE u (w:=v.width) (by omega) h1.2.2;exact Kq h1.1 a (by omega) h2.1
def JJ{vs v}(b:v∈vs)(a:jS v=0)(u):zz vs (VW v u)=0:=by
 have h1:=zb a;have c:2^v.width.toNat<=2^8:=qBF (by omega) (by omega);have h2:=KE u (w:=v.width) (by omega) h1.2.2;exact Yb h1.1 (by omega) h2.1 (by unfold wK;rw[qBM];exact⟨v,b,by simp⟩)
structure MoreH(p q:Problem)(k):Prop where
 vars:q.vars=p.vars
 soft:q.soft=p.soft
 dists:q.dists=p.dists
 groups:q.groups=p.groups
 hard:∃es,q.hard=p.hard++es/\es.length<=k/\∀e∈es,ZK e/\zz p.vars e=0
def MoreH.refl(p):MoreH p p 0:=⟨rfl,rfl,rfl,rfl,[],by simp⟩
def qGb:=@MoreH.refl
def MoreH.mono{p q k k'}(h:MoreH p q k)(g:k<=k'):MoreH p q k':=by
 obtain⟨a,b,c,d,es,e,i,f⟩:=h;exact⟨a,b,c,d,es,e,by omega,f⟩
def MoreH.add{p q k}(h:MoreH p q k){e}(h1:ZK e)(h2:zz p.vars e=0):MoreH p (Zb q e) (k+1):=by
 obtain⟨a,b,c,d,es,g,j,i⟩:=h;refine⟨a,b,c,d,es++[e],by simp[Zb,g],by simp;omega,fun x f=>?_⟩;rcases qBC.1 f with f|f
 . exact i x f
 rw[qB0.1 f];exact⟨h1,h2⟩
def MoreH.vq{p q k}(h:MoreH p q k)(g:VQ p)(m:p.hard.length+k<=10000):VQ q:=by
 obtain⟨a,b,c,d,es,i,l,j⟩:=h;refine⟨a▸g.vars,a▸g.names,by rw[i];simp;omega,b▸g.soft,fun e f=>?_,c▸g.dists,c▸g.weights,d▸g.groups,d▸g.group⟩;rw[i,b]at f;rcases qBC.1 f with f|f
 . rcases qBC.1 f with f|f
   . exact g.exprs e (qB5 _ f)
   . exact(j e f).1
 exact g.exprs e (qCu _ f)
def MoreH.valid{p q k}(h:MoreH p q k)(g:qg p=0):qg q=0:=by
 obtain⟨a,b,c,d,es,j,o,l⟩:=h;have i:zd (zz p.vars) (p.hard++p.soft)=0:=by
  unfold qg at g;split at g
  . exact absurd g (by assumption)
  split at g
  . rename_i h1;exact absurd g h1
  rename_i h1;exact qCf.1 h1
 have m:zd (zz q.vars) (q.hard++q.soft)=0:=by
  rw[a,b,j];refine zs.2 fun e f=>?_
  have i:=zs.1 i;rcases qBC.1 f with f|f
  . rcases qBC.1 f with f|f
    . exact i e (qB5 _ f)
    . exact(l e f).2
  exact i e (qCu _ f)
 unfold qg at g⊢;rw[m];rw[i]at g
 rwa[a,c,d]
def MoreH.bits{p q k}(h:MoreH p q k)(a:qg p=0):kj q.vars (qI q)=kj p.vars (qI p):=by
 unfold qI;rw[h.valid a,a,h.vars]
def qlG{p q k}(h:MoreH p q k){v}(a:jS v=0)(c:v∈p.vars)(b:Fits v.name)(u):MoreH p (qiu v u q).1 (k+1):=by
 unfold qiu;split
 . exact h.mono (by omega)
 split
 . exact h.mono (by omega)
 exact h.add (K8 a b u) (JJ c a u)
def qlE{p}(c:∀v∈p.vars,jS v=0)(e:∀v∈p.vars,Fits v.name):∀(l),(∀x∈l,x.1∈p.vars)->MoreH p (vV l p).1 l.length:=by
 intro l
 induction hn:l.length generalizing l with
 | zero=>
  have:=qBy hn;subst this;exact fun _=>qGb p
 | succ k ih=>
  intro b;obtain⟨d,x,rfl⟩:∃d x,l=d++[x]:=⟨l.dropLast,l.getLast (by rintro rfl;simp at hn),(qCa _).symm⟩;rw[Jq];have a:=b x (by simp);exact qlG (ih d (by simpa using hn) fun y f=>b y (by simp[f])) (c _ a) a (e _ a) _
def UnQ(w:Int)(u:List Int)(H:List Blk)(T:List (Option Nat))(r:AV)(σ':St):Prop:=σ'=⟨H,jP T (jM w u)⟩/\r=wN 1 qf T.length (jM w u)
def qju(w)(h0:0<=w)(h1:w<=28)(u)(B:Fits u)(y:u≠[])(b H T)(hb:H[b]?=some (.cells (zc u))):
 qh prog GG 25 [.int .i64 w,.ms b 0 u.length 1] ⟨H,T⟩ (UnQ w u H T):=by
 refine qFE o0 func25 ?_;have F:(2:Nat)^w.toNat<=2^28:=qBF (by omega) (by omega);have h:=yo h0 h1;have g:=Qo w;have t:jM w u=(vy w).filter (wX u):=rfl;unfold UnQ;rw[t];have l:∀{d r:List Int} {v:Int},vy w=d++v::r->v=d.length:=Ja;generalize K:2^w.toNat=N at F h g;simp[show ¬w<0 by omega,IntKind.bits,h];generalize vy w=nums at g l;refine qFK nums (fun d env σ=>env 1=.ms b 0 u.length 1/\env 5=wN 1 qf T.length (d.filter (wX u))/\env 8=.int .i64 N/\env 9=.int .i64 d.length/\σ=⟨H,jP T (d.filter (wX u))⟩) ?_ ?_ ?_
 . simp
 . rintro d v r env σ hd L J ⟨i,j,o,f,rfl⟩;have A:=l hd;subst A;have z:=wr (n:=(d.length:Int)+1);simp[*,show d.length<N by omega];have E:=(qmt.frz (b:=b) (H:=H) (v:=.ms b 0 u.length 1) (a:=u) (.inr ⟨y,rfl,hb⟩) 7).2.1;refine qFI (vH GG u d.length B) (by rfl) (by
    simp only[qBz,qBS,zl];exact⟨E,by rw[ql (by simp)];simp[],trivial⟩) ?_
   have e:=vC (wX u) d (d.length:Int);have I:(d.filter (wX u)).length<2^30:=qC3 (qCP _ _) (by omega);have C:∀s:List Int,s.length<2^30->∀n,qm (Dof prog) ⟨H,jP T s⟩ 36 (wN 1 qf T.length s) (.sl 1 [[.int .i64 n]] .tight)=some (wN 1 qf T.length (s++[n]),⟨H,jP T (s++[n])⟩):=fun s h n=>
    yg (D:=Dof prog) (sz:=1) (T:=T) (H:=H) (m:=[n]) (en:=qf) D36 rfl D3 rfl (by decide) rfl (by decide) (by simp;omega) 1 (.inl rfl)
   cases hc:u.any fun x=>(d.length:Int)==x
   . have c:wX u d.length=true:=(by unfold wX;rw[hc];rfl);rw[if_pos c]at e;simp[i,j,o,f,unA,C _ I,z];have G:List.filter (wX u) [(d.length:Int)]=[(d.length:Int)]:=(by rw[qDe,c];rfl);simp[G]
   have c:wX u d.length=false:=(by unfold wX;rw[hc];rfl);rw[c]at e;simp at e;simp[*,unA,show List.filter (wX u) [(d.length:Int)]=[] by rw[qDe,c];rfl]
 rintro env σ ⟨i,j,o,f,rfl⟩;rw[g]at f;simp[*,-fin,-kw,-w9]
def wq(vs:List Var)(l m:List Ex):Prop:=∀a∈yS vs,yX vs l a=yX vs m a
def Z0(vs l m a):yX vs (l++m) a=(yX vs l a&&yX vs m a):=by unfold yX;rw[qCU]
def wq.app{vs l m}(h:wq vs l m)(x):wq vs (l++x) (m++x):=fun a b=>by rw[Z0,Z0,h a b]
def qby{α:Type}{f g:α->Bool}:∀{l:List α},(∀a∈l,f a=g a)->l.any f=l.any g
 |[],_=>rfl
 |a::l,h=>by rw[qDf,qDf,h a (by simp),qby fun x b=>h x (by simp[b])]
def wq.solv{vs l m}(h:wq vs l m):jw vs l=jw vs m:=qby h
def wq.keep{vs}:∀(x){l m},wq vs l m->jY vs l x=jY vs m x
 |[],_,_,_=>rfl
 | x::r,l,m,h=>by
  unfold jY;rw[(h.app [x.2]).solv,wq.keep r (h.app [x.2]),wq.keep r h]
def wq.okC{p:Problem}{h h' R b}(e:wq p.vars R b)(c):okC {p with hard:=h} R c=okC {p with hard:=h'} b c :=
 qby fun a d=>by rw[e a d]
def wq.sum{p:Problem}{h h' R a}(b:wq p.vars R a)(fx):∀(g) (c),WW {p with hard:=h} R fx g c=WW {p with hard:=h'} a fx g c
 |[],c=>by unfold WW;rw[b.okC (h:=h) (h':=h')]
 | i::r,c=>by
  unfold WW;rw[b.okC (h:=h) (h':=h')];have e:∀c,WW {p with hard:=h} R fx r c=WW {p with hard:=h'} a fx r c:=wq.sum b fx r;simp only[e];rfl
def wq.grp{p:Problem}{h h' R c}(g:wq p.vars R c):∀(l) (a) (r),qeM {p with hard:=h} R l a r=qeM {p with hard:=h'} c l a r:=by
 have d:qhE {p with hard:=h} R=qhE {p with hard:=h'} c:=by
  funext fx a gi;exact g.sum fx _ _
 have e:∀l a gi fx b out,qtf {p with hard:=h} R a gi l fx b out=qtf {p with hard:=h'} c a gi l fx b out:=by
  intro l a gi
  induction l with
  |nil=>intro _ _ _;rfl
  | cons i l ih=>
   intro fx b out;unfold qtf;rw[d];exact ih _ _ _
 intro l
 induction l with
 |nil=>intro _ _;rfl
 | cons gi l ih=>
  intro a r;have f:W3 {p with hard:=h} R gi a=W3 {p with hard:=h'} c gi a:=by unfold W3;rw[d];rfl
  have j:∀b,Y9 {p with hard:=h} R gi a b=Y9 {p with hard:=h'} c gi a b:=fun b=>e _ _ _ _ _ _
  unfold qeM;rw[f];simp only[j,ih]
def qhM{p:Problem}{h h'}(i:qg {p with hard:=h}=0)(g:qg {p with hard:=h'}=0)(m:wq p.vars h h'):
 (qt {p with hard:=h}).2=(qt {p with hard:=h'}).2/\∀r,zo {p with hard:=h} r=zo {p with hard:=h'} r:=by
 have o:zw {p with hard:=h}=h++yJ p:=by unfold zw jB;rw[if_pos i];rfl
 have l:zw {p with hard:=h'}=h'++yJ p:=by unfold zw jB;rw[if_pos g];rfl
 have e:=m.app (yJ p);have j:vS {p with hard:=h}=vS {p with hard:=h'}:=by
  unfold vS;show(jY p.vars (h++yJ p) _).reverse=(jY p.vars (h'++yJ p) _).reverse;rw[wq.keep _ e]
 have f:=e.solv;have a:qt {p with hard:=h}=if jw p.vars (h++yJ p)=true then(Yf {p with hard:=h},0) else([],11):=by unfold qt;rw[if_pos i,o]
 have b:qt {p with hard:=h'}=if jw p.vars (h'++yJ p)=true then(Yf {p with hard:=h'},0) else([],11):=by unfold qt;rw[if_pos g,l]
 by_cases d:jw p.vars (h++yJ p)=true
 . have c:=d;rw[f]at c;rw[if_pos d]at a;rw[if_pos c]at b;refine⟨by rw[a,b],fun r=>?_⟩;rw[QM a,QM b];have s:wq p.vars (Yf {p with hard:=h}) (Yf {p with hard:=h'}):=by
    unfold Yf;rw[j];exact e.app _
   exact s.grp _ _ _
 have c:=d;rw[f]at c;rw[if_neg d]at a;rw[if_neg c]at b;refine⟨by rw[a,b],fun r=>?_⟩;rw[QM a,QM b];rfl
def EOk.mono{s h m e h' b}(a:EOk s h m e)(h1:h<=h')(h2:m<=b):EOk s h' b e:=⟨a.nodes,qCq a.hgt h1,qCq a.size h2⟩
def EOk.eq{s}(c:kW s=true){n}(h0:0<=n)(h1:n<=65535):EOk s 2 3 (eqX s n):=by
 have b:pre (eqX s n)=[eqX s n,wO s,z8 n]:=by rw[jv];simp[eqX,qaN,QQ]
 refine⟨fun x a=>?_,by simp[w8,eqX,wO,z8],by rw[b];simp⟩;rw[b]at a;simp only[qBN,qDk,or_false]at a;rcases a with rfl|rfl|rfl
 . refine⟨?_,by simp[eqX,Ex.op],by simp[eqX,Ex.op],by simp[eqX,Ex.op]⟩;simp[qy,eqX,qk,zE,Ex.op,Ex.n,Ex.name,Ex.args]
 . exact⟨qd3 c,by simp[wO,Ex.op],by simp[wO,Ex.op],fun _=>rfl⟩
 exact⟨KZ h0 h1,by simp[z8,Ex.op],by simp[z8,Ex.op],by simp[z8,Ex.op]⟩
def qto{s}(b:kW s=true):∀(k j) (l:List Int),j<k->l≠[]->l.length<=2^j->(∀x∈l,0<=x/\x<=65535)->EOk s (2+j) (4*l.length-1) (amE s k l)
 |0,j,l,h,_,_,_=>by omega
 | k+1,j,l,f,h0,e,a=>by
  have i:=qBA.2 h0;unfold amE;split
  . match l with
    |[]=>exact absurd rfl h0
    |n::t=>exact(EOk.eq b (a n (by simp)).1 (a n (by simp)).2).mono (by omega) (by simp;omega)
  cases j with
  |zero=>omega
  | succ j=>
   have g:l.length<=2*2^j:=(by rw[qDA]at e;omega);have d:=qto b k j (l.take (l.length/2)) (by omega) (qBA.1 (by rw[qBY];omega)) (by rw[qBY];omega) fun x h=>a x (qB6 h)
   have c:=qto b k j (l.drop (l.length/2)) (by omega) (qBA.1 (by rw[qCj];omega)) (by rw[qCj];omega) fun x h=>a x (qCD h)
   refine(d.or c).mono (by omega) ?_;rw[qBY,qCj];omega
def qut(env s n):(yi env (eqX s n)≠0)↔(ji env s).getD 0=n:=by
 rw[yM];have:wH env (eqX s n).op (eqX s n).n (eqX s n).name ((eqX s n).args.map (yi env))=b2i (decide ((ji env s).getD 0=n)):=by
  simp[eqX,wH,opW,jW,qfu,qan]
 rw[this,ql4];simp
def qjp(env s):∀(k j) (l:List Int),j<k->l.length<=2^j->((yi env (amE s k l)≠0)↔(ji env s).getD 0∈l)
 |0,j,l,h,_=>by omega
 | k+1,j,l,b,a=>by
  unfold amE;split
  . rename_i h1
    match l,h1 with
    |[],_=>simp[qan]
    |[n],_=>rw[qB0];exact qut env s n
  cases j with
  |zero=>omega
  | succ j=>
   have c:l.length<=2*2^j:=(by rw[qDA]at a;omega);rw[qpN,qjp env s k j _ (by omega) (by rw[qBY];omega),qjp env s k j _ (by omega) (by rw[qCj];omega),<- qBC,qB9]
def qmY{s}(e:kW s=true){l:List Rg}(h0:l≠[])(m:l.length<=128)(d:∀r∈l,qiZ r):EOk s 24 400 (zT s l):=by
 unfold zT;rw[if_neg h0];have j:=qBA.2 h0;have h1:=EOk.ins e (l:=l.take 16) (qBA.1 (by rw[qBY];omega)) (by rw[qBY];omega) (fun r h=>d r (qB6 h));have h2:=EOk.chain e (zR 16 l.length (l.drop 16)) (h:=0) h1 (fun c g=>by
  obtain⟨a,b,f⟩:=Z6 (by omega) _ _ c g;exact⟨a,b,fun r h=>d r (qCD (f r h))⟩)
 have i:=Z7 (n:=16) (by omega) l.length (l.drop 16) 7 (by rw[qCj];omega);exact h2.mono (by omega) (by omega)
def qbI(v:Var)(u:List Int):Ex:=qtK v.name (jM v.width u)
def quQ{l:List Int}(h:l≠[]):jr l≠[]:=fun e=>by
 obtain⟨n,b⟩:=qDH l h;obtain⟨r,a,_⟩:=(YT n l).2 b;rw[e]at a;cases a
def qkM{v}(a:jS v=0){u}(h:jM v.width u≠[]):EOk v.name 24 400 (VW v u):=by
 have h1:=zb a;have b:2^v.width.toNat<=2^8:=qBF (by omega) (by omega);have h2:=KE u (w:=v.width) (by omega) h1.2.2;exact qmY h1.1 (quQ h) (by omega) h2.1
def qfP{v}(a:jS v=0){u}(h:jM v.width u≠[]):EOk v.name 24 400 (qbI v u):=by
 have h1:=zb a;have c:2^v.width.toNat<=2^8:=qBF (by omega) (by omega);unfold qbI qtK;split
 . exact(qto h1.1 9 5 _ (by omega) h (by omega) fun x b=>by have:=(YU u (w:=v.width) (by omega) h1.2.2).2.2 x b;omega).mono (by omega) (by omega)
 exact qkM a h
def qrc(env v u):(yi env (qbI v u)≠0)↔(ji env v.name).getD 0∈jM v.width u:=by
 unfold qbI qtK;split
 . exact qjp env _ 9 5 _ (by omega) (by omega)
 exact JB _ _ _
def EOk.evalV{s h m e vs env}(a:EOk s h m e)(i:h<=24)(o:m<=400)(l:wK vs s=true)(d:(ji env s).isSome=true):evalV env e=yi env e:=by
 have hex:=a.valid i o l;have g:zr e=0:=by
  by_cases h0:zr e=0
  . exact h0
  unfold zz at hex;rw[if_pos h0]at hex;exact absurd hex h0
 have c:jC env e=true:=by
  unfold jC;rw[qBx];intro x b;obtain⟨_,j,f,n4⟩:=a.nodes x b;unfold qiM;by_cases h2:x.op=2
  . rw[if_pos h2,n4 h2,d]
  rw[if_neg h2,if_neg (by rintro(h|h);exact j h;exact f h)]
 unfold Go.Proofs.YtdapogpjhljhaaaGreatDoor.evalV;rw[if_pos ⟨g,c⟩]
def qrG{p:Problem}(d:qg p=0){i v}(hi:p.vars[i]?=some v)(w:v.mode=2){u}(j:jM v.width u≠[]){a}(g:a∈yS p.vars):
 yX p.vars [qbI v u] a=decide (a.getD i 0∈jM v.width u)/\yX p.vars [VW v u] a=decide (a.getD i 0∈jM v.width u)/\0<=a.getD i 0/\a.getD i 0<((2^v.width.toNat:Nat):Int):=by
 have x:=(kD.1 g).len;have y:=(qBk.1 hi).1;obtain⟨z,f⟩:∃z,a[i]?=some z:=⟨_,qBm (by omega)⟩;have s:a.getD i 0=z:=by rw[qBw,f];rfl
 rw[s];have l:=qBl hi;have m:=zJ d v l;rcases qlo d g hi f with⟨e,h0,h1⟩|h
 . have o:wK p.vars v.name=true:=(by unfold wK;rw[qBM];exact⟨v,l,by simp⟩);have c:(ji (ke p.vars a) v.name).isSome=true:=(by rw[e];rfl);have r:=(qfP m j).evalV (by omega) (by omega) o c;have t:=(qkM m j).evalV (by omega) (by omega) o c;have v1:=qrc (ke p.vars a) v u;have b:=JB (ke p.vars a) v.name (jM v.width u);rw[e]at v1 b;refine⟨?_,?_,h0,h1⟩
   . simp only[yX,qCH,qEW,qCR,r,v1];rfl
   simp only[yX,qCH,qEW,qCR,t];exact decide_eq_decide.2 b
 rw[w]at h;cases h
def qsN{p:Problem}{i:Nat}{l:List Int}(h:(qih p)[i]?=some l):∃v,p.vars[i]?=some v/\l=if v.mode=2 then(List.range (zG v)).map (fun n:Nat=>(n:Int)) else []:=by
 unfold qih at h;rw[qBO]at h
 cases hv:p.vars[i]? with
 |none=>rw[hv]at h;cases h
 |some v=>rw[hv]at h;exact⟨v,rfl,(Option.some.inj h).symm⟩
def qku(v):okL v.width ((List.range (zG v)).map fun n:Nat=>(n:Int))=true:=by
 unfold okL;rw[qBx];intro k d;have a:k<zG v:=by simpa using d
 have c:(((List.range (zG v)).map fun n:Nat=>(n:Int)).getD k 0)=(k:Int):=by
  rw[qBw,qBO,qD6 a];rfl
 rw[c];unfold okN;have e:((2^v.width.toNat:Nat):Int)=(2:Int)^v.width.toNat:=by simp
 have f:((((List.range (zG v)).map fun n:Nat=>(n:Int)).take k).any ((k:Int) == ·))=false:=by
  rw[qCM];intro x b;rw[<- List.map_take,List.take_range]at b;obtain⟨j,g,rfl⟩:=qBH.1 b;have:=qCe.1 g;simp;omega
 simp[f,show(k:Int)<(2:Int)^v.width.toNat by rw[<- e];unfold zG at a;omega]
def qli(p):yt p.vars (qih p)=true:=by
 unfold yt;simp only[qBq,decide_eq_true_eq];refine⟨by simp[qih],?_⟩;rw[qBx];rintro⟨v,l⟩ b;obtain⟨i,hi⟩:=qB1 b;obtain⟨h1,h2⟩:=qCA.1 hi;obtain⟨v',c,rfl⟩:=qsN h2;have:v'=v:=by rw[c]at h1;exact Option.some.inj h1
 subst this;unfold okV;by_cases a:v'.mode=2
 . simp[a,qku]
 simp[a,okL]
def V7(e):Pure prog GG 18 [.int .i64 e] (.tup [.sl 0 [] .nil,.agg [.sl 0 [] .nil],.agg [.int .u64 0,.int .u64 0],.int .i64 e]):=by
 refine qFC o0 true func18 ?_;simp[qV,zt];rw[ql (by rfl)];exact⟨rfl,qFN _⟩
def qgC(p):∀(l) (a) (r),(qgD p l a r).2.2=0->(qgD p l a r).1.length=a.length
 |[],a,r,_=>rfl
 | gi::rest,a,r,h=>by
  unfold qgD at h⊢;split at h
  . exact absurd h (by assumption)
  rename_i h1;rw[if_neg h1];split at h
  . exact absurd h (by assumption)
  rename_i h2;rw[if_neg h2,qgC p rest _ _ h,vJ]
def QL{p r}(h:(zo p r).2.2=0):(zo p r).1.length=p.vars.length:=by
 unfold zo at h⊢;split at h
 . exact absurd h (by assumption)
 rename_i h1;rw[if_neg h1,qgC p _ _ _ h,kN]
def qr2:List (Nat×Sch×List Nat):=[(16,.step 0 [14,12] (.step 1 [14,12,11,2] (.step 2 [14,12,11] (.step 3 [14,12,11,10,4] (.step 4 [14,12,11,10] (.step 5 [14,12,11,10,9,8,6] (.step 6 [14,12,11,10,9,8] (.step 7 [14,12,11,10,9,8] (.step 8 [14,12,11,10,9] (.step 9 [14,12,11,10] (.step 10 [14,12,11] (.step 11 [14,12] (.step 12 [14] (.step 13 [14] (.step 14 [] (.done))))))))))))))),[]),(29,.step 0 [15,14,1] (.step 1 [15,14] (.step 2 [15,14] (.step 3 [15,14,13,7,6,4] (.step 4 [15,14,13,7,6] (.step 5 [15,14,13,7,6] (.step 6 [15,14,13,7] (.step 7 [15,14,13] (.step 8 [15,14,13,12,11,10] (.step 9 [15,14,13,12,11,10] (.step 10 [15,14,13,12,11] (.step 11 [15,14,13,12] (.step 12 [15,14,13] (.step 13 [15,14] (.step 14 [15] (.step 15 [] (.done)))))))))))))))),[]),(31,.step 0 [6,5,4,3] (.step 1 [6,5,4] (.step 3 [6,5,4] (.fork (.cons 2 (.step 4 [6,5] (.step 5 [6] (.step 6 [] (.done)))) (.cons 4 (.step 2 [6,5] (.step 5 [6] (.step 6 [] (.done)))) (.nil)))))),[])]
def Qm(vs:List Var)(c:List (List Int)):List (Var×List Int):=(vs.zip c).map fun x=>(x.1,vz x.1 x.2)
def qiW(v:Var)(u:List Int)(n:Int):List Int:=if v.mode=2 then u++[n] else u
def qdP:List Var->List (List Int)->List Int->List (List Int)
 |v::vs,u::us,n::a=>qiW v u n::qdP vs us a
 |_,_,_=>[]
noncomputable def QN(p:Problem)(c:List (List Int))(r:Rng):List Int×List (List Int)×Rng×Int :=
 if qg p≠0 then([],[],(0,0),qg p)
 else if yt p.vars c=false then([],[],(0,0),1)
 else if(qt p).2≠0 then([],[],(0,0),(qt p).2)
 else if(zo (vV (Qm p.vars c) p).1 r).2.2≠0 then([],[],(0,0),(zo (vV (Qm p.vars c) p).1 r).2.2)
 else((zo (vV (Qm p.vars c) p).1 r).1,qdP p.vars (vV (Qm p.vars c) p).2 (zo (vV (Qm p.vars c) p).1 r).1,(zo (vV (Qm p.vars c) p).1 r).2.1,0)
def YY:∀(vs) (us) (a),us.length=vs.length->a.length=vs.length->(qdP vs us a).length=vs.length
 |[],[],[],_,_=>rfl
 | v::vs,u::us,n::a,h1,h2=>by
  show(qiW v u n::qdP vs us a).length=_;simp only[qBB];rw[YY vs us a (by simpa using h1) (by simpa using h2)]
 |[],_::_,_,h,_=>by simp at h
 |[],[],_::_,_,h=>by simp at h
 |_::_,[],_,h,_=>by simp at h
 |_::_,_::_,[],_,h=>by simp at h
def qaT:∀(vs:List Var) (us:List (List Int)) (a:List Int) (i:Nat) (u:List Int),(qdP vs us a)[i]?=some u->∃v b z,vs[i]?=some v/\us[i]?=some b/\a[i]?=some z/\u=qiW v b z
 | v::vs,u::us,n::a,i,w,h=>by
  have e:qdP (v::vs) (u::us) (n::a)=qiW v u n::qdP vs us a:=rfl;rw[e]at h
  cases i with
  |zero=>exact⟨v,u,n,rfl,rfl,rfl,by simpa using h.symm⟩
  | succ i=>
   obtain⟨v',b,d,h1,h2,c,f⟩:=qaT vs us a i w (by simpa using h);exact⟨v',b,d,by simpa using h1,by simpa using h2,by simpa using c,f⟩
 |[],_,_,i,w,h=>by simp[qdP]at h
 |_::_,[],_,i,w,h=>by simp[qdP]at h
 |_::_,_::_,[],i,w,h=>by simp[qdP]at h
def qn5{vs:List Var}{c:List (List Int)}{i:Nat}{v:Var}{l:List Int}(h1:vs[i]?=some v)(h2:c[i]?=some l):(Qm vs c)[i]?=some (v,vz v l):=by
 unfold Qm;rw[qBO,show(vs.zip c)[i]?=some (v,l) from qCA.2 ⟨h1,h2⟩];rfl
def qcB{vs c}(h:c.length=vs.length):(Qm vs c).length=vs.length:=by
 unfold Qm;rw[qBT,List.length_zip,h,Nat.min_self]
def quY:List (Nat×Sch×List Nat):=[(16,.step 1 [14,12,11,2] (.step 3 [14,12,11,10,4] (.step 4 [14,12,11,10] (.step 5 [14,12,11,10,9,8,6] (.step 6 [14,12,11,10,9,8] (.step 7 [14,12,11,10,9,8] (.step 8 [14,12,11,10,9] (.step 9 [14,12,11,10] (.fork (.cons 0 (.fork (.cons 2 (.fork (.cons 10 (.step 11 [14,12] (.step 12 [14] (.step 13 [14] (.step 14 [] (.done))))) (.cons 13 (.step 10 [14,12,11] (.step 11 [14,12] (.step 12 [14] (.step 14 [] (.done))))) (.nil)))) (.cons 10 (.step 2 [14,12,11] (.step 11 [14,12] (.step 12 [14] (.step 13 [14] (.step 14 [] (.done)))))) (.cons 13 (.fork (.cons 2 (.step 10 [14,12,11] (.step 11 [14,12] (.step 12 [14] (.step 14 [] (.done))))) (.cons 10 (.step 2 [14,12,11] (.step 11 [14,12] (.step 12 [14] (.step 14 [] (.done))))) (.nil)))) (.nil))))) (.cons 2 (.fork (.cons 0 (.fork (.cons 10 (.step 11 [14,12] (.step 12 [14] (.step 13 [14] (.step 14 [] (.done))))) (.cons 13 (.step 10 [14,12,11] (.step 11 [14,12] (.step 12 [14] (.step 14 [] (.done))))) (.nil)))) (.cons 10 (.step 0 [14,12] (.step 11 [14,12] (.step 12 [14] (.step 13 [14] (.step 14 [] (.done)))))) (.cons 13 (.fork (.cons 0 (.step 10 [14,12,11] (.step 11 [14,12] (.step 12 [14] (.step 14 [] (.done))))) (.cons 10 (.step 0 [14,12] (.step 11 [14,12] (.step 12 [14] (.step 14 [] (.done))))) (.nil)))) (.nil))))) (.cons 10 (.step 0 [14,12] (.step 2 [14,12,11] (.step 11 [14,12] (.step 12 [14] (.step 13 [14] (.step 14 [] (.done))))))) (.cons 13 (.fork (.cons 0 (.fork (.cons 2 (.step 10 [14,12,11] (.step 11 [14,12] (.step 12 [14] (.step 14 [] (.done))))) (.cons 10 (.step 2 [14,12,11] (.step 11 [14,12] (.step 12 [14] (.step 14 [] (.done))))) (.nil)))) (.cons 2 (.fork (.cons 0 (.step 10 [14,12,11] (.step 11 [14,12] (.step 12 [14] (.step 14 [] (.done))))) (.cons 10 (.step 0 [14,12] (.step 11 [14,12] (.step 12 [14] (.step 14 [] (.done))))) (.nil)))) (.cons 10 (.step 0 [14,12] (.step 2 [14,12,11] (.step 11 [14,12] (.step 12 [14] (.step 14 [] (.done)))))) (.nil))))) (.nil))))))))))))),[10]),(29,.step 0 [15,14,1] (.step 2 [15,14] (.step 3 [15,14,13,7,6,4] (.step 4 [15,14,13,7,6] (.step 5 [15,14,13,7,6] (.step 6 [15,14,13,7] (.step 7 [15,14,13] (.step 8 [15,14,13,12,11,10] (.step 9 [15,14,13,12,11,10] (.step 10 [15,14,13,12,11] (.step 11 [15,14,13,12] (.step 12 [15,14,13] (.fork (.cons 1 (.step 13 [15,14] (.step 14 [15] (.step 15 [] (.done)))) (.cons 13 (.step 1 [15,14] (.step 14 [15] (.step 15 [] (.done)))) (.nil))))))))))))))),[]),(31,.step 0 [6,5,4,3] (.step 1 [6,5,4] (.step 3 [6,5,4] (.fork (.cons 2 (.step 4 [6,5] (.step 5 [6] (.step 6 [] (.done)))) (.cons 4 (.step 2 [6,5] (.step 5 [6] (.step 6 [] (.done)))) (.nil)))))),[])]
def qwy(q:List Int×List (List Int)×Rng×Int)(n:Nat)(H:List Blk)(v:AV)(σ':St):Prop:=KpL [] H σ'.H /\
 ((q.2.2.2≠0/\v=.tup [.sl 0 [] .nil,.agg [.sl 0 [] .nil],.agg [.int .u64 0,.int .u64 0],.int .i64 q.2.2.2]) \/
   (q.2.2.2=0/\∃w b B ws,v=.tup [w,.agg [.ms B 0 n 1],.agg (jt q.2.2.1),.int .i64 0]/\qmt b σ'.H w q.1/\q.2.1.length=n/\σ'.H[B]?=some (.cells ws)/\ws.length=n/\∀(i:Nat) (u:List Int) (x:AV),q.2.1[i]?=some u->ws[i]?=some x->vY B σ'.H x u))
def qzw(H a:List Blk)(p:Problem)(n k:Nat)(ev:Env):Prop :=
 ev 3=.ptr H.length 0/\ev 5=.ptr (H.length+2) 0/\ev 7=.ptr (H.length+3) 0/\ev 8=.ptr (H.length+4) 0/\ev 10=.fn 18 [] []/\ev 14=.ptr a.length 0/\ev 15=.ptr (a.length+1) 0/\ev 16=.int .i64 k/\ev 65=.sl 4 (p.vars.map qu) .none/\ev 66=.int .i64 n/\ev 67=.int .i64 k
structure CycH(p)(c:List (List Int)):Prop where
 vq:VQ p
 hard:p.hard.length<=9000
 vars:p.vars.length<=20
 flat:qg p=0->(NG p).flatten.length<=12
 bits:kj p.vars (qI p)<=18
 dists:p.dists.length<=10000
 soft:p.soft.length<=10000
 wts:∀d∈p.dists,d.weights.length<=1000
 cl:c.length<=100000
 cll:∀l∈c,l.length<=100000
 w7:qg p=0->∀v∈p.vars,v.mode=2->v.width<=7
def qpF{p q}(h:q.groups=p.groups):NG q=NG p:=by unfold NG;rw[h]
def vY.same{B H H' x u}(h:vY B H x u)(a:∀b k,x=.ms b 0 k 1->H'[b]?=H[b]?):vY B H' x u:=by
 rcases h with h|⟨h0,b,h1,h2,c⟩
 . exact .inl h
 exact .inr ⟨h0,b,h1,h2,by rw[a b _ h2];exact c⟩
def KpL.old{H c a B}(h:KpL [] H c)(h2:KpL [B] c a)(d:H.length<=B):KpL [] H a:=⟨qCq h.1 h2.1,fun k x b _=>h2.2 k x (h.2 k x b (by simp)) (by have:=(qBk.1 b).1;simp;omega)⟩
def qo5(p c)(t:CycH p c)(p7:qg p=0->yt p.vars c=true->p.vars≠[])(r H T):
 qh prog GG 7 [.agg (qw p),.agg (jp c),.agg (jt r)] ⟨H,T⟩ (qwy (QN p c r) p.vars.length H):=by
 refine qFE ⟨true,quY,[],[]⟩ func7 ?_;have h:=t.vq;have n8:=yw p h;have m7:=WU p h t.vars t.bits t.dists t.soft;simp[jt,jp];refine qFG n8 ?_;by_cases J:qg p=0
 case neg=>
  have hq:QN p c r=([],[],(0,0),qg p):=if_pos J;rw[hq];have hQ:∀X T',KpL [] H X->qwy ([],[],(0,0),qg p) p.vars.length H (.tup [.sl 0 [] .nil,.agg [.sl 0 [] .nil],.agg [.int .u64 0,.int .u64 0],.int .i64 (qg p)]) ⟨X,T'⟩:=fun X T' hX=>⟨hX,.inl ⟨J,rfl⟩⟩
  simp[J];refine qFG (V7 _) ?_ rfl;simp;exact hQ _ _ qGe
 have hw:∀v∈p.vars,1<=v.width/\v.width<=8:=fun v hv=>by have:=zb (zJ J v hv);omega
 have q9:=qlj p c (by unfold Fits;have:=t.vars;omega) (by unfold Fits;have:=t.cl;omega) (fun l hl=>by unfold Fits;have:=t.cll l hl;omega) (fun v hv=>by have:=hw v hv;omega);simp[J];refine qFG q9 ?_;cases hf:yt p.vars c
 case false=>
  have hq:QN p c r=([],[],(0,0),1):=by unfold QN;rw[if_neg (by simp[J]),if_pos hf]
  rw[hq];have hQ:∀X T',KpL [] H X->qwy ([],[],(0,0),1) p.vars.length H (.tup [.sl 0 [] .nil,.agg [.sl 0 [] .nil],.agg [.int .u64 0,.int .u64 0],.int .i64 1]) ⟨X,T'⟩:=fun X T' hX=>⟨hX,.inl ⟨by decide,rfl⟩⟩
  simp;refine qFG (V7 _) ?_ rfl;simp;exact hQ _ _ qGe
 simp;refine qFG m7 ?_;by_cases he:(qt p).2=0
 case neg=>
  rw[show QN p c r=([],[],(0,0),(qt p).2) by unfold QN;rw[if_neg (by simp[J]),if_neg (by simp[hf]),if_pos he]];have hQ:∀X T',KpL [] H X->qwy ([],[],(0,0),(qt p).2) p.vars.length H (.tup [.sl 0 [] .nil,.agg [.sl 0 [] .nil],.agg [.int .u64 0,.int .u64 0],.int .i64 (qt p).2]) ⟨X,T'⟩:=fun X T' hX=>⟨hX,.inl ⟨he,rfl⟩⟩
  simp[he];refine qFG (V7 _) ?_;simp;exact hQ _ _ qGe
 have k0:c.length=p.vars.length:=by
  unfold yt at hf;simp only[qBq,decide_eq_true_eq]at hf;exact hf.1
 have h0:=p7 J hf;have r4:=fun H' T'=>qlI p c (by have:=t.vars;omega) h0 k0 (fun v hv=>by have:=hw v hv;omega) t.cll H' T'
 simp[he];refine qFJ (r4 _ _) ?_;rintro v ⟨m,T1⟩ ⟨b9,g,ws,rfl,p9,cw,C,a4,k8⟩;dsimp only at b9 cw k8;have bx:=b9.2 _ _ lk0 (by simp);have bh:=b9.2 _ _ lk1 (by simp);have br:=b9.2 _ _ lk2 (by simp);have b3:=b9.2 _ _ lk3 (by simp);have b4:=b9.2 _ _ lk4 (by simp);have o8:KpL [] H m:=qGe.trans b9;have o6:=b9.1;simp only[qBp,qBB,qCc]at o6 p9;have u6:=(qBk.1 cw).1;obtain⟨o,e1⟩:∃o,o=Qm p.vars c:=⟨_,rfl⟩;have o3:o.length=p.vars.length:=by rw[e1];exact qcB k0
 have m0:∀(i:Nat) (v:Var),p.vars[i]?=some v->∃l,c[i]?=some l/\o[i]?=some (v,vz v l):=fun i v hi=>by
  have f9:=(qBk.1 hi).1;obtain⟨l,hl⟩:∃l,c[i]?=some l:=⟨_,qBm (by omega)⟩;exact⟨l,hl,by rw[e1];exact qn5 hi hl⟩
 have f1:∀(i:Nat) (v:Var) (u:List Int) (x:AV),o[i]?=some (v,u)->ws[i]?=some x->vY g m x u:=fun i v u x hi j=>by
  have f9:=(qBk.1 hi).1;obtain⟨v',hv⟩:∃v',p.vars[i]?=some v':=⟨_,qBm (by omega)⟩;obtain⟨l,hl,hp⟩:=m0 i v' hv;rw[hi]at hp;cases hp;exact k8 i _ l x hv hl j
 have j4:∀x∈o,x.1∈p.vars:=fun x j=>by
  rw[e1]at j;obtain⟨y,M,rfl⟩:=qBH.1 j;exact(qE5 M).1
 have j3:∀x∈o,x.2.length<2^x.1.width.toNat:=fun x j=>by
  rw[e1]at j;obtain⟨y,M,rfl⟩:=qBH.1 j;show(vz y.1 y.2).length<_;unfold vz zG;split
  . assumption
  exact qDt _
 have c4:QN p c r=(if(zo (vV o p).1 r).2.2≠0 then([],[],(0,0),(zo (vV o p).1 r).2.2) else((zo (vV o p).1 r).1,qdP p.vars (vV o p).2 (zo (vV o p).1 r).1,(zo (vV o p).1 r).2.1,0)):=by
  unfold QN;rw[if_neg (by simp[J]),if_neg (by simp[hf]),if_neg (by simp[he]),<- e1]
 have m2:∀k,MoreH p (vV (o.take k) p).1 20:=fun k=>(qlE (fun v hv=>zJ J v hv) h.names (o.take k) (fun x j=>j4 x (qB6 j))).mono (by rw[qBY];have:=t.vars;omega)
 obtain⟨n,hn⟩:∃n,n=p.vars.length:=⟨_,rfl⟩;rw[<- hn]at C o3;have u0:0<n:=by rw[hn];exact qBA.2 h0
 have s2:=t.vars;rw[<- hn]at s2;simp[qa bx,<- hn];refine qFW p.vars (fun d ev σ=>ev 3=.ptr H.length 0/\ev 5=.ptr (H.length+2) 0/\ev 7=.ptr (H.length+3) 0/\ev 8=.ptr (H.length+4) 0/\ev 10=.fn 18 [] []/\ev 14=.ptr m.length 0/\ev 15=.ptr (m.length+1) 0/\ev 65=.sl 4 (p.vars.map qu) .none/\ev 66=.int .i64 n/\ev 67=.int .i64 d.length /\
  KpL [g] m σ.H/\m.length+2<=σ.H.length/\σ.H[m.length]?=some (.cells [.ms g 0 n 1])/\σ.H[m.length+1]?=some (.cells (qw (vV (o.take d.length) p).1)) /\
  ∃ws,σ.H[g]?=some (.cells ws)/\ws.length=n/\qbG ws/\(∀(i:Nat) (u:List Int) (x:AV),(vV (o.take d.length) p).2[i]?=some u->ws[i]?=some x->vY g m x u)/\(∀(i:Nat) (v:Var) (u:List Int) (x:AV),d.length<=i->o[i]?=some (v,u)->ws[i]?=some x->vY g m x u)) ?_ ?_ ?_
 . refine⟨by simp,by simp,by simp,by simp,by simp,by simp,by simp,by simp,by simp,by simp,qGe,by simp,by simp,by simp[vV],ws,qa cw _,C,a4,fun i u x hi=>by simp[vV]at hi,fun i v u x _ hi j=>f1 i v u x hi j⟩
 . rintro d v rest ev ⟨W,T2⟩ R hR n0 j g2 ⟨e3,A,D,F,a9,s,U,V,O,a0,I,g5,c6,a6,ws,cw,C,a4,L,c0⟩;dsimp only at I g5 c6 a6 cw;rw[<- hn]at g2;have Q:(d.length:Int)<n:=(by omega);have b6:d.length+1<=n:=(by omega);have K:=wr (n:=(d.length:Int)+1);obtain⟨l,hl,e9⟩:=m0 _ v j;obtain⟨u,hu⟩:∃u,u=vz v l:=⟨_,rfl⟩;rw[<- hu]at e9;obtain⟨x,b0⟩:∃x,ws[d.length]?=some x:=⟨_,qBm (by omega)⟩;have l9:=c0 _ v u x (qBs _) e9 b0;have c2:ws.drop d.length=x::ws.drop (d.length+1):=by
    obtain⟨h1,h2⟩:=qBk.1 b0;rw[qBE h1,h2]
   have f0:o.take (d++[v]).length=o.take d.length++[(v,u)]:=by
    rw[qBp,qBR,qBQ,e9];rfl
   have g8:vV (o.take (d++[v]).length) p=WY (vV (o.take d.length) p) (v,u):=(by rw[f0,Jq]);have m1:(vV (o.take d.length) p).2.length=d.length:=(by rw[Y7,qBY];omega);have Y:=m2 d.length;generalize vV (o.take d.length) p=st at *;obtain⟨q,us⟩:=st;dsimp only at a6 L g8 m1 Y;have fin:∀f T' H' i0 q' E x',f 3=.ptr H.length 0->f 5=.ptr (H.length+2) 0->f 7=.ptr (H.length+3) 0->f 8=.ptr (H.length+4) 0->f 10=.fn 18 [] []->f 14=.ptr m.length 0->f 15=.ptr (m.length+1) 0->f 65=.sl 4 (p.vars.map qu) .none->f 66=.int .i64 n->f 67=.int .i64 ((d.length:Int)+1) ->
    qiu v u q=(q',E)->KpL [g] m H'->m.length+2<=H'.length->H'[m.length]?=some (.cells [.ms g 0 n 1])->H'[m.length+1]?=some (.cells (qw q'))->H'[g]?=some (.cells i0)->i0=ws.set d.length x'->vY g m x' E->(x'=x\/x'=.sl 0 [] .nil)->R f ⟨H',T'⟩:=by
    intro f T' H' i0 q' E x' a3 a5 a7 a8 i6 d7 h8 g1 i3 i1 j8 p8 l4 g7 u3 dw n3 s3 q8;subst n3;have i7:d.length<ws.length:=(by omega);refine hR _ _ ⟨a3,a5,a7,a8,i6,d7,h8,g1,i3,by rw[i1];simp,p8,l4,g7,?_,_,dw,by simp[C],a4.set (fun b k M i b' k' hi d3=>?_),fun i u2 x2 hi c8=>?_,fun i v2 u2 x2 hi j6 c8=>?_⟩
    . rw[g8];unfold WY;rwa[j8]
    . rcases q8 with rfl|rfl
      . rw[M]at b0;exact a4 i d.length b' b k' k hi d3 b0
      . cases M
    . rw[g8]at hi;unfold WY at hi;rw[j8]at hi;dsimp only at hi;by_cases c9:i<d.length
      . rw[qBv (by omega)]at hi;rw[qBn (by omega)]at c8;exact L i u2 x2 hi c8
      have k5:i=d.length:=by
       have:=(qBk.1 hi).1;simp at this;omega
      subst k5;rw[qBt (by omega),m1,qCh]at hi;simp at hi;subst hi;rw[qBo i7]at c8;cases c8;exact s3
    simp at hi;rw[qBn (by omega)]at c8;exact c0 i v2 u2 x2 (by omega) j6 c8
   have l5:ws=ws.set d.length x:=by
    apply qCg;intro i;by_cases hi:i=d.length
    . subst hi;rw[qBo (by omega),b0]
    rw[qBn (Ne.symm hi)]
   have qim:∀f T' w,f 3=.ptr H.length 0->f 5=.ptr (H.length+2) 0->f 7=.ptr (H.length+3) 0->f 8=.ptr (H.length+4) 0->f 10=.fn 18 [] []->f 14=.ptr m.length 0->f 15=.ptr (m.length+1) 0->f 65=.sl 4 (p.vars.map qu) .none->f 66=.int .i64 n->f 67=.int .i64 ((d.length:Int)+1) ->
    (v.mode≠2\/u=[])->R f ⟨W++w,T'⟩:=by
    intro f T' w a3 a5 a7 a8 i6 d7 h8 g1 i3 i1 hc;refine fin f T' _ ws q u x a3 a5 a7 a8 i6 d7 h8 g1 i3 i1 (if_pos hc) (I.trans qGe) (by simp;omega) (qa c6 _) (qa a6 _) (qa cw _) l5 l9 (.inl rfl)
   have d9:=fun w=>qa c6 w
   have h6:=fun w=>qa a6 w
   have e0:=fun w=>qa cw w
   by_cases S:v.mode=2
   case neg=>
    simp[s,V,O,a0,Q,j,qu,S,K];exact qim _ _ _ (by simp[e3]) (by simp[A]) (by simp[D]) (by simp[F]) (by simp[a9]) (by simp[s]) (by simp[U]) (by simp[V]) (by simp[O]) (by simp) (.inl S)
   rcases l9 with⟨P,rfl|rfl⟩|⟨P,b,hb,rfl,d6⟩
   . simp[s,V,O,a0,Q,b6,j,qu,S,d9,e0,c2,C,K];exact qim _ _ _ (by simp[e3]) (by simp[A]) (by simp[D]) (by simp[F]) (by simp[a9]) (by simp[s]) (by simp[U]) (by simp[V]) (by simp[O]) (by simp) (.inr P)
   . simp[s,V,O,a0,Q,b6,j,qu,S,d9,e0,c2,C,K];exact qim _ _ _ (by simp[e3]) (by simp[A]) (by simp[D]) (by simp[F]) (by simp[a9]) (by simp[s]) (by simp[U]) (by simp[V]) (by simp[O]) (by simp) (.inr P)
   have r2:=qBA.2 P;have u1:¬(u.length:Int)=0:=(by omega);have d2:=qBl j;have s5:=hw v d2;have k6:=zJ J v d2;have s8:=t.w7 J v d2 S;have m8:W[b]?=some (.cells (zc u)):=I.2 _ _ d6 (by simp;omega);have n4:=fun w=>qa m8 w
   have h9:u.length<2^v.width.toNat:=j3 (v,u) (qBl e9);have j6:2^v.width.toNat<=2^7:=qBF (by omega) (by omega);have l7:=fun X TT hX=>qju v.width (by omega) (by omega) u (by unfold Fits;omega) P b X TT hX
   have i8:=qaJ h9;obtain⟨_,u7,q4⟩:=YU u (w:=v.width) (by omega) (by omega);have u4:=(KE u (w:=v.width) (by omega) (by omega)).2;have i2:=qoh v.name (jM v.width u) i8 (by omega) (fun x j=>by have:=q4 x j;omega) (by omega);have r7:VW v u=zT v.name (jr (jM v.width u)):=rfl;rw[<- r7]at i2;have t9:q.hard.length<=9020:=by
    obtain⟨_,_,_,_,es,q1,q2,_⟩:=Y;rw[q1,qBp];have:=t.hard;omega
   have i9:=qct q (VW v u) (by omega);have d5:=Y.add (K8 k6 (h.names v d2) u) (JJ d2 k6 u);have r8:VQ (Zb q (VW v u)):=d5.vq h (by have:=t.hard;omega);have j5:=WU (Zb q (VW v u)) r8 (by rw[d5.vars];exact t.vars) (by rw[d5.bits J];exact t.bits) (by rw[d5.dists];exact t.dists) (by rw[d5.soft];exact t.soft);have e4:qiu v u q=if(qt (Zb q (VW v u))).2=11 then(q,[]) else(Zb q (VW v u),u):=if_neg (by simp[S,P])
   generalize Zb q (VW v u)=less at *;generalize VW v u=mx at *;generalize p5:jM v.width u=ru at *;simp[s,V,O,a0,Q,b6,j,qu,S,d9,e0,c2,C,K,P];rw[qG rfl];have t2:=fun(X:List Blk) (hX:X[b]?=some (.cells (zc u)))=>(qmt.frz (b:=b) (H:=X) (v:=.ms b 0 u.length 1) (a:=u) (.inr ⟨P,rfl,hX⟩) 7).2.1
   simp only[qw]at i9 j5;have t4:=jq mx;refine qvy (fun f σ'=>qzw H m p n d.length f/\∃T',σ'=⟨W++[.cells (qu v),.cells (qw less)],T'⟩/\f 18=.ptr (W.length+1) 0) ?_ ?_
   . simp[qX,s,U,Q,b6,qu,S,d9,h6,e0,c2,C]
     repeat' with_reducible refine And.intro ?_ ?_
     all_goals
      refine qFJ (l7 _ _ (n4 _)) ?_;rintro v' σ' ⟨rfl,rfl⟩;rw[p5,qev i8,qaP i8];simp[qX,U,h6,K]
     all_goals
      refine qFH i2 (by simp) (by simp) ?_;simp[-qL,qX,K]
     all_goals
      refine qFG i9 ?_;simp[-qL,qX,K]
     all_goals exact⟨by simp[e3],by simp[A],by simp[D],by simp[F],by simp[a9],by simp[s],by simp[U],by simp,by simp[V],by simp[O],by simp[a0]⟩
   clear e3 A D F a9 s U V O a0 l7 i2 i9;rintro ev ⟨X,T'⟩ ⟨⟨e3,A,D,F,a9,s,U,l3,V,O,a0⟩,t3,hX,l2⟩;obtain⟨rfl,rfl⟩:=(St.mk.injEq _ _ _ _).mp hX;have f7:(W++[Blk.cells (qu v),.cells (qw less)])[W.length+1]?=some (.cells (qw less)):=(by simp);have t1:=fun w=>qa f7 w
   have a1:=d9 [Blk.cells (qu v),.cells (qw less)];have i4:=h6 [Blk.cells (qu v),.cells (qw less)];have Z:=e0 [Blk.cells (qu v),.cells (qw less)];have kX:KpL [g] m (W++[Blk.cells (qu v),.cells (qw less)]):=I.trans qGe;have lX:m.length+2<=(W++[Blk.cells (qu v),.cells (qw less)]).length:=(by simp;omega);have u5:W.length+1<(W++[Blk.cells (qu v),.cells (qw less)]).length:=(by simp);generalize (W++[Blk.cells (qu v),.cells (qw less)])=X at *;simp only[qw]at f7;simp[l2,f7];refine qFG j5 ?_;by_cases f8:(qt less).2=11
   . rw[if_pos f8]at e4;have j9:=(qBk.1 Z).1;simp[s,l3,a1,Z,C,Q,b6,f8,a0,K];refine fin _ _ _ _ q [] (.sl 0 [] .nil) (by simp[e3]) (by simp[A]) (by simp[D]) (by simp[F]) (by simp[a9]) (by simp[s]) (by simp[U]) (by simp[V]) (by simp[O]) (by simp) e4 (kX.trans (qGf (by simp))) (by simpa using lX) ?_ ?_ (qBo j9) rfl (.inl ⟨rfl,.inr rfl⟩) (.inr rfl)
     . rw[qBn (by omega)];exact a1
     rw[qBn (by omega)];exact i4
   rw[if_neg f8]at e4;have p4:=(qBk.1 i4).1;simp[s,U,l3,l2,a1,i4,f7,Z,C,Q,b6,f8,a0,K];refine fin _ _ _ _ less u (.ms b 0 u.length 1) (by simp[e3]) (by simp[A]) (by simp[D]) (by simp[F]) (by simp[a9]) (by simp[s]) (by simp[U]) (by simp[V]) (by simp[O]) (by simp) e4 (kX.setF (by omega)) (by simpa using lX) ?_ (qBo p4) ?_ l5 (.inr ⟨P,b,hb,rfl,d6⟩) (.inl rfl)
   . rw[qBn (by omega)];exact a1
   rw[qBn (by omega)];exact Z
 rintro ev ⟨W,T2⟩ ⟨e3,A,D,F,a9,s,U,V,O,a0,I,g5,c6,a6,ws,cw,C,a4,L,_⟩;dsimp only at I g5 c6 a6 cw;have f0:o.take p.vars.length=o:=qBr (by omega);rw[f0]at a6 L;rw[<- hn]at a0;have Y:MoreH p (vV o p).1 20:=by have:=m2 p.vars.length;rwa[f0]at this
 have h9:(vV o p).2.length=n:=by rwa[Y7]
 have j1:∀(i:Nat) (u:List Int),(vV o p).2[i]?=some u->u.length<=100000:=fun i u hi=>by
  obtain⟨x,j,e⟩:=qlF p o i u hi;have h1:=j3 x (qBl j);have h2:=hw _ (j4 x (qBl j));have N:2^x.1.width.toNat<=2^8:=qBF (by omega) (by omega);rcases e with rfl|rfl
  . omega
  simp
 generalize vV o p=st at *;obtain⟨q,us⟩:=st;dsimp only at a6 L Y h9 c4 j1;have m9:VQ q:=Y.vq h (by have:=t.hard;omega);have j0:=qg4 q m9 (by rw[Y.vars];exact t.vars) (fun _=>by rw[qpF Y.groups];exact t.flat J) (by rw[Y.bits J];exact t.bits) (by rw[Y.dists];exact t.dists) (by rw[Y.soft];exact t.soft) (by rw[Y.dists];exact t.wts) r W T2;have r3:=o8.old I (by omega);have o1:=I.2 _ _ bx (by simp;omega);have l8:=I.2 _ _ br (by simp;omega);have p3:=I.2 _ _ b3 (by simp;omega);have m4:=I.2 _ _ b4 (by simp;omega);simp only[qw]at j0 a6;simp only[jt]at j0;simp[A,U,O,a0,a6,l8];refine qFJ j0 ?_;rintro v ⟨H3,T3⟩ ⟨k3,w,b,rfl,h5,r0⟩;have g9:=k3.2 _ _ l8 (by simp);have i5:=k3.2 _ _ p3 (by simp);have g6:=k3.2 _ _ m4 (by simp);have q5:=k3.2 _ _ cw (by simp);have s0:=k3.2 _ _ c6 (by simp);have m5:=k3.2 _ _ o1 (by simp);have l6:=r3.trans k3;have n6:=(qBk.1 g9).1;have o9:=(qBk.1 i5).1;have r1:=(qBk.1 g6).1;have s7:=(qBk.1 c6).1;have f6:=QL (p:=q) (r:=r);rw[Y.vars]at f6;have o7:∀(i:Nat) (u:List Int) (x:AV),us[i]?=some u->ws[i]?=some x->vY g m x u/\vY g H3 x u:=fun i u x h1 h2=>by
  have N:=L i u x h1 h2;exact⟨N,(N.keep I (by simp)).keep k3 (by simp)⟩
 obtain⟨a,rr,er,o5⟩:∃a rr er,zo q r=(a,rr,er):=⟨_,_,_,rfl⟩;rw[o5]at h5 f6 c4⊢;dsimp only at h5 f6 c4⊢;by_cases e6:er=0
 case neg=>
  rw[if_pos e6]at c4;rw[c4];simp[e3,A,a9,g9,jt,e6];refine qFG (V7 _) ?_;simp[-getElem?_pos,D,F,i5,g6,o9,r1];exact⟨((l6.setF (by omega)).setF (by omega)).setF (by omega),.inl ⟨e6,rfl⟩⟩
 subst e6;rw[if_neg (by simp)]at c4;rw[c4];have c1:=f6 rfl;rw[<- hn]at c1;have k7:a≠[]:=fun e=>by rw[e]at c1;simp at c1;omega
 rcases h5 with⟨o2,_⟩|⟨_,rfl,m6⟩
 . exact absurd o2 k7
 rw[c1];have t5:=I.1;have t6:=r0;have d0:∀k,k≠H.length+2->∀y,(H3.set (H.length+2) y)[k]?=H3[k]?:=fun k hk y=>qBn (Ne.symm hk)
 have g7:∀y,(H3.set (H.length+2) y)[m.length]?=some (.cells [.ms g 0 n 1]):=fun y=>by rw[d0 _ (by omega)];exact s0
 have d4:∀y,(H3.set (H.length+2) y)[H.length+4]?=_:=fun y=>(d0 _ (by omega) y).trans g6
 have dw:∀y,(H3.set (H.length+2) y)[g]?=some (.cells ws):=fun y=>by rw[d0 _ (by omega)];exact q5
 have db:∀y,(H3.set (H.length+2) y)[b]?=some (.cells (zc a)):=fun y=>by rw[d0 _ (by omega)];exact m6
 simp[e3,A,g9,jt,show ∀y,(H3.set (H.length+2) y)[H.length]?=_ from fun y=>(d0 _ (by omega) y).trans m5];refine qFW p.vars (fun d ev σ=>ev 5=.ptr (H.length+2) 0/\ev 7=.ptr (H.length+3) 0/\ev 8=.ptr (H.length+4) 0/\ev 14=.ptr m.length 0/\ev 21=.ms b 0 n 1/\ev 127=.sl 4 (p.vars.map qu) .none/\ev 128=.int .i64 n/\ev 129=.int .i64 d.length /\
  KpL [] H σ.H/\H3.length<=σ.H.length/\σ.H[H.length+2]?=some (.cells [.int .u64 rr.1,.int .u64 rr.2])/\σ.H[H.length+3]?=some (.cells [.sl 0 [] .nil])/\σ.H[H.length+4]?=some (.cells [.int .u64 0,.int .u64 0])/\σ.H[m.length]?=some (.cells [.ms g 0 n 1])/\σ.H[b]?=some (.cells (zc a)) /\
  ∃ ws:List AV,σ.H[g]?=some (.cells ws)/\ws.length=n/\qbG ws /\
   (∀(i:Nat) (v:Var) (u:List Int) (z:Int) (x:AV),i<d.length->p.vars[i]?=some v->us[i]?=some u->a[i]?=some z->ws[i]?=some x->vY g σ.H x (qiW v u z)) /\
   (∀(i:Nat) (u:List Int) (x:AV),d.length<=i->us[i]?=some u->ws[i]?=some x->vY g m x u/\vY g σ.H x u)) ?_ ?_ ?_
 . refine⟨by simp[A],by simp[D],by simp[F],by simp[s],by simp,by simp,by simp[hn],by simp,l6.setF (by omega),by simp,(fun y=>qBo n6) _,(fun y=>(d0 _ (by omega) y).trans i5) _,d4 _,g7 _,db _,ws,dw _,C,a4,fun i v u z x hi=>by simp at hi,fun i u x _ h1 h2=>?_⟩;obtain⟨N,h4⟩:=o7 i u x h1 h2;exact⟨N,h4.keep (qGf (bs:=[H.length+2]) (by simp)) (by simp;omega)⟩
 . rintro d v rest ev ⟨B,T5⟩ R hR n0 j g2 ⟨A,D,F,s,b7,c7,b8,c3,d1,l0,f2,f3,f4,a1,fb,ws,Z,C,a4,L,c0⟩;dsimp only at d1 l0 f2 f3 f4 a1 fb Z L c0;rw[<- hn]at g2;have Q:(d.length:Int)<n:=(by omega);have b6:d.length+1<=n:=(by omega);have K:=wr (n:=(d.length:Int)+1);obtain⟨x,b0⟩:∃x,ws[d.length]?=some x:=⟨_,qBm (by omega)⟩;obtain⟨u,hu⟩:∃u,us[d.length]?=some u:=⟨_,qBm (by omega)⟩;obtain⟨j2,l1⟩:=c0 _ u x (qBs _) hu b0;have c2:ws.drop d.length=x::ws.drop (d.length+1):=by
    obtain⟨h1,h2⟩:=qBk.1 b0;rw[qBE h1,h2]
   obtain⟨z,hz⟩:∃z,a[d.length]?=some z:=⟨_,qBm (by omega)⟩;have g3:(zc a).drop d.length=.int .i64 z::(zc a).drop (d.length+1):=by
    obtain⟨h1,h2⟩:=qBk.1 (by rw[WF,hz];rfl);rw[qBE h1,h2]
   have i7:d.length<ws.length:=(by omega);by_cases S:v.mode=2
   case neg=>
    simp[c7,b8,c3,Q,j,qu,S,K];refine hR _ _ ⟨by simp[A],by simp[D],by simp[F],by simp[s],by simp[b7],by simp[c7],by simp[b8],by simp,d1.trans qGe,by simp;omega,qa f2 _,qa f3 _,qa f4 _,qa a1 _,qa fb _,ws,qa Z _,C,a4,fun i v' E z' x' hi c5 a2 d8 G=>?_,fun i E x' hi a2 G=>?_⟩
    . by_cases c9:i=d.length
      . subst c9;rw[j]at c5;rw[hu]at a2;rw[b0]at G;cases c5;cases a2;cases G;have:qiW v u z'=u:=if_neg S;rw[this];exact l1.keep (qGe (bs:=[])) (by simp)
      . exact(L i v' E z' x' (by simp at hi;omega) c5 a2 d8 G).keep (qGe (bs:=[])) (by simp)
    obtain⟨h1,h2⟩:=c0 i E x' (by simp at hi;omega) a2 G;exact⟨h1,h2.keep (qGe (bs:=[])) (by simp)⟩
   -- what is written: a new row
   have fin:∀f T' H' nb,f 5=.ptr (H.length+2) 0->f 7=.ptr (H.length+3) 0->f 8=.ptr (H.length+4) 0->f 14=.ptr m.length 0->f 21=.ms b 0 n 1->f 127=.sl 4 (p.vars.map qu) .none->f 128=.int .i64 n->f 129=.int .i64 ((d.length:Int)+1) ->
    B.length<=nb->B.length<=H'.length->(∀k,k≠g->(∀b' k',x=.ms b' 0 k' 1->k≠b')->k<B.length->H'[k]?=B[k]?)->H'[g]?=some (.cells (ws.set d.length (.ms nb 0 (u.length+1) 1)))->H'[nb]?=some (.cells (zc (u++[z])))->R f ⟨H',T'⟩:=by
    intro f T' H' nb a5 a7 a8 d7 p0 s4 r6 n9 s6 l4 j7 q7 n2;have q6:∀b' k',x=.ms b' 0 k' 1->g<b'/\b'<m.length:=fun b' k' e=>by
     subst e;have:=j2.lt;omega
    have hold:∀k y,B[k]?=some y->k≠g->(k<=g\/m.length<=k)->H'[k]?=some y:=fun k y M h1 h2=>by
     rw[j7 k h1 (fun b' k' e=>by have:=q6 b' k' e;omega) (qBk.1 M).1];exact M
    have f1:∀i x' E,i≠d.length->ws[i]?=some x'->vY g B x' E->vY g H' x' E:=fun i x' E hi G h=>h.same fun b' k' e=>by
     subst e;have h1:=h.lt;exact j7 b' (by omega) (fun b2 I e2=>by subst e2;exact a4 i d.length b' b2 k' I hi G b0) h1.1
    refine hR _ _ ⟨a5,a7,a8,d7,p0,s4,r6,by rw[n9];simp,⟨by have:=d1.1;dsimp only;omega,fun k y M _=>hold k y (d1.2 k y M (by simp)) (by have:=(qBk.1 M).1;omega) (.inl (by have:=(qBk.1 M).1;omega))⟩,by dsimp only;omega,hold _ _ f2 (by omega) (.inl (by omega)),hold _ _ f3 (by omega) (.inl (by omega)),hold _ _ f4 (by omega) (.inl (by omega)),hold _ _ a1 (by omega) (.inr (qBs _)),hold _ _ fb (by omega) (.inr (by omega)),_,q7,by simp[C],a4.set (fun b1 k1 M i b' k' hi d3=>?_),fun i v' E z' x' hi c5 a2 d8 G=>?_,fun i E x' hi a2 G=>?_⟩
    . cases M;have k5:i<n:=(by have:=(qBk.1 d3).1;omega);obtain⟨u2,m3⟩:∃u2,us[i]?=some u2:=⟨_,qBm (by omega)⟩;by_cases p6:d.length<=i
      . have:=(c0 i u2 _ p6 m3 d3).2.lt;omega
      obtain⟨v2,n5⟩:∃v2,p.vars[i]?=some v2:=⟨_,qBm (by omega)⟩;obtain⟨z2,n7⟩:∃z2,a[i]?=some z2:=⟨_,qBm (by omega)⟩;have:=(L i v2 u2 z2 _ (by omega) n5 m3 n7 d3).lt;omega
    . by_cases c9:i=d.length
      . subst c9;rw[j]at c5;rw[hu]at a2;rw[hz]at d8;cases c5;cases a2;cases d8;rw[qBo i7]at G;cases G;have e:qiW v u z=u++[z]:=if_pos S;rw[e];exact .inr ⟨by simp,nb,by have:=(qBk.1 Z).1;omega,by simp,n2⟩
      . rw[qBn (Ne.symm c9)]at G;exact f1 i x' _ c9 G (L i v' E z' x' (by simp at hi;omega) c5 a2 d8 G)
    simp at hi;rw[qBn (by omega)]at G;obtain⟨h1,h2⟩:=c0 i E x' (by omega) a2 G;exact⟨h1,f1 i x' _ (by omega) G h2⟩
   have t0:u.length<=100000:=j1 _ u hu;simp[c7,b8,c3,Q,j,qu,S];rw[qG rfl];have f5:=fun w=>qa a1 w
   have g0:=fun w=>qa Z w
   have h7:=fun w=>qa fb w
   have j9:=(qBk.1 Z).1;rcases l1 with⟨P,rfl|rfl⟩|⟨P,b5,s9,rfl,d6⟩
   . subst P;simp[qX,s,b7,c3,Q,b6,f5,g0,h7,c2,g3,C,qO,c1,qY,zD,Zl,qP,qe,qp,K];refine⟨?_,?_⟩
     all_goals
      refine fin _ _ _ (B.length+1) (by simp[A]) (by simp[D]) (by simp[F]) (by simp[s]) (by simp[b7]) (by simp[c7]) (by simp[b8]) (by simp) (by omega) (by simp) (fun k h1 _ N=>?_) (qBo (by simp;omega)) ?_
      . rw[qBn (Ne.symm h1),qBv N]
      rw[qBn (by omega)];simp[zc]
   . subst P;simp[qX,s,b7,c3,Q,b6,f5,g0,h7,c2,g3,C,qO,c1,qY,zD,Zl,qP,qe,qp,K];refine⟨?_,?_⟩
     all_goals
      refine fin _ _ _ (B.length+1) (by simp[A]) (by simp[D]) (by simp[F]) (by simp[s]) (by simp[b7]) (by simp[c7]) (by simp[b8]) (by simp) (by omega) (by simp) (fun k h1 _ N=>?_) (qBo (by simp;omega)) ?_
      . rw[qBn (Ne.symm h1),qBv N]
      rw[qBn (by omega)];simp[zc]
   have r2:=qBA.2 P;have q0:=fun w=>qa d6 w
   have t8:=(qBk.1 d6).1;have n1:∀w y,((B++w).set b5 y)[g]?=some (.cells ws):=fun w y=>by rw[qBn (by omega)];exact g0 w
   have o4:∀w y,((B++w).set b5 y)[m.length]?=some (.cells [.ms g 0 n 1]):=fun w y=>by
    have:=j2.lt;rw[qBn (by omega)];exact f5 w
   simp[qX,s,b7,c3,Q,b6,f5,g0,h7,q0,show ∀w y w2,((B++w).set b5 y++w2)[g]?=some (.cells ws) from fun w y w2=>qa (n1 w y) w2,show ∀w y w2,((B++w).set b5 y++w2)[m.length]?=some (.cells [.ms g 0 n 1]) from fun w y w2=>qa (o4 w y) w2,c2,g3,C,qO,c1,qY,zD,Zl,qP,qe,qp,K,show u.length+1<=549755813888 by omega,show(zc u).take u.length=zc u from qBr (by simp[qO])];refine⟨?_,?_⟩
   all_goals
    refine fin _ _ _ (B.length+1) (by simp[A]) (by simp[D]) (by simp[F]) (by simp[s]) (by simp[b7]) (by simp[c7]) (by simp[b8]) (by simp) (by omega) (by simp;omega) (fun k h1 h2 N=>?_) (qBo (by simp;omega)) ?_
    . rw[qBn (Ne.symm h1),qBv (by simp;omega),qBn (Ne.symm (h2 b5 u.length rfl)),qBv N]
    rw[qBn (by omega)];simp[zc]
 rintro ev ⟨B,T5⟩ ⟨A,D,F,s,b7,c7,b8,c3,d1,l0,f2,f3,f4,a1,fb,ws,Z,C,a4,L,_⟩;rw[<- hn]at c3;have r5:=(qBk.1 f3).1;have t7:=(qBk.1 f4).1;simp[b8,c3];rw[qG rfl];have r9:∀y,(B.set (H.length+3) y)[H.length+4]?=some (.cells [.int .u64 0,.int .u64 0]):=fun y=>by rw[qBn (by omega)];exact f4
 have g4:∀y z,((B.set (H.length+3) y).set (H.length+4) z)[H.length+4]?=some z:=fun y z=>qBo (by simp;omega)
 have s1:∀y z,((B.set (H.length+3) y).set (H.length+4) z)[H.length+3]?=some y:=fun y z=>by rw[qBn (by omega)];exact(fun y=>qBo r5) y
 have q3:=qaT p.vars us a;have fin:∀T' y z,qwy (a,qdP p.vars us a,rr,0) n H (.tup [.ms b 0 n 1,.agg [.ms g 0 n 1],.agg [.int .u64 rr.1,.int .u64 rr.2],.int .i64 0]) ⟨(B.set (H.length+3) y).set (H.length+4) z,T'⟩:=fun T' y z=>by
  have hold:∀k x,B[k]?=some x->k≠H.length+3->k≠H.length+4->((B.set (H.length+3) y).set (H.length+4) z)[k]?=some x:=fun k x j h1 h2=>by
   rw[qBn (Ne.symm h2),qBn (Ne.symm h1)];exact j
  refine⟨(d1.setF (by omega)).setF (by omega),.inr ⟨rfl,_,b,g,ws,rfl,.inr ⟨k7,by rw[c1],hold _ _ fb (by omega) (by omega)⟩,by rw[(YY _ _ _ (by omega) (by omega)),hn],hold _ _ Z (by omega) (by omega),C,fun i u x hi j=>?_⟩⟩;obtain⟨v,E,z',h1,h2,N,rfl⟩:=q3 i u hi;have f9:=(qBk.1 h1).1;exact(L i v E z' x f9 h1 h2 N j).same fun b' k e=>by
   subst e;have:=(L i v E z' _ f9 h1 h2 N j).lt;rw[qBn (by omega),qBn (by omega)]
 simp[qX,A,D,F,s,b7,f2,f3,a1,r9,g4,s1];exact fin _ _ _
structure His(B lo m:Nat)(vs:List Var)(us:List (List Int))(a:List Int)(k:Nat)(ws:List AV)(H:List Blk):Prop where
 cw:H[B]?=some (.cells ws)
 len:ws.length=vs.length
 ul:us.length=vs.length
 al:a.length=vs.length
 dis:qbG ws
 done:∀(i:Nat) (v:Var) (u:List Int) (z:Int) (x:AV),i<k->vs[i]?=some v->us[i]?=some u->a[i]?=some z->ws[i]?=some x->vY lo H x (qiW v u z)
 left:∀(i:Nat) (u:List Int) (x:AV),k<=i->us[i]?=some u->ws[i]?=some x->vY lo H x u/\∀b k,x=.ms b 0 k 1->b<m
def His.app{B lo m vs us a k ws H}(h:His B lo m vs us a k ws H)(t):His B lo m vs us a k ws (H++t) :=
 ⟨qa h.cw _,h.len,h.ul,h.al,h.dis,fun i v u z x h1 h2 b d c=>(h.done i v u z x h1 h2 b d c).keep (qGe (bs:=[])) (by simp),fun i u x h1 h2 b=>by
  obtain⟨f,e⟩:=h.left i u x h1 h2 b;exact⟨f.keep (qGe (bs:=[])) (by simp),e⟩⟩
def His.skip{B lo m vs us a k ws H v}(h:His B lo m vs us a k ws H)(e:vs[k]?=some v)(f:v.mode≠2):His B lo m vs us a (k+1) ws H :=
 ⟨h.cw,h.len,h.ul,h.al,h.dis,fun i v' u z x h1 h2 c d b=>by
  by_cases hi:i=k
  . subst hi;rw[e]at h2;cases h2;rw[show qiW v u z=u from if_neg f];exact(h.left i u x (qBs _) c b).1
  exact h.done i v' u z x (by omega) h2 c d b,fun i u x h1=>h.left i u x (by omega)⟩
def His.put{B lo m vs us a k ws H H' v u z x d}(h:His B lo m vs us a k ws H)(M:v.mode=2)(W:vs[k]?=some v)(K:us[k]?=some u)(F:a[k]?=some z)(y:ws[k]?=some x)(X:B<=lo)(O:lo<d)(Z:H.length<=d)
 (D:∀j,j≠B->(∀b' k',x=.ms b' 0 k' 1->j≠b')->j<H.length->H'[j]?=H[j]?) (G:H'[B]?=some (.cells (ws.set k (.ms d 0 (u.length+1) 1)))) (J:H'[d]?=some (.cells (zc (u++[z])))):
 His B lo m vs us a (k+1) (ws.set k (.ms d 0 (u.length+1) 1)) H':=by
 have R:=(qBk.1 y).1;have C:∀i x' c,i≠k->ws[i]?=some x'->vY lo H x' c->vY lo H' x' c:=fun i x' c hi b h'=>h'.same fun b' k' e=>by
  subst e;have h1:=h'.lt;exact D b' (by omega) (fun b2 T E=>by subst E;exact h.dis i k b' b2 k' T hi b y) h1.1
 have L:=h.len;have N:=h.ul;have I:=h.al;refine⟨G,by simp[L],N,I,h.dis.set (fun b1 k1 Q i b' k' hi r=>?_),fun i v' c S x' hi w f o b=>?_,fun i c x' hi f b=>?_⟩
 . cases Q;have Y:=(qBk.1 r).1;obtain⟨g,A⟩:∃g,us[i]?=some g:=⟨_,qBm (by omega)⟩;by_cases V:k<=i
   . have:=(h.left i g _ V A r).1.lt;omega
   obtain⟨t,P⟩:∃t,vs[i]?=some t:=⟨_,qBm (by omega)⟩;obtain⟨s,U⟩:∃s,a[i]?=some s:=⟨_,qBm (by omega)⟩;have:=(h.done i t g s _ (by omega) P A U r).lt;omega
 . by_cases l:i=k
   . subst l;rw[W]at w;rw[K]at f;rw[F]at o;cases w;cases f;cases o;rw[qBo R]at b;cases b;rw[show qiW v u z=u++[z] from if_pos M];exact .inr ⟨by simp,d,O,by simp,J⟩
   . rw[qBn (Ne.symm l)]at b;exact C i x' _ l b (h.done i v' c S x' (by omega) w f o b)
 rw[qBn (by omega)]at b;obtain⟨h1,h2⟩:=h.left i c x' (by omega) f b;exact⟨C i x' _ (by omega) b h1,h2⟩
def His.hold{B lo m vs us a k ws u x}{H H':List Blk}(h:His B lo m vs us a k ws H)(f:us[k]?=some u)(d:ws[k]?=some x)
 (c:∀j,j≠B->(∀b' k',x=.ms b' 0 k' 1->j≠b')->j<H.length->H'[j]?=H[j]?) {j:Nat} {y:Blk} (b:H[j]?=some y) (h1:j≠B) (h2:j<=lo\/m<=j):H'[j]?=some y:=by
 obtain⟨i,g⟩:=h.left k u x (qBs _) f d;rw[c j h1 (fun b' k' e=>by have:=g b' k' e;subst e;have:=i.lt;omega) (qBk.1 b).1];exact b
def ZQ(H:List Blk)(r:AV)(σ':St):Prop:=KpL [] H σ'.H/\∃tok,r=.agg [.sl 1 [] tok]
def qlJ(p)(h0:p.vars=[])(tok H T):
 qh prog GG 22 [.agg (qw p),.agg [.sl 1 [] tok]] ⟨H,T⟩ (ZQ H):=by
 refine qFE ⟨false,qkg,[],[]⟩ func22 ?_;have i:=qna p h0;simp;refine qFJ (i _ _) ?_;rintro v ⟨c,o⟩ ⟨a,b,rfl⟩;dsimp only at a;have j:=a.2 _ _ lk1 (by simp);have d:=a.2 _ _ lk2 (by simp);have r:=(qBk.1 d).1;simp[qa j];refine qFL (fun m ev σ=>ev 4=.ptr (H.length+2) 0/\ev 5=.ptr c.length 0/\ev 12=.int .i64 0/\ev 13=.int .i64 0/\∃T',σ=⟨c++[.cells [.sl 1 [] b]],T'⟩) 0 ?_ ?_
 . exact⟨by simp,by simp,by simp,by simp,_,rfl⟩
 rintro m ev σ R s ⟨f,l,h,g,T',rfl⟩;have e:∀y,((c++[Blk.cells [.sl 1 [] b]]).set (H.length+2) y)[H.length+2]?=some y:=fun y=>qBo (by simp;omega)
 simp[f,l,h,g,qa d,e];refine⟨((qGe.trans a).trans qGe).setF (by omega),b,rfl⟩
def qiv(p)(h:VQ p)(a5:qg p=0)(h0:p.vars=[])(c3:(NG p).flatten.length<=12)(hb:kj p.vars (qI p)<=18)(hd:p.dists.length<=10000)(a0:p.soft.length<=10000)(c1:∀d∈p.dists,d.weights.length<=1000)(r tok H T):
 qh prog GG 7 [.agg (qw p),.agg [.sl 1 [] tok],.agg (jt r)] ⟨H,T⟩ (fun v σ'=>KpL [] H σ'.H/\∃w sz j,
  (((zo p r).2.2≠0/\v=.tup [.sl 0 [] .nil,.agg [.sl sz [] j],.agg [.int .u64 0,.int .u64 0],.int .i64 (zo p r).2.2]) \/
    ((zo p r).2.2=0/\v=.tup [w,.agg [.sl sz [] j],.agg (jt (zo p r).2.1),.int .i64 0]/\∃b,qmt b σ'.H w (zo p r).1))):=by
 refine qFE ⟨false,qr2,[],[]⟩ func7 ?_;have N:=yw p h;have Z:=qlj p [] (by rw[h0];simp) (by simp) (by simp) (by rw[h0];simp);have Q:=qli p;rw[show qih p=[] by unfold qih;rw[h0];rfl]at Q;rw[Q]at Z;rw[a5]at N;have b1:=WU p h (by rw[h0];simp) hb hd a0;have b0:=qlJ p h0 tok;have d0:∀H':List Blk,Leq (frz H' 8 (.agg [.sl 1 [] tok])) (.agg (jp [])):=fun H'=>by
  have e:frz H' 8 (.agg [.sl 1 [] tok])=.agg [.sl 1 [] tok]\/frz H' 8 (.agg [.sl 1 [] tok])=.agg [.sl 1 [] .none]:=by
   cases tok with
   |chain t k=>right;simp[frz,qE,qr]
   |none=>left;exact ql (by simp)
   |nil=>left;exact ql (by simp)
   |tight=>left;exact ql (by simp)
  rcases e with e|e<;>rw[e]<;>simp[Leq,zl]
 simp[jt];refine qFG N ?_;simp;refine qFI Z (by rfl) (by
  simp only[qBz,qBS,zl];refine⟨?_,d0 _,trivial⟩;rw[ql (by simp)];simp[qFN]) ?_
 simp;refine qFG b1 ?_;by_cases A:(qt p).2=0
 case neg=>
  have b2:zo p r=([],(0,0),(qt p).2):=if_pos A;rw[b2];simp[A];refine qFG (V7 _) ?_ rfl;simp;exact qGe
 simp[A];refine qFJ (b0 _ _) ?_;rintro v ⟨c,T1⟩ ⟨i,f,rfl⟩;have bx:=i.2 _ _ lk0 (by simp);have br:=i.2 _ _ lk2 (by simp);have b3:=i.2 _ _ lk3 (by simp);have b4:=i.2 _ _ lk4 (by simp);have b7:=i.1;simp only[qBp,qBB,qCc]at b7;simp[qa bx,h0];refine qFL (fun m ev σ=>ev 3=.ptr H.length 0/\ev 5=.ptr (H.length+2) 0/\ev 7=.ptr (H.length+3) 0/\ev 8=.ptr (H.length+4) 0/\ev 10=.fn 18 [] []/\ev 14=.ptr c.length 0/\ev 15=.ptr (c.length+1) 0/\ev 66=.int .i64 0/\ev 67=.int .i64 0 /\
  σ.H=c++[.cells [.sl 1 [] f],.cells (qw p)]) 0 ?_ ?_
 . exact⟨by simp,by simp,by simp,by simp,by simp,by simp,by simp,by simp,by simp,by simp[h0]⟩
 rintro m ev ⟨X,T2⟩ R hR ⟨O,g,s,u,c9,I,b9,a9,a1,rfl⟩;have l:KpL [] c (c++[.cells [.sl 1 [] f],.cells (qw p)]):=qGe;have c0:(c++[.cells [.sl 1 [] f],.cells (qw p)])[c.length]?=some (.cells [.sl 1 [] f]):=lk0;have P:(c++[.cells [.sl 1 [] f],.cells (qw p)])[c.length+1]?=some (.cells (qw p)):=lk1;generalize (c++[.cells [.sl 1 [] f],.cells (qw p)])=X at *;have a6:=l.2 _ _ bx (by simp);have S:=l.2 _ _ br (by simp);have c4:=l.2 _ _ b3 (by simp);have a3:=l.2 _ _ b4 (by simp);have a7:=(qGe.trans i).trans l;have L:=qg4 p h (by rw[h0];simp) (fun _=>c3) hb hd a0 c1 r X T2;simp only[qw]at L P;simp only[jt]at L;simp[g,b9,a9,a1,P,S];refine qFJ L ?_;rintro v ⟨J,T3⟩ ⟨k3,w,b,rfl,C,d6⟩;have B:=k3.2 _ _ S (by simp);have G:=k3.2 _ _ c4 (by simp);have E:=k3.2 _ _ a3 (by simp);have d1:=k3.2 _ _ c0 (by simp);have a4:=k3.2 _ _ a6 (by simp);have M:=a7.trans k3;have d4:=(qBk.1 B).1;have c2:=(qBk.1 G).1;have a2:=(qBk.1 E).1;have D:=QL (p:=p) (r:=r);obtain⟨a,o,K,b6⟩:∃a o K,zo p r=(a,o,K):=⟨_,_,_,rfl⟩;rw[b6]at C D⊢;dsimp only at C D⊢;by_cases U:K=0
 case neg=>
  simp[O,g,c9,B,jt,U];refine qFG (V7 _) ?_ rfl;simp[-getElem?_pos,s,u,G,E,c2,a2];exact((M.setF (by omega)).setF (by omega)).setF (by omega)
 subst U;have Y:=D rfl;rw[h0]at Y;have c8:a=[]:=qBy Y;subst c8;rcases C with⟨_,sz,j,rfl⟩|⟨hx,_⟩
 case inr=>exact absurd rfl hx
 have x:∀k,k≠H.length+2->∀y,(J.set (H.length+2) y)[k]?=J[k]?:=fun k hk y=>qBn (Ne.symm hk)
 simp[O,g,B,jt,show ∀y,(J.set (H.length+2) y)[H.length]?=_ from fun y=>(x _ (by omega) y).trans a4,h0];refine qFL (fun m ev σ=>ev 5=.ptr (H.length+2) 0/\ev 7=.ptr (H.length+3) 0/\ev 8=.ptr (H.length+4) 0/\ev 14=.ptr c.length 0/\ev 21=.sl sz [] j/\ev 128=.int .i64 0/\ev 129=.int .i64 0 /\
  KpL [] H σ.H/\σ.H[H.length+2]?=some (.cells [.int .u64 o.1,.int .u64 o.2])/\σ.H[H.length+3]?=some (.cells [.sl 0 [] .nil])/\σ.H[H.length+4]?=some (.cells [.int .u64 0,.int .u64 0])/\σ.H[c.length]?=some (.cells [.sl 1 [] f])) 0 ?_ ?_
 . exact⟨by simp[g],by simp[s],by simp[u],by simp[I],by simp,by simp,by simp,M.setF (by omega),qBo d4,(x _ (by omega) _).trans G,(x _ (by omega) _).trans E,(x _ (by omega) _).trans d1⟩
 rintro m ev ⟨F,T5⟩ R hR ⟨g,s,u,I,a8,c7,d3,b8,f2,V,W,c6⟩;have b5:=(qBk.1 V).1;have d5:=(qBk.1 W).1;simp[c7,d3];rw[qG rfl];have c5:∀y,(F.set (H.length+3) y)[H.length+4]?=some (.cells [.int .u64 0,.int .u64 0]):=fun y=>by rw[qBn (by omega)];exact W
 have g4:∀y z,((F.set (H.length+3) y).set (H.length+4) z)[H.length+4]?=some z:=fun y z=>qBo (by simp;omega)
 have d2:∀y z,((F.set (H.length+3) y).set (H.length+4) z)[H.length+3]?=some y:=fun y z=>by rw[qBn (by omega)];exact(fun y=>qBo b5) y
 simp[qX,g,s,u,I,a8,f2,V,c6,c5,g4,d2];exact⟨(b8.setF (by omega)).setF (by omega),0,.inl ⟨rfl,sz,j,rfl⟩⟩
def vY.frz{B H x u}(h:vY B H x u)(k):qE (Abs.frz H (k+1) x)=true/\AV.atom (Abs.frz H (k+1) x)=true/\Leq (Abs.frz H (k+1) x) (.sl 1 (u.map qf) .none):=by
 rcases h with⟨rfl,rfl|rfl⟩|⟨h0,b,_,rfl,hb⟩
 . rw[ql (by simp)];simp[Leq,AV.atom]
 . rw[ql (by simp)];simp[Leq,AV.atom]
 have a:ja b 1 qf H (.ms b 0 u.length 1) u:=.inr ⟨h0,rfl,by rw[hb,jD]⟩;refine⟨a.frzNo (fun _=>rfl) (fun _=>rfl) (fun _=>rfl) k,?_,a.frz (fun _=>rfl) (fun _=>rfl) (fun _=>rfl) k⟩;have c:=a.frzNo (fun _=>rfl) (fun _=>rfl) (fun _=>rfl) k;have d:=a.frz (fun _=>rfl) (fun _=>rfl) (fun _=>rfl) k;generalize Abs.frz H (k+1) (.ms b 0 u.length 1)=y at *;cases y<;>first|rfl|(simp[qE]at c;done)|(simp[Leq]at d;done)
def qvJ(B H k):∀(ws:List AV) (d:List (List Int)),ws.length=d.length->(∀(i:Nat) (u:List Int) (x:AV),d[i]?=some u->ws[i]?=some x->vY B H x u)->ym ((ws.map fun v=>[v]).map (·.map (Abs.frz H (k+1)))) (d.map qn)/\(((ws.map fun v=>[v]).map (·.map (Abs.frz H (k+1)))).all (·.all AV.atom))=true/\qM ((ws.map fun v=>[v]).map (·.map (Abs.frz H (k+1))))=true
 |[],[],_,_=>by simp
 |[],_::_,h,_=>by simp at h
 |_::_,[],h,_=>by simp at h
 | v::vs,l::c,h,a=>by
  obtain⟨h1,h2,e⟩:=qvJ B H k vs c (by simpa using h) (fun i u x j b=>a (i+1) u x (by simpa using j) (by simpa using b));obtain⟨m,f,g⟩:=(a 0 l v rfl rfl).frz k;refine⟨?_,?_,?_⟩
  . simp only[qBz,qBS,ym];refine⟨.inr ⟨?_,by simp[AV.atom,qn]⟩,h1⟩;simp only[qn,zl,and_true];exact g
  . simp only[qBz,qBS,qCH,qEW,f,qCR,qCC];exact h2
  simp only[qBz,qBS,qM,qr,m,qCR,qCC];exact e
def qdd{B n ws}{d:List (List Int)}{H}(g:H[B]?=some (.cells ws))(h:ws.length=n)(hd:d.length=n)(a:∀(i:Nat) (u:List Int) (x:AV),d[i]?=some u->ws[i]?=some x->vY B H x u)(k):
 qE (Abs.frz H (k+3) (.agg [.ms B 0 n 1]))=true/\Leq (Abs.frz H (k+3) (.agg [.ms B 0 n 1])) (.agg (jp d)):=by
 obtain⟨h1,h2,e⟩:=qvJ B H k ws d (by omega) a;have f:ww 1 n (ws.drop 0)=ws.map fun v=>[v]:=by
  have:=Go.Abs.vg (sz:=1) (en:=fun v:AV=>[v]) (fun _=>rfl) ws [];rw[<- h];simpa using this
 have b:Abs.frz H (k+2) (.ms B 0 n 1)=.sl 1 ((ws.map fun v=>[v]).map (·.map (Abs.frz H (k+1)))) .none:=by
  rw[Abs.frz];simp only[qE,qBP,if_false,g,f];rw[if_pos ⟨by omega,h2⟩]
 have c:Abs.frz H (k+3) (.agg [.ms B 0 n 1])=.agg [Abs.frz H (k+2) (.ms B 0 n 1)]:=by
  rw[Abs.frz,if_neg (by simp[qE])];rfl
 rw[c,b];refine⟨by simp only[qE,qr,e];rfl,?_⟩;simp only[Leq,zl,jp,and_true];exact .inr ⟨trivial,h1,.inl trivial⟩
def qng(q:List Int×List (List Int)×Rng×Int):AV:=.tup [.sl 1 (q.1.map qf) .none,.agg (jp q.2.1),.agg (jt q.2.2.1),.int .i64 q.2.2.2]
def Jk{H n v w v' w' x z}(b:qr x=true)(h1:qE (Abs.frz H n v)=true/\Leq (Abs.frz H n v) v')(h2:qE (Abs.frz H n w)=true/\Leq (Abs.frz H n w) w'):
 qE (Abs.frz H (n+1) (.tup [v,w,.agg x,.int .i64 z]))=true/\Leq (Abs.frz H (n+1) (.tup [v,w,.agg x,.int .i64 z])) (.tup [v',w',.agg x,.int .i64 z]):=by
 have c:qE (.agg x)=true:=by simpa[qE] using b
 by_cases a:qE (.tup [v,w,.agg x,.int .i64 z])=true
 . rw[ql a];have d:=a;simp at a;rw[ql a.1,ql a.2.1]at *;exact⟨d,by simp[Leq,zl,h1.2,h2.2]⟩
 have e:Abs.frz H (n+1) (.tup [v,w,.agg x,.int .i64 z])=.tup [Abs.frz H n v,Abs.frz H n w,.agg x,.int .i64 z]:=by
  rw[Abs.frz,if_neg a];simp[ql c,wL]
 rw[e];exact⟨by simp[qE,qr,h1.1,h2.1,b],by simp[Leq,zl,h1.2,h2.2]⟩
def qe0(p c)(f:CycH p c)(r):Pure Tryz.prog GG 7 [.agg (qw p),.agg (jp c),.agg (jt r)] (qng (QN p c r)):=by
 by_cases m:p.vars=[]/\qg p=0/\yt p.vars c=true
 . obtain⟨h0,i,d⟩:=m;have E:c=[]:=by
    unfold yt at d;simp at d;rw[h0]at d;exact qBy d.1
   subst E;refine Pure.ofA (qiv p f.vq i h0 (f.flat i) f.bits f.dists f.soft f.wts r .none [] []) ?_;have s:vV (Qm p.vars []) p=(p,[]):=(by rw[h0];rfl);have u:(qt p).2≠0->QN p [] r=([],[],(0,0),(zo p r).2.2):=fun h=>by
    unfold QN;rw[if_neg (by simp[i]),if_neg (by simp[d]),if_pos h];have:zo p r=([],(0,0),(qt p).2):=if_pos h;rw[this]
   rintro v σ' ⟨_,w,sz,o,⟨a,rfl⟩|⟨a,rfl,b,g⟩⟩
   . have j:QN p [] r=([],[],(0,0),(zo p r).2.2):=by
      by_cases g:(qt p).2=0
      . unfold QN;rw[if_neg (by simp[i]),if_neg (by simp[d]),if_neg (by simp[g]),s,if_pos a]
      exact u g
     rw[j];refine Jk (by simp) (by rw[ql (by simp)];simp[Leq]) ?_
     cases o with
     |chain t k=>simp[Abs.frz,qE,qr,Leq,zl]
     |none=>rw[ql (by simp)];simp[Leq,zl]
     |nil=>rw[ql (by simp)];simp[Leq,zl]
     |tight=>rw[ql (by simp)];simp[Leq,zl]
   have D:(qt p).2=0:=by
    apply Classical.byContradiction;intro h;have:zo p r=([],(0,0),(qt p).2):=if_pos h;rw[this]at a;exact h a
   have j:QN p [] r=((zo p r).1,[],(zo p r).2.1,0):=by
    unfold QN;rw[if_neg (by simp[i]),if_neg (by simp[d]),if_neg (by simp[D]),s,if_neg (by simp[a])];rw[h0];rfl
   rw[j];obtain⟨h1,h2,l⟩:=g.frz 6;refine Jk (by simp[qE,qr,jt]) ⟨h1,h2⟩ ?_
   cases o with
   |chain t k=>simp[Abs.frz,qE,qr,Leq,zl]
   |none=>rw[ql (by simp)];simp[Leq,zl]
   |nil=>rw[ql (by simp)];simp[Leq,zl]
   |tight=>rw[ql (by simp)];simp[Leq,zl]
 refine Pure.ofA (qo5 p c f (fun h1 h2 l=>m ⟨l,h1,h2⟩) r [] []) ?_;rintro v σ' ⟨_,⟨a,rfl⟩|⟨a,w,b,B,ws,rfl,g,hd,z,C,y⟩⟩
 . have h1:QN p c r=([],[],(0,0),(QN p c r).2.2.2):=by
    unfold QN at a⊢;split
    . rfl
    split
    . rfl
    split
    . rfl
    split
    . rfl
    rename_i A F x G;rw[if_neg A,if_neg F,if_neg x,if_neg G]at a;exact absurd rfl a
   generalize (QN p c r).2.2.2=e at h1 a;rw[h1];exact Jk (by simp) (by rw[ql (by simp)];simp[Leq]) (by rw[ql (by simp)];simp[Leq,zl])
 have j:QN p c r=((QN p c r).1,(QN p c r).2.1,(QN p c r).2.2.1,0):=by rw[<- a]
 obtain⟨h1,h2,l⟩:=g.frz 6;have d:=qdd z C hd y 4;unfold qng;rw[a];exact Jk (by simp[qE,qr,jt]) ⟨h1,h2⟩ d
def JF(n:Int):List AV:=qo (z8 n)
def qws(H s n)(a:s.length<2^20):qm (Dof prog) ⟨H,jP [] s⟩ 23 (wN 4 JF 0 s) (.sl 4 [JF n] .tight)=some (wN 4 JF 0 (s++[n]),⟨H,jP [] (s++[n])⟩) :=
 yg (D:=Dof prog) (sz:=4) (T:=[]) (H:=H) (m:=[n]) (en:=JF) D23 rfl D61 rfl (by decide) rfl (by decide) (by simp;omega) 4 (.inl rfl)
def qpo(f N n):(qiI f N n).length<=2:=by
 unfold qiI;split
 . split<;>split<;>simp
 simp
def qbp(f N):∀k,(qdz f N k).length<=2*k
 |0=>by simp[qdz]
 | k+1=>by
  have:=qbp f N k;have:=qpo f N k;rw[WM,qBp];omega
def QY:∀l:List Rg,(zk l).map JF=(kv l).map qo
 |[]=>rfl
 | r::l=>by
  show JF r.1::JF r.2::(zk l).map JF=qo (z8 r.1)::qo (z8 r.2)::(kv l).map qo;rw[QY l];rfl
def quE(B:List Int){j}(h:32*j<B.length)(tok):∃a,zm (.sl 4 (B.map JF) tok) (some (.int .i64 ((32*j:Nat):Int))) (some (.int .i64 ((min (32*j+32) B.length:Nat):Int))) none=some (.sl 4 (((B.drop (32*j)).take 32).map JF) a):=by
 have e:((B.map JF).take (min (32*j+32) B.length)).drop (32*j)=((B.drop (32*j)).take 32).map JF:=by
  rw[<- List.map_take,<- qFo,qFi];congr 1;by_cases hb:32*j+32<=B.length
  . rw[qC9 hb];congr 1;omega
  rw[qEn (by omega),qBr (by simp),qBr (by simp;omega)]
 refine⟨zH B.length (32*j) (min (32*j+32) B.length) none tok,?_⟩;rw[<- e];simp only[zm,zM,vi,yp,qBT,qBU,Option.isSome_none];rw[if_pos]
 . simp
 refine⟨by omega,by omega,by omega,trivial⟩
def qkF(s)(a:List Rg)(tok):NearK 1 [.int .i64 23,.int .i64 0,.str [],.sl 4 (qdN s::(kv a).map qo) tok] (kA s a) :=
 qaZ (k:=0) (args:=wO s::kv a) fun H _ j _=>by
  have d:=qvf (kv a);have b:qM (qdN s::(kv a).map qo)=true:=by simp only[qM,qBq];exact⟨by simp[qr,qE],d⟩
  rw[kI b];refine⟨?_,b,?_⟩
  . rw[qBz];exact yQ (.inr ⟨qaC s,z0 _⟩) (WV _)
  simp only[qCH,qBq];refine⟨by simp[AV.atom],?_⟩;rw[qBx];intro x c;obtain⟨e,_,rfl⟩:=qBH.1 c;exact z0 e
def qAx(P:List AV)(D:List AV)(V:List AV)(f:Nat->Bool)(N k:Nat)(ev:Env)(σ:St):Prop :=
 ev 3=.ptr 1 0/\ev 4=.ptr 2 0/\ev 5=.ptr 3 0/\ev 6=wN 4 JF 0 (qdz f N k)/\ev 7=.int .i64 k/\σ=⟨[.cells P,.cells D,.cells [.int .i64 0,.int .i64 0,.str [],.sl 0 [] .nil],.cells V],jP [] (qdz f N k)⟩
def qel(p:Problem)(d:Dist)(v:Var)(i:Nat)(hi:d.var=i)(hv:p.vars[i]?=some v)(g2:p.vars.length<=1000)(f5:0<=v.width)(d9:v.width<=8)(hf:Fits d.weights)(f8:(jr (ZR v d.weights)).length<=112):
 Pure prog GG 103 [.agg (qw p),.agg (zu d)] (.agg (qo (vO p.vars d))):=by
 refine qFC o0 true func103 ?_;have D:=yo (w:=v.width) f5 (by omega);have g9:=YQ d9;rw[qb6]at f8;rw[show vO p.vars d=zT v.name (jr (ZR v d.weights)) by unfold vO;rw[hi,qBU,hv],qb6];have E:¬v.width<0:=by omega
 have g4:=(qBk.1 hv).1;have f7:zG v=2^v.width.toNat:=rfl;rw[<- f7]at D;have a8:=fun n:Int=>qes d.weights n hf
 have b9:=qhP;have hb:=qpn (fun n=>vX d.weights n) (zG v);have b2:∀n:Nat,vX d.weights (n:Int)=(fun n:Nat=>vX d.weights n) n:=fun n=>rfl
 have f3:=qbp (fun n=>vX d.weights n) (zG v);generalize hF:(fun n:Nat=>vX d.weights (n:Int))=f at *;generalize hN:zG v=N at *;generalize hU:zT v.name (kH f N)=U at *;have hE:=qd U;simp only[hE];simp[hi,hv,qu];obtain⟨P,hP⟩:∃P,P=qw p:=⟨_,rfl⟩;refine qFL (fun m ev σ=>∃k,m=N-k/\k<=N/\qAx P (zu d) (qu v) f N k ev σ) N ?_ ?_
 . refine⟨0,by omega,by omega,by simp,by simp,by simp,by simp[qdz],by simp,?_⟩;rw[hP];simp[qdz,qu,hi]
 rintro m ev σ R hR ⟨k,rfl,hk,r,z,s,u,g,rfl⟩;by_cases a1:k<N
 . have W:(k:Int)<N:=(by omega);have y:=wr (n:=(k:Int)+1);have b0:=wr (n:=(N:Int));have c4:=wr (n:=(k:Int)-1);have l:∀K T',K 3=.ptr 1 0->K 4=.ptr 2 0->K 5=.ptr 3 0->K 6=wN 4 JF 0 (qdz f N (k+1))->K 7=.int .i64 ((k:Int)+1)->T'=jP [] (qdz f N (k+1))->R K ⟨[.cells P,.cells (zu d),.cells [.int .i64 0,.int .i64 0,.str [],.sl 0 [] .nil],.cells (qu v)],T'⟩:=by
    rintro K T' a3 a4 a5 a6 a7 rfl;exact hR (N-(k+1)) _ _ (by omega) ⟨k+1,rfl,by omega,a3,a4,a5,a6,by rw[a7];simp,rfl⟩
   rw[WM]at l;have c6:=a8 k;have B:=a8 (k+1);have Y:=a8 (k-1);simp only[qu,zu,hi]at l c6 B Y⊢;simp[r,s,g,D,E,IntKind.bits,W];refine qFG (G:=qW GG) c6 ?_;rw[b2 k]
   cases hfk:f k with
   | false=>
    have a2:qiI f N k=[]:=(by unfold qiI;rw[hfk];rfl);rw[a2,qB4]at l;simp[unA,g,y];exact l _ _ (by simp[r]) (by simp[z]) (by simp[s]) (by simp[u]) (by simp) rfl
   | true=>
    have b8:k≠0->vX d.weights ((k:Int)-1)=f (k-1):=fun h=>by
     rw[show((k:Int)-1)=((k-1:Nat):Int) by omega];exact b2 _
    have O:vX d.weights ((k:Int)+1)=f (k+1):=b2 (k+1);have F:=b9 k;have hL:∀L:List Int,L.length<=1->(qdz f N k++L).length<2^20:=fun L hL=>by
     have:=qbp f N k;rw[qBp];omega
    have Q:=fun n:Int=>(show JF n=[.int .i64 1,.int .i64 n,.str [],.sl 4 [] .none] by simp[JF,z8,qd])
    have c5:=fun(L:List Int) (hl:L.length<=1)=>qws [.cells P,.cells [.int .i64 i,.sl 4 (d.weights.map qC) .none],.cells [.int .i64 0,.int .i64 0,.str [],.sl 0 [] .nil],.cells [.str v.name,.int .i64 v.width,.int .i64 v.mode,.int .i64 v.value]] (qdz f N k++L) k (hL L hl)
    have S:=c5 [] (by simp);have X:=c5 [(k:Int)] (by simp);rw[qB4]at S;rw[Q]at S X;change Pure _ _ _ _ (.agg (JF k)) at F;rw[Q]at F;have hA:k=0\/(k≠0/\f (k-1)=false)\/(k≠0/\f (k-1)=true):=by
     by_cases h:k=0
     . exact .inl h
     cases h2:f (k-1)
     . exact .inr (.inl ⟨h,rfl⟩)
     exact .inr (.inr ⟨h,rfl⟩)
    have A:k+1=N\/(k+1≠N/\f (k+1)=false)\/(k+1≠N/\f (k+1)=true):=by
     by_cases h:k+1=N
     . exact .inl h
     cases h2:f (k+1)
     . exact .inr (.inl ⟨h,rfl⟩)
     exact .inr (.inr ⟨h,rfl⟩)
    have a2:qiI f N k=(if k=0\/f (k-1)=false then [(k:Int)] else [])++(if k+1=N\/f (k+1)=false then [(k:Int)] else []):=by
     unfold qiI;rw[if_pos hfk]
    rw[a2]at l;rcases hA with I|⟨I,V⟩|⟨I,V⟩
    . rw[if_pos (.inl I)]at l;simp[unA,r,u,g];refine⟨fun h=>absurd I h,fun _=>?_⟩;refine qFG (G:=qW GG) F ?_ rfl;simp[s,g,qe,qp,S];rcases A with A|⟨J,x⟩|⟨J,x⟩
      . have o:(k:Int)+1=N:=(by omega);rw[if_pos (.inl A)]at l;simp[g,D,E,IntKind.bits,b0,o];refine qFG (G:=qW GG) F ?_ rfl;simp[g,y,qe,qp,X];exact l _ _ (by simp[r]) (by simp[z]) (by simp[s]) (by simp) (by simp[o]) (by simp)
      . have o:¬(k:Int)+1=N:=(by omega);rw[if_pos (.inr x)]at l;rw[O,x]at B;simp[r,g,D,E,IntKind.bits,y,o];refine qFG (G:=qW GG) B ?_;simp[unA,g,o];refine qFG (G:=qW GG) F ?_ rfl;simp[g,y,qe,qp,X];exact l _ _ (by simp[r]) (by simp[z]) (by simp[s]) (by simp) (by simp) (by simp)
      have o:¬(k:Int)+1=N:=(by omega);rw[if_neg (fun h=>by rcases h with h|h;exact J h;rw[x]at h;cases h)]at l;rw[O,x]at B;simp[r,g,D,E,IntKind.bits,y,o];refine qFG (G:=qW GG) B ?_;simp[unA,g,y,o];exact l _ _ (by simp[r]) (by simp[z]) (by simp[s]) (by simp[]) (by simp) (by simp)
    . have f6:¬(k:Int)=0:=(by omega);rw[if_pos (.inr V)]at l;rw[b8 I,V]at Y;simp[unA,r,u,g,I,c4];refine qFG (G:=qW GG) Y ?_;simp[unA,u,g];refine qFG (G:=qW GG) F ?_ rfl;simp[s,g,qe,qp,S];rcases A with A|⟨J,x⟩|⟨J,x⟩
      . have o:(k:Int)+1=N:=(by omega);rw[if_pos (.inl A)]at l;simp[g,D,E,IntKind.bits,b0,o];refine qFG (G:=qW GG) F ?_ rfl;simp[g,y,qe,qp,X];exact l _ _ (by simp[r]) (by simp[z]) (by simp[s]) (by simp) (by simp[o]) (by simp)
      . have o:¬(k:Int)+1=N:=(by omega);rw[if_pos (.inr x)]at l;rw[O,x]at B;simp[r,g,D,E,IntKind.bits,y,o];refine qFG (G:=qW GG) B ?_;simp[unA,g,o];refine qFG (G:=qW GG) F ?_ rfl;simp[g,y,qe,qp,X];exact l _ _ (by simp[r]) (by simp[z]) (by simp[s]) (by simp) (by simp) (by simp)
      have o:¬(k:Int)+1=N:=(by omega);rw[if_neg (fun h=>by rcases h with h|h;exact J h;rw[x]at h;cases h)]at l;rw[O,x]at B;simp[r,g,D,E,IntKind.bits,y,o];refine qFG (G:=qW GG) B ?_;simp[unA,g,y,o];exact l _ _ (by simp[r]) (by simp[z]) (by simp[s]) (by simp[]) (by simp) (by simp)
    have f6:¬(k:Int)=0:=(by omega);rw[if_neg (fun h=>by rcases h with h|h;exact I h;rw[V]at h;cases h)]at l;rw[b8 I,V]at Y;simp[unA,r,u,g,I,c4];refine qFG (G:=qW GG) Y ?_;simp[unA,s,g];rcases A with A|⟨J,x⟩|⟨J,x⟩
    . have o:(k:Int)+1=N:=(by omega);rw[if_pos (.inl A)]at l;simp[u,g,D,E,IntKind.bits,b0,o];refine qFG (G:=qW GG) F ?_ rfl;simp[g,y,qe,qp,S];exact l _ _ (by simp[r]) (by simp[z]) (by simp[s]) (by simp) (by simp[o]) (by simp)
    . have o:¬(k:Int)+1=N:=(by omega);rw[if_pos (.inr x)]at l;rw[O,x]at B;simp[r,u,g,D,E,IntKind.bits,y,o];refine qFG (G:=qW GG) B ?_;simp[unA,u,g,o];refine qFG (G:=qW GG) F ?_ rfl;simp[g,y,qe,qp,S];exact l _ _ (by simp[r]) (by simp[z]) (by simp[s]) (by simp) (by simp) (by simp)
    have o:¬(k:Int)+1=N:=(by omega);rw[if_neg (fun h=>by rcases h with h|h;exact J h;rw[x]at h;cases h)]at l;rw[O,x]at B;simp[r,u,g,D,E,IntKind.bits,y,o];refine qFG (G:=qW GG) B ?_;simp[unA,g,y,o];exact l _ _ (by simp[r]) (by simp[z]) (by simp[s]) (by simp[u]) (by simp) (by simp)
 have f2:k=N:=by omega
 subst f2;have W:¬(k:Int)<k:=by omega
 rw[hb]at u⊢;have f9:(kH f k).length<=k:=by
  have h1:=f3 k;rw[hb,yr]at h1;omega
 have b1:=b9 0;change Pure _ _ _ _ (.agg (JF 0)) at b1;have Q:=fun n:Int=>(show JF n=[.int .i64 1,.int .i64 n,.str [],.sl 4 [] .none] by simp[JF,z8,qd])
 rw[Q]at b1;simp only[qu,zu,hi];simp[s,g,D,E,IntKind.bits,W];refine qFG (G:=qW GG) b1 ?_ rfl;generalize kH f k=e at *;simp[qx];refine qFL (fun m ev σ=>∃(j:Nat) (c:List AV) (out:Ex) (t:List Blk) (T:List (Option Nat)),m=e.length-16*j/\16*j<e.length+16/\ev 4=.ptr 2 0/\ev 5=.ptr 3 0/\ev 6=wN 4 JF 0 (zk e)/\ev 8=.ptr 4 0/\ev 9=.int .i64 ((32*j:Nat):Int) /\
  σ=⟨.cells P::.cells [.int .i64 i,.sl 4 (d.weights.map qC) .none]::.cells [.int .i64 0,.int .i64 0,.str [],.sl 0 [] .nil]::.cells [.str v.name,.int .i64 v.width,.int .i64 v.mode,.int .i64 v.value]::.cells c::t,T⟩/\NearK j c out /\
  ((j=0/\out=z8 0)\/(0<j/\∃C,(e.drop (16*j)).length<=C/\U=yY v.name out (zR 16 C (e.drop (16*j)))))) e.length ?_ ?_
 . refine⟨0,_,z8 0,[],_,by omega,by omega,by simp[z],by simp[s],by simp[u],by simp,by simp,rfl,?_,.inl ⟨rfl,rfl⟩⟩;refine⟨rfl,rfl,fun H _ j _=>?_⟩;rw[Wo (by simp[qr,qE])];have:=qFO (JF 0);rw[Q]at this;refine⟨?_,by simp[qr,qE],rfl⟩;rw[show qo (z8 0)=JF 0 from rfl,Q];exact this
 rintro m ev σ R hR ⟨j,c,out,t,T,rfl,hj,z,s,u,Z,e9,rfl,a0,b4⟩;obtain⟨c0,c1,c2,c3,rfl⟩:∃c0 c1 c2 c3,c=[c0,c1,c2,c3]:=by
  have:=a0.len
  match c,this with
  |[c0,c1,c2,c3],_=>exact⟨c0,c1,c2,c3,rfl⟩
 have b5:=ZJ a0.atoms;have h3:=yr e;by_cases a1:16*j<e.length
 . have A:32*j<(zk e).length:=(by omega);have W:((32*j:Nat):Int)<((zk e).length:Nat):=(by omega);obtain⟨a,q,hq⟩:∃a q,zk e=a::q:=by
    cases h:zk e with
    |nil=>rw[h]at A;simp at A
    |cons a q=>exact⟨a,q,rfl⟩
   have f0:ev 6=.sl 4 ((zk e).map JF) (.chain 0 (zk e).length):=(by rw[u,hq];rfl);obtain⟨g1,c8⟩:=quE (zk e) A (.chain 0 (zk e).length);have d6:=V4 e j;rw[d6,QY ((e.drop (16*j)).take 16)]at c8;have f4:=wr (n:=((32*j:Nat):Int)+32);have d1:vR (.int .i64 (((32*j:Nat):Int)+32)) (.int .i64 ((zk e).length:Nat))=some (.int .i64 ((min (32*j+32) (zk e).length:Nat):Int)):=by
    simp only[vR];congr 2;split<;>omega
   have g7:((e.drop (16*j)).take 16).length<=16:=(by simp;omega);have d3:(e.drop (16*j)).take 16≠[]:=fun h=>by
    have:=congrArg List.length h;simp at this;omega
   generalize b6:(e.drop (16*j)).take 16=M at *;have g6:((kv M).map qo).length<=32:=(by rw[<- QY,qBT,yr];omega);have d4:(kv M).map qo≠[]:=fun h=>d3 (by
    have:=congrArg List.length h;rw[<- QY,qBT,yr]at this;refine qBy ?_;simp only[qCc]at this;omega)
   have h5:=WV ((kv M).map qo);generalize d0:(kv M).map qo=NN at *;generalize d5:(zk e).map JF=BB at *;generalize e2:(zk e).length=b at *;generalize g5:min (32*j+32) b=mm at *;have d7:1+NN.length<=549755813888:=(by omega);have f1:BB.length=b:=(by rw[<- d5,qBT,e2]);simp[-qL,-Int.natCast_mul,b5,s,f0,Z,e9,f1,W,f4,d1,c8,qV,zt,qx,qe,qp,qm,qR,d4,d7];have a9:=fun k' (h:k'≥1)=>(qkF v.name M (.chain T.length NN.length)).mono h
   rw[d0]at a9;have b7:(e.drop (16*(j+1)))=(e.drop (16*j)).drop 16:=(by rw[qDZ];congr 1);refine⟨fun h0=>?_,fun h0=>?_⟩
   . have c9:j=0:=(by omega);subst c9;refine hR (e.length-16*(0+1)) _ _ (by omega) ⟨1,_,kA v.name M,_,_,by omega,by omega,by simp[z],by simp[s],by simp[u],by simp[Z],by simp,rfl,a9 1 (by omega),.inr ⟨by omega,e.length,by simp,?_⟩⟩;have e1:e≠[]:=fun h=>by rw[h]at a1;simp at a1
     rw[<- hU];unfold zT;rw[if_neg e1,<- b6];rfl
   obtain⟨C,g0,e0⟩:∃C,(e.drop (16*j)).length<=C/\U=yY v.name out (zR 16 C (e.drop (16*j))):=by
    rcases b4 with⟨rfl,_⟩|⟨_,h⟩
    . omega
    exact h
   have d2:=qeC (tok:=.tight) a0 (a9 j (by omega));have c7:e.drop (16*j)≠[]:=fun h=>by
    have:=congrArg List.length h;simp at this;omega
   obtain⟨C,rfl⟩:∃k',C=k'+1:=⟨C-1,by
    have:=qBA.2 c7;omega⟩
   rw[zR,if_neg c7,b6]at e0;refine hR (e.length-16*(j+1)) _ _ (by omega) ⟨j+1,_,orE out (kA v.name M),_,_,rfl,by omega,by simp[z],by simp[s],by simp[u],by simp[Z],by simp;omega,rfl,d2,.inr ⟨by omega,C,?_,?_⟩⟩
   . rw[b7,qCj];omega
   rwa[b7]
 have d8:U=out:=by
  rcases b4 with⟨rfl,rfl⟩|⟨_,C,_,h⟩
  . have:e=[]:=qBy (by omega);rw[<- hU,this];rfl
  rw[show e.drop (16*j)=[] by simp;omega]at h
  rwa[show zR 16 C ([]:List Rg)=[] by cases C<;>simp[zR]]at h
 subst d8;obtain⟨g3,g8,h6⟩:∃sz tok,wN 4 JF 0 (zk e)=.sl sz ((zk e).map JF) tok:=by
  cases zk e with
  |nil=>exact⟨_,_,rfl⟩
  |cons a q=>exact⟨_,_,rfl⟩
 rw[h6]at u;simp[-qL,-fin,-kw,-w9,-Int.natCast_mul,b5,z,u,Z,e9,show ¬((32*j:Nat):Int)<((zk e).length:Nat) by omega];have h4:j<=7:=by
  rcases b4 with⟨rfl,_⟩|_<;>omega
 have:=a0.agg (n:=7) (by omega);rw[hE]at this;exact this _ trivial
def qwt(H s e)(a:s.length<2^30):qm (Dof prog) ⟨H,jP [] s⟩ 23 (wN 4 qo 0 s) (.sl 4 [qo e] .tight)=some (wN 4 qo 0 (s++[e]),⟨H,jP [] (s++[e])⟩) :=
 yg (D:=Dof prog) (sz:=4) (T:=[]) (H:=H) (m:=[e]) (en:=qo) D23 rfl D61 rfl (by decide) rfl (by decide) (by simp only[qBR];omega) 4 (.inl rfl)
def KR(p)(h:VQ p)(w:p.groups.flatten.length<4611686018427387904)(hd:p.dists.length<=10000)(B:∀d∈p.dists,∀v:Var,(jr (ZR v d.weights)).length<=112):Pure prog GG 61 [.agg (qw p)] (.sl 4 ((jB p).map qo) .none):=by
 refine qFD func61 ?_;have f:=QI p h w;simp only[qw]at f;by_cases a:qg p=0
 case neg=>
  have:jB p=[]:=if_neg a;rw[this];simp;refine qFG (G:=qW GG) f ?_;simp[a,Leq]
 have A:jB p=p.dists.map (vO p.vars):=if_pos a;rw[A];obtain⟨S,l⟩:∃S,S=p.dists.map (vO p.vars):=⟨_,rfl⟩;rw[<- l];simp;refine qFG (G:=qW GG) f ?_;simp[a];have y:=qd5 a;refine qFK p.dists (fun d ev σ=>ev 1=.ptr 0 0/\ev 3=wN 4 qo 0 (d.map (vO p.vars))/\ev 4=.int .i64 d.length/\σ=⟨[.cells (qw p)],jP [] (d.map (vO p.vars))⟩) ?_ ?_ ?_
 . simp
 . rintro d x rest ev σ F j t ⟨b,e,c,rfl⟩;have s:=wr (n:=(d.length:Int)+1);have g:=qBl j;obtain⟨i,v,hi,o⟩:=y x g;have C:=zb (zJ a v (qBl o));have r:=qel p x v i hi o h.vars (by omega) (by omega) (h.weights x g) (B x g v);have E:(d.map (vO p.vars)).length=d.length:=(by simp);rw[show(d++[x]).map (vO p.vars)=d.map (vO p.vars)++[vO p.vars x] by simp];generalize vO p.vars x=X at *;generalize d.map (vO p.vars)=D at *;have u:=jq X;have z:=zg X;have m:=qwt [.cells (qw p)] D X (by omega);simp only[qw]at r m;simp[-getElem?_pos,-qL,b,e,c,t,j];refine qFG (G:=qW GG) r ?_;simp[-qL,u,z,b,c,s,qe,qp,m]
 rintro ev σ ⟨b,e,c,rfl⟩;rw[<- l]at e⊢;simp[-fin,-kw,-w9,b,e,c]
def qhR(op:Int)(x y:Nat)(t:x<65536)(u:y<65536):Pure prog GG 354 [.int .i64 op,.int .i64 x,.int .i64 y] (.int .i64 (jW op x y)):=by
 refine qF6 func354 ?_;by_cases b:op=7
 . subst b;simp;refine qFQ (qkc x y) ?_ rfl;simp[jW]
 by_cases g:op=8
 . subst g;simp;refine qFQ (qrF x y) ?_ rfl;simp[jW]
 by_cases f:op=9
 . subst f;simp;refine qFQ (qrK x y) ?_ rfl;simp[jW]
 by_cases m:op=10
 . subst m;have hb:jW 10 x y=((x &&& y:Nat):Int):=(by simp[jW]);rw[hb];simp;refine qFQ (qrS x y t u) ?_ rfl;simp
 by_cases l:op=11
 . subst l;have hb:jW 11 x y=((x ||| y:Nat):Int):=(by simp[jW]);rw[hb];simp;refine qFQ (quP x y t u) ?_ rfl;simp
 by_cases s:op=12
 . subst s;have hb:jW 12 x y=((x ^^^ y:Nat):Int):=(by simp[jW]);rw[hb];simp;refine qFQ (qrE x y t u) ?_ rfl;simp
 by_cases d:op=13
 . subst d;simp;refine qFQ (qrH x y) ?_ rfl;simp[jW,qtJ]
 by_cases o:op=14
 . subst o;simp;refine qFQ (qjX x y) ?_ rfl;simp[jW,qpS]
 by_cases e:op=15
 . subst e;simp;refine qFQ (ya _) ?_ rfl
   try simp only[qfb]
   by_cases h:x=y<;>simp[jW,h]
 by_cases j:op=16
 . subst j;simp;refine qFQ (ya _) ?_ rfl
   try simp only[QC]
   by_cases h:x=y<;>simp[jW,h]
 by_cases a:op=17
 . subst a;simp;refine qFQ (ya _) ?_ rfl;by_cases h:x<y<;>simp[jW,h]
 by_cases r:op=18
 . subst r;simp;refine qFQ (ya _) ?_ rfl;by_cases h:x<=y<;>simp[jW,h]
 by_cases c:op=19
 . subst c;by_cases h:x=0
   . simp[h];refine qFQ (ya _) ?_ rfl;simp[jW]
   simp[h];refine qFQ (ya _) ?_ rfl
   (try simp only[QC]);by_cases h':y=0<;>simp[jW,h,h']
 by_cases i:op=20
 . subst i;by_cases h:x=0
   . simp[h];refine qFQ (ya _) ?_ rfl
     (try simp only[QC]);by_cases h':y=0<;>simp[jW,h']
   simp[h];refine qFQ (ya _) ?_ rfl;simp[jW,h]
 rw[show jW op x y=b2i (decide ((x:Int)=0)||!decide ((y:Int)=0)) by simp[jW,b,g,f,m,l,s,d,o,e,j,a,r,c,i]];by_cases h:x=0
 . simp[b,g,f,m,l,s,d,o,e,j,a,r,c,i,h];refine qFQ (ya _) ?_ rfl;simp
 simp[b,g,f,m,l,s,d,o,e,j,a,r,c,i,h];refine qFQ (ya _) ?_ rfl
 try simp only[QC]
 by_cases h':y=0<;>simp[h']
def qmn{α:Type}{p:α->Bool}{l:List α}{i:Nat}(hi:l.length<=i)(h:∀a∈l.take i,p a=true):l.all p=true:=by
 rw[qBr hi]at h;exact qBx.2 h
def qff(op:Int):Bool:=decide (op=1)||jn op
def qnC(op):Pure prog GG 334 [.int .i64 op] (.bool (qff op)):=by
 refine qF6 func334 ?_;by_cases h:op=1
 . subst h;simp[qff]
 simp[h];refine qFQ (qgk op) ?_ rfl;simp[qff,h]
def qmb{env e}:qiM env e=if e.op=2 then(ji env e.name).isSome else if e.op=3\/e.op=24 then(ji env (zX e.name 0)).isSome else true:=rfl
def qnx(env)(b:Fits env)(e ops)(a:e.op=3\/e.op=24->e.name.length<=1000)(f:e.op=3->ops≠[])(g:qff e.op=true):
 Pure prog GG 335 [.agg (qo e),.sl 2 (env.map qN) .none,.sl 1 (ops.map qf) .none] (.tup [.int .i64 (if qiM env e=true then wH env e.op e.n e.name ops else 0),.int .i64 (if qiM env e=true then 0 else 7)]):=by
 refine qF6 func335 ?_;rw[qmb];unfold wH;by_cases c1:e.op=1
 . simp only[qd e];simp[c1]
 by_cases c2:e.op=2
 . simp only[qd e];simp[c2];refine qFQ (qaI env e.name b) ?_;cases hf:ji env e.name<;>simp[Zh,hf]
 have d:e.op=3\/e.op=24:=by
  simp only[qff,jn,qDo,decide_eq_true_eq]at g;omega
 have a:=a d;simp only[qd e];simp[c1,c2];refine qFQ (qfT e.name 0 (by omega) a) ?_ rfl
 try simp
 refine qFQ (qaI env (zX e.name 0) b) ?_;cases hf:(ji env (zX e.name 0)).isSome
 . simp[Zh,hf];exact⟨fun c o=>absurd d (by omega),fun c=>by omega⟩
 by_cases c3:e.op=3
 . obtain⟨v,r,rfl⟩:∃v r,ops=v::r:=by
    cases ops with
    |nil=>exact absurd rfl (f c3)
    |cons v r=>exact⟨v,r,rfl⟩
   simp[*,Zh];refine qFQ (KO env e.name v b a) ?_;simp
 have j:e.op=24:=by omega
 simp[*,Zh];refine qF3 (fun n ev σ=>∃i:Nat,i<=8/\n=8-i/\ev 1=.sl 2 (env.map qN) .none/\ev 3=.ptr 0 0/\ev 12=.int .i64 (qmy env e.name i)/\ev 13=.int .i64 i/\σ=⟨[.cells (qo e)],[]⟩) 8 ⟨0,by simp[qmy,qd e,j]⟩ ?_;rintro n ev σ ⟨i,hi,rfl,h1,c,t,m,rfl⟩;by_cases u:i<8
 . have s:(i:Int)<8:=(by omega);simp[*,qd e];refine qFQ (KO env e.name i b a) ?_
   try simp[*]
   refine qFQ (qkc _ _) ?_ rfl;simp[qd e];exact⟨_,by omega,i+1,by omega,rfl,rfl,wr⟩
 have l:i=8:=by omega
 subst l;simp[*];intro h;rw[h]at hf;cases hf
def qem(op l)(g:∀v∈l,0<=v/\v<=65535)(t:op=22->l.length=3)(w:op=23->3<=l.length/\l.length<=33)(z:op≠22->op≠23->l.length=1\/l.length=2):
 Pure prog GG 336 [.int .i64 op,.sl 1 (l.map qf) .none] (.int .i64 (opW op l)):=by
 refine qF6 func336 ?_;by_cases f:op=22
 . obtain⟨a,b,c,rfl⟩:=qvr (t f);subst f;by_cases m:a=0
   . simp[m,qga]
   simp[m,qga]
 by_cases e:op=23
 . obtain⟨I,R⟩:=w e;subst e;obtain⟨a,j⟩:∃a,l[0]?=some a:=⟨_,qBm (by omega)⟩;obtain⟨G,F⟩:=qBk.1 j;have u:opW 23 l=b2i (jj a (l.drop 1)):=by
    rw[qp6,qBw,j];simp
   rw[u];generalize C:jj a (l.drop 1)=T;simp;refine qF3 (fun n env σ=>∃i:Nat,1<=i/\i<=l.length+1/\n=l.length+1-i/\env 1=.sl 1 (l.map qf) .none/\env 5=.int .i64 i/\σ=⟨[],[]⟩/\jj a (l.drop i)=T) l.length ⟨1,by simp,by omega,by omega,by simp,by simp,rfl,C⟩ ?_;rintro n env σ ⟨i,O,L,rfl,h1,D,rfl,d⟩;have S:IntKind.i64.wrap ((i:Int)+1)=(i:Int)+1:=wr;have Q:IntKind.i64.wrap ((i:Int)+2)=((i+2:Nat):Int):=(by rw[wr];omega);have n1:((i:Int)+1).toNat=i+1:=(by omega);have p1:(0:Int)<=(i:Int)+1:=(by omega);by_cases P:i+1<l.length
   . obtain⟨x,r⟩:∃x,l[i]?=some x:=⟨_,qBm (by omega)⟩;obtain⟨y,o⟩:∃y,l[i+1]?=some y:=⟨_,qBm (by omega)⟩;obtain⟨K,N⟩:=qBk.1 r;obtain⟨J,E⟩:=qBk.1 o;rw[zn r,zn o,Yl]at d;have B:(i:Int)+1<l.length:=(by omega);by_cases c1:x<=a
     . by_cases c2:a<=y
       . have s:T=true:=(by rw[<- d];simp[*]);rw[s];simp[*,p1,b2i]
       . have d:jj a (l.drop (i+2))=T:=(by rw[<- d];simp[*]);simp[*,p1];exact⟨_,by omega,i+2,by omega,by omega,rfl,by omega,d⟩
     have d:jj a (l.drop (i+2))=T:=(by rw[<- d];simp[c1]);simp[*];exact⟨_,by omega,i+2,by omega,by omega,rfl,by omega,d⟩
   have B:¬(i:Int)+1<l.length:=(by omega);rw[show T=false by rw[<- d];exact Jg (by simp;omega)];simp[*,b2i]
 rcases z f e with h|h
 . obtain⟨a,rfl⟩:=qst h;rw[qvc f e];simp[*];refine qFQ (qjW op a) ?_ rfl;simp
 obtain⟨a,b,rfl⟩:=qvs h;obtain⟨A,M⟩:=g a (by simp);obtain⟨b0,b1⟩:=g b (by simp);obtain⟨x,rfl⟩:=qBG A;obtain⟨y,rfl⟩:=qBG b0;rw[qvb f e];simp[*];refine qFQ (qhR op x y (by omega) (by omega)) ?_ rfl;simp
def qre(env:List Signal)(e:Ex):AV:=.tup [.int .i64 (if jC env e=true then yi env e else 0),.int .i64 (if jC env e=true then 0 else 7)]
def qjV(env)(D:Fits env):∀e,Wen e->ki e->Pure prog GG 311 [.agg (qo e),.sl 2 (env.map qN) .none] (qre env e):=by
 refine qF4 fun e ih y d=>?_
 refine qF6 func311 ?_;have O:=y.fits;have u:∀v∈e.args.map (yi env),0<=v/\v<=65535:=by
  intro v f;obtain⟨a,A,rfl⟩:=qBH.1 f;exact Vi env a (d.arg A)
 obtain⟨k1,Q,k3,k4,G,P,J,M⟩:=jm d.self;simp only[qd e];simp;refine qF3 (fun n ev σ=>∃i,i<=e.args.length/\n=e.args.length-i/\ev 1=.sl 2 (env.map qN) .none/\ev 2=.ptr 0 0/\ev 6=qaO ((e.args.map (yi env)).take i)/\ev 7=.int .i64 i/\σ=⟨[.cells (qo e)],qcC ((e.args.map (yi env)).take i)⟩/\∀a∈e.args.take i,jC env a=true) e.args.length ⟨0,by simp,by simp,by simp,by simp,by simp[qaO],by simp,by simp[qd e,qcC],by simp⟩ ?_;rintro n ev σ ⟨i,hi,rfl,h1,h2,h,L,rfl,o⟩
 cases f:e.args[i]? with
 | some a=>
  obtain⟨N,S⟩:=qBk.1 f;have l:=qBl f;have j:(e.args.map (yi env)).take (i+1)=(e.args.map (yi env)).take i++[yi env a]:=by
   rw[qBQ,qBO,f];rfl
  have w:((e.args.map (yi env)).take i).length<=e.args.length:=by simp;omega
  generalize z:(e.args.map (yi env)).take i=R at h j w⊢;have ih:=ih a l (y.arg l) (d.arg l);simp[*,qd e,qd a];rw[<- qd a];refine qFQ ih ?_;cases hk:jC env a
  . have x:jC env e=false:=by
     rw[qcY,qfk l hk,qDz]
    simp[qre,hk,x]
  have t:=zf (p:=fun a=>jC env a=true) f o hk
  cases R with
  | nil=>
   simp only[qaO]at h;simp[*,qre,qaO,qcC,qm,qR];exact⟨_,by omega,i+1,by omega,rfl,by rw[j];simp[],wr,by rw[j];simp[],t⟩
  | cons b r=>
   simp only[qaO]at h;simp[*,qre,qaO,qcC,qm,qR,show r.length<=549755813886 by have:=qme d;simp at w;omega];exact⟨_,by omega,i+1,by omega,rfl,by rw[j];simp[],wr,by rw[j];simp[],t⟩
 | none=>
  have B:e.args.length<=i:=by simpa using f
  rw[qBr (by simp;omega)]at h⊢;have F:jC env e=qiM env e:=by rw[qcY,qmn B o,qCR]
  unfold qre;rw[F,yM];have m:=qnx env D e (e.args.map (yi env));generalize z:e.args.map (yi env)=R at h u m⊢;have g:R.length=e.args.length:=by rw[<- z];simp
  simp[*,show ¬i<e.args.length by omega,qd e];refine qFQ (qnC e.op) ?_ rfl;cases hask:qff e.op
  . have C:e.op≠1/\e.op≠2/\e.op≠3/\e.op≠24:=by
     simp only[qff,jn,qD3,decide_eq_false_iff_not]at hask;omega
    obtain⟨c1,c2,c3,s⟩:=C;rw[show qiM env e=true by rw[qmb,if_neg c2,if_neg (by omega)],show wH env e.op e.n e.name R=opW e.op R by unfold wH;rw[if_neg c1,if_neg c2,if_neg c3,if_neg s]];simp[*];refine qb.outN2 (by simp) (qem e.op R u (fun c=>?_) (fun c=>?_) (fun I E=>?_)) ?_
    . rw[g];exact qbu d (n:=3) (by omega) (by rw[c];decide)
    . rw[g];have:=Zz G c;omega
    . rw[g];exact qkt d c1 c2 c3 s I E
    simp
  have m:=m (fun c=>by have:=wD (J c);omega) (fun c K=>by
   have:=qbu d (n:=1) (by omega) (by rw[c];decide);rw[K]at g;simp at g;omega) hask
  simp[*,qd e];rw[<- qd e];refine qb.outN3 (by simp) (by simp) m ?_;simp
def qj3(env)(j:Fits env)(e)(b:Wen e)(l:hgt e<=1000)(h:(pre e).length<=100000):Pure prog GG 264 [.agg (qo e),.sl 2 (env.map qN) .none] (.tup [.int .i64 (evalV env e),.int .i64 (Jm env e)]):=by
 refine qF6 func264 ?_;have g:=qjl e b l h;have f:Jm env e=if zr e≠0 then 1 else if jC env e=true then 0 else 7:=rfl
 have d:evalV env e=if zr e=0/\jC env e=true then yi env e else 0:=rfl
 simp only[qd e];simp;rw[<- qd e];refine qFQ g ?_;by_cases h0:zr e=0
 . have i:=Qa h0;have c:=qjV env j e b i;have a:qre env e=.tup [.int .i64 (evalV env e),.int .i64 (Jm env e)]:=by
    rw[f,d];unfold qre;simp[h0]
   rw[a]at c;simp[h0,qd e];rw[<- qd e];refine qFQ c ?_;simp
 have a:Jm env e=1:=by rw[f];simp[h0]
 rw[a,show evalV env e=0 by rw[d];simp[h0]];simp[h0]
def qmC{α:Type}(sz:Nat)(en:α->List AV)(s:List α):AV:=match s with
 |[]=>.sl 0 [] .nil
 |a::r=>.sl sz ((a::r).map en) (.chain 0 (r.length+1))
def qn7{α:Type}(s:List α):List (Option Nat):=match s with
 |[]=>[]
 |_::r=>[some (r.length+1)]
def qn8{α:Type}{sz}{en:α->List AV}(s:List α)(H)(b:∀x,qr (en x)=true):qE (fin H (qmC sz en s))=true/\Leq (fin H (qmC sz en s)) (.sl sz (s.map en) .none):=by
 cases s with
 |nil=>simp[qmC,Leq]
 | cons a r=>
  have h:=zj b (a::r);refine⟨?_,Leq.sl rfl⟩;simpa[qmC] using h
def qpW(p a)(u:p.vars.length<=1000)(t:Fits a):Pure prog GG 197 [.agg (qw p),.sl 1 (a.map qf) .none] (.sl 2 ((ke p.vars a).map qN) .none):=by
 refine qF6 func197 ?_;by_cases g:a.length=p.vars.length
 . rw[JV,if_pos g];have y:=ko g;simp[g];refine qF3 (fun n ev σ=>∃i,i<=p.vars.length/\n=p.vars.length-i/\ev 1=.sl 1 (a.map qf) .none/\ev 2=.ptr 0 0/\ev 5=qmC 2 qN ((vU p.vars a).take i)/\ev 6=.int .i64 i/\σ=⟨[.cells (qw p)],qn7 ((vU p.vars a).take i)⟩) p.vars.length ⟨0,by simp,by simp,by simp,by simp,by simp[qmC],by simp,by simp[qn7]⟩ ?_;rintro n ev σ ⟨i,hi,rfl,h1,h2,c,h,rfl⟩
   cases hv:p.vars[i]? with
   | some v=>
    obtain⟨f,o⟩:=qBk.1 hv;have d:i<a.length:=(by omega);obtain⟨x,l⟩:∃x,a[i]?=some x:=⟨_,qBm d⟩;have m:=(qBk.1 l).2;have e:(vU p.vars a).take (i+1)=(vU p.vars a).take i++[⟨v.name,x⟩]:=by
     rw[qBQ,Q6 hv l];rfl
    have j:((vU p.vars a).take i).length<=1000:=(by simp;omega);generalize w:(vU p.vars a).take i=R at c e j⊢
    cases R with
    | nil=>
     simp only[qmC]at c;simp[h1,c,h2,h,f,d,o,m,qn7,qV,zt,qx,qm,qe,qp,qR,zC];exact⟨_,by omega,i+1,by omega,rfl,by rw[e];simp[qmC],wr,by rw[e];simp⟩
    | cons b r=>
     simp only[qmC]at c;simp[h1,c,h2,h,f,d,o,m,qn7,qV,zt,qx,qm,qe,qp,qR,zC,show r.length<=549755813886 by simp at j;omega];exact⟨_,by omega,i+1,by omega,rfl,by rw[e];simp[qmC],wr,by rw[e];simp⟩
   | none=>
    have f:¬i<p.vars.length:=(by simp at hv;omega);have d:¬i<a.length:=(by omega);rw[qBr (by omega)]at c⊢;have s:=qn8 (sz:=2) (en:=qN) (vU p.vars a) [.cells (qw p)] (fun x=>by simp);simp[h1,c,h2,h,f,d];exact s
 rw[JV,if_neg g];simp[show ¬(a.length:Int)=p.vars.length by omega,Leq]
def qjU(env)(d:Fits env)(e)(a:Wen e)(f:hgt e<=1000)(b:(pre e).length<=100000):Pure prog GG 198 [.agg (qo e),.sl 2 (env.map qN) .none] (.int .i64 (evalV env e)):=by
 refine qFD func198 ?_;have c:=qj3 env d e a f b;simp[qd e];rw[<- qd e];refine qFG c ?_;simp
def qaA(p a l)(B:p.vars.length<=1000)(A:Fits a)(t:Fits l)(b:∀e∈l,Wen e/\hgt e<=1000/\(pre e).length<=100000):
 Pure prog GG 148 [.agg (qw p),.sl 1 (a.map qf) .none,.sl 4 (l.map qo) .none] (.bool (yX p.vars l a)):=by
 refine qFD func148 ?_;have s:=qpW p a B A;have w:Fits (ke p.vars a):=by have:=qgQ (l:=p.vars) (a:=a);show(ke p.vars a).length<_;omega
 have y:yX p.vars l a=l.all fun e=>decide (evalV (ke p.vars a) e≠0):=rfl
 rw[y];obtain⟨r,h⟩:∃r,r=l.all fun e=>decide (evalV (ke p.vars a) e≠0):=⟨_,rfl⟩
 rw[<- h];generalize ke p.vars a=V at *;simp only[qw]at s;simp;refine qFG s ?_;simp;refine qFK l (fun d ev σ=>ev 2=.sl 4 (l.map qo) .none/\ev 7=.sl 2 (V.map qN) .none/\ev 8=.int .i64 d.length/\∀e∈d,evalV V e≠0) ?_ ?_ ?_
 . simp
 . rintro d e rest ev σ hd m z ⟨c,j,g,i⟩;have o:=qBl m;obtain⟨E,C,F⟩:=b e o;have v:=wr (n:=(d.length:Int)+1) (by unfold Fits at t;omega) (by unfold Fits at t;omega);have D:=qjU V w e E C F;simp[-getElem?_pos,c,j,g,z,m,qd e];rw[<- qd e];refine qFG D ?_;by_cases f:evalV V e=0
   . have:r=false:=by rw[h,qEl];exact⟨e,o,by simp[f]⟩
     simp[f,this]
   simp[f,c,j,g,v];intro x b;rcases b with b|rfl
   . exact i x b
   exact f
 rintro ev σ ⟨c,j,g,i⟩;have:r=true:=by rw[h,qBx];exact fun e u=>by simpa using i e u
 simp[c,g,this]
def qqP(A:Nat)(vs:List Var)(a:List Int)(H:List Blk)(r:AV)(σ':St):Prop :=
 r=.bool (!(qJ vs a).2)/\KpL [A] H σ'.H/\(a≠[]->σ'.H[A]?=some (.cells (zc (qJ vs a).1)))
def qwz(A P:Nat)(p:Problem)(a:List Int)(H:List Blk)(T:List (Option Nat))(m:Nat)(ev:Env)(σ:St):Prop :=
 ev 1=.ms A 0 a.length 1/\ev 2=.ptr P 0/\ev 5=.int .i64 ((m:Int)-1)/\m<=a.length/\(qJ (p.vars.drop m) (a.drop m)).2=true/\∃H',σ=⟨H',T⟩/\KpL [A] H H'/\H'[P]?=some (.cells (qw p))/\H'[A]?=some (.cells (zc (a.take m++(qJ (p.vars.drop m) (a.drop m)).1)))
def qnu{A t p a H}(T)(hA:a≠[]->H[A]?=some (.cells (zc a)))(d:a.length=p.vars.length)(a8:a.length<=1000)(a6:okA p.vars a)(hw:∀v∈p.vars,0<=v.width/\v.width<=28):
 qh prog GG 149 [.agg (qw p),Jy A t a] ⟨H,T⟩ (qqP A p.vars a H):=by
 refine qFF func149 ?_;by_cases F:a=[]
 . subst F;have f:=qBy d.symm;have hq:∀u,qqP A p.vars [] H (.bool false) ⟨H++u,T⟩:=fun u=>⟨by rw[show qJ p.vars []=([],true) by rw[f];rfl];rfl,qGe,fun h=>absurd rfl h⟩
   simp[Jy];refine qFL (fun m ev σ=>ev 5=.int .i64 (-1)/\∃u,σ=⟨H++u,T⟩) 0 ⟨by simp;decide,_,rfl⟩ ?_;rintro m ev σ R L ⟨B,u,rfl⟩;simp[B];exact hq u
 have W:=hA F;have b1:=(qBk.1 W).1;have a1:Jy A t a=.ms A 0 a.length 1:=if_neg F;rw[a1];simp;refine qFL (fun m ev σ=>qwz A H.length p a H T m ev σ) a.length ?_ ?_
 . refine⟨by simp,by simp,by simp;rw[wr],qBs _,?_,_,rfl,qGe,by simp,?_⟩
   . rw[d,qCw,<- d,qCw];rfl
   . rw[qCw,d,qCw,<- d,qCS];rw[show a++(qJ [] []).1=a by show a++[]=a;rw[qB4]];exact qa W _
 rintro m ev σ R L ⟨s,g,B,hm,K,H',rfl,o,i,e⟩;have Y:A≠H.length:=by omega
 simp only[qw]at i
 cases m with
 | zero=>
  simp only[qCG,List.take_zero,qBL]at K e;simp[B];exact⟨by rw[K];rfl,o,fun _=>e⟩
 | succ m=>
  have r:m<a.length:=by omega
  obtain⟨x,C⟩:∃x,a[m]?=some x:=⟨_,qBm r⟩;obtain⟨v,f⟩:∃v,p.vars[m]?=some v:=⟨_,qBm (by omega)⟩;have b:=qee d f C K;have a2:=YP d m;have Q:=hw v (qBl f);have D:=yo Q.1 Q.2;have I:ev 5=.int .i64 (m:Int):=by rw[B];congr 1;omega
  have G:=wr (n:=(m:Int)-1);have a5:v.mode≠0->0<=x/\x<(zG v:Nat):=fun c=>by
   have:=qgh a6 f C
   rwa[if_neg c]at this
  have b0:zG v<=2^28:=qBF (by omega) (by omega);have a4:(a.drop (m+1)).length=(p.vars.drop (m+1)).length:=by simp[d]
  have hS:(a.take m).length+((qJ (p.vars.drop (m+1)) (a.drop (m+1))).1.length+1)=a.length:=by
   rw[ZV a4];simp;omega
  rw[show a.take (m+1)=a.take m++[x] by rw[qBQ,C];rfl]at e;have a3:(a.take m).length=m:=by simp;omega
  generalize b2:(qJ (p.vars.drop (m+1)) (a.drop (m+1))).1=S at *;generalize U:a.take m=P at *;simp only[qBX,qDD]at e;have l:∀y,zc (P++y::S)=zc P++.int .i64 y::zc S:=fun y=>by simp[zc]
  have V:(zc P).length=m:=by rw[qO,a3]
  have hg:∀y,(zc P++AV.int .i64 y::zc S)[m]?=some (.int .i64 y):=fun y=>by
   rw[qBt (by omega),V,qCh];rfl
  have hd:∀y,(zc P++AV.int .i64 y::zc S).drop m=.int .i64 y::zc S:=fun y=>by
   rw[qCJ (by omega),qBZ (by omega)];rfl
  have M:∀y z,(zc P++AV.int .i64 y::zc S).set m (.int .i64 z)=zc P++.int .i64 z::zc S:=fun y z=>by
   rw[qCd _ _ (by omega),V,qCh];rfl
  have Z:∀y,(zc P++AV.int .i64 y::zc S).length=a.length:=fun y=>by
   rwa[qBp,qBB,qO,qO]
  rw[l]at e;have N:=(qBk.1 e).1;have J:∀y,(H'.set A y)[H.length]?=some (.cells (qw p)):=fun y=>by rwa[qBn Y]
  have E:∀y,(H'.set A y)[A]?=some y:=fun y=>qBo N
  have b4:m<p.vars.length:=by omega
  have a0:m+1<=a.length:=r;simp only[qw]at J;by_cases c:v.mode=0
  . rw[if_pos c]at b;simp[g,I,i,f,c,G];refine L m _ _ (by omega) ⟨by simp[s],by simp[g],by simp,by omega,by rw[b],H',rfl,o,i,?_⟩;rw[b];simp only[U];rwa[l]
  have a9:=a5 c;have X:=wr (n:=x+1);rw[if_neg c]at b;have O:¬v.width<0:=by omega
  have a7:zG v=2^v.width.toNat:=rfl;rw[<- a7]at D;by_cases w:x+1<(zG v:Nat)
  . rw[if_pos w]at b;have j:=a2 (by rw[b]);rw[b]at j;simp only at j;simp[s,g,I,i,f,c,G,e,hd,M,Z,X,J,E,D,r,a0,O,IntKind.bits,w];refine⟨by rw[j];rfl,o.trans (qGf (by simp)),fun _=>?_⟩;rw[j,l];exact E _
  rw[if_neg w]at b;simp[s,g,I,i,f,c,G,e,hd,M,Z,X,J,E,D,r,a0,O,IntKind.bits,w];refine L m _ _ (by omega) ⟨by simp[s],by simp[g],by simp,by omega,by rw[b],_,rfl,o.trans (qGf (by simp)),?_,?_⟩
  . rwa[qBn Y]
  rw[b];simp only[U];rw[l];exact qBo N
def qnr{A t a H}(c:a≠[]->H[A]?=some (.cells (zc a))):Leq (frz H 8 (Jy A t a)) (.sl 1 (a.map qf) .none):=by
 by_cases b:a=[]
 . subst b;show Leq (frz H 8 (.sl 1 [] (.chain t 0))) _;rw[show frz H 8 (.sl 1 [] (.chain t 0))=.sl 1 [] .none by rw[frz];simp[qE]];exact qFN _
 have e:Jy A t a=.ms A 0 a.length 1:=if_neg b;rw[e];have d:ja A 1 qf H (.ms A 0 a.length 1) a:=.inr ⟨b,rfl,by rw[c b,jD]⟩;exact d.frz (fun x=>by simp) (fun x=>by simp) (fun x=>by simp) 7
def qcr(p l)(C:p.vars.length<=1000)(G:yx p.vars=qZ p.vars)(O:∀v∈p.vars,0<=v.width/\v.width<=28)(N:Fits l)(K:∀e∈l,Wen e/\hgt e<=1000/\(pre e).length<=100000):
 Pure prog GG 102 [.agg (qw p),.sl 4 (l.map qo) .none] (.bool (jw p.vars l)):=by
 refine qFD func102 ?_;have I:=qj1 p C [.cells (qw p)] [];obtain⟨r,u⟩:∃r,r=jw p.vars l:=⟨_,rfl⟩;rw[<- u];simp only[qw]at I;simp;refine qFJ I ?_;rintro v ⟨L,J⟩ ⟨D,A,t,rfl,o⟩;rw[G]at o;simp only at D o;rw[G];have M:qZ p.vars≠[]->p.vars≠[]:=fun h e=>h (by rw[e];rfl)
 simp;refine qFL (fun n ev σ=>∃a,ev 1=.sl 4 (l.map qo) .none/\ev 2=.ptr 0 0/\ev 5=Jy A t a/\(∃H T',σ=⟨H,T'⟩/\H[0]?=some (.cells (qw p))/\(a≠[]->H[A]?=some (.cells (zc a))/\A≠0))/\okA p.vars a/\n=(wu p.vars a).length/\r=(wu p.vars a).any (yX p.vars l)) (wu p.vars (qZ p.vars)).length ?_ ?_
 . refine⟨qZ p.vars,by simp,by simp,by simp,⟨L,J,rfl,(D.2 0 _ (by simp) (by simp)),fun h=>?_⟩,Qn _,rfl,?_⟩
   . have:=o (M h);exact⟨this.1,by have:=this.2;simp at this;omega⟩
   . rw[u,yG];rfl
 rintro n ev σ R S ⟨a,w,j,g,⟨H,T',rfl,d,i⟩,f,rfl,m⟩;have s:=f.len;have b:=Qv f;have x:=qaA p a l C (by show a.length<_;omega) N K;have E:=qnu (A:=A) (t:=t) T' (fun h=>(i h).1) s (by omega) f O;simp only[qw]at x E d;simp[w,j,g,d];refine qFI x rfl ?_ ?_
 . simp only[qBz,qBS,zl,and_true];refine⟨?_,qnr fun h=>(i h).1,?_⟩
   . rw[ql (by simp)];exact qFN _
   rw[ql (by simp)];exact qFN _
 cases hsa:yX p.vars l a with
 | true=>
  have:r=true:=by rw[m,b,qDf,hsa];rfl
  simp[this]
 | false=>
  simp[j,g,d];refine qFJ E ?_;rintro V ⟨y,T⟩ ⟨rfl,F,B⟩;simp only at F B;have Q:a≠[]->y[0]?=some (.cells (qw p)):=fun h=>F.2 _ _ d (by simp;exact Ne.symm (i h).2)
  cases ho:(qJ p.vars a).2 with
  | true=>
   have:r=false:=by rw[m,b,ho];simp[hsa]
   simp[this]
  | false=>
   rw[ho,if_neg (by simp)]at b;have c:a≠[]:=fun e=>by
    have U:=qBy (by rw[<- s,e];rfl);rw[U,e]at ho;simp[qJ]at ho
   have z:=ZV (vs:=p.vars) (a:=a) s;have P:(qJ p.vars a).1≠[]:=fun e=>c (qBy (by rw[<- z,e];rfl))
   simp[g];refine S (wu p.vars (qJ p.vars a).1).length _ _ (by rw[b];simp) ⟨(qJ p.vars a).1,by simp[w],by simp[j],by simp[g,show Jy A t a=Jy A t (qJ p.vars a).1 by rw[Jy,Jy,if_neg c,if_neg P,z]],⟨y,T,rfl,Q c,fun _=>⟨B c,(i c).2⟩⟩,Z9 f,rfl,?_⟩;rw[m,b,qDf,hsa];rfl
def qmi{H T}(X Y f ty d)(b:d=4\/X=[])(sy)(a:sy=4\/Y=[])(j:X.length+Y.length<=549755813888):
 ∃ e c g h,qm (Dof prog) ⟨H,T⟩ 23 (.sl 4 [] .tight) (.sl d (X.map qo) f)=some (.sl 4 (X.map qo) e,⟨H,c⟩) /\
  qm (Dof prog) ⟨H,c⟩ 23 (.sl 4 (X.map qo) e) (.sl sy (Y.map qo) ty)=some (.sl 4 ((X++Y).map qo) g,⟨H,h⟩):=by
 have i:X.length<=549755813888:=by omega
 by_cases h1:X=[]
 . subst h1;by_cases h2:Y=[]
   . subst h2;exact⟨.tight,T,.tight,T,by simp[qm,qR],by simp[qm,qR]⟩
   have a:=a.resolve_right h2;subst a;exact⟨.tight,T,_,_,by simp[qm,qR],by simp[qm,qR,h2,show Y.length<=549755813888 by omega];exact⟨rfl,rfl⟩⟩
 have b:=b.resolve_right h1;subst b;refine⟨.chain T.length X.length,T++[some X.length],?_⟩;by_cases h2:Y=[]
 . subst h2;exact⟨_,_,by simp[*,qm,qR],by simp[qm,qR,i];exact⟨rfl,rfl⟩⟩
 have a:=a.resolve_right h2;subst a;exact⟨_,_,by simp[*,qm,qR],by simp[*,qm,qR];exact⟨rfl,rfl⟩⟩
def qtl{H T}(n l tok s)(a:s=1\/l=[])(d:l.length<=1000000):
 ∃c b,qm (Dof prog) ⟨H,T⟩ 36 (.sl 1 [[.int .i64 n]] .tight) (.sl s (l.map qf) tok)=some (.sl 1 ((n::l).map qf) c,⟨H,b⟩):=by
 by_cases h:l=[]
 . subst h;exact⟨.tight,T,by simp[qm,qR]⟩
 have a:=a.resolve_right h;subst a;exact⟨_,_,by simp[qm,qR,h,show 1+l.length<=549755813888 by omega];exact⟨rfl,rfl⟩⟩
def qsP(H k s l tok):qE (frz H (k+1) (.sl s (l.map qf) tok))=true/\((s=1\/l=[])->Leq (frz H (k+1) (.sl s (l.map qf) tok)) (.sl 1 (l.map qf) .none)):=by
 refine⟨?_,fun h=>qoK (fun x=>by simp) (fun x=>by simp) H k l tok h⟩;have a:qM (l.map qf)=true:=by simp
 by_cases h:qE (.sl s (l.map qf) tok)=true
 . rwa[ql h]
 rw[frz,if_neg h,if_pos,kI a]
 . simp only[qE,a];rfl
 rw[kI a,qBx];intro x b;obtain⟨e,_,rfl⟩:=qBH.1 b;simp[AV.atom]
def Zr{p}(c:qg p=0):yx p.vars=qZ p.vars:=by
 unfold yx qZ;apply qCy;intro v b;have h:=zJ c v b;unfold jS at h;split at h
 . cases h
 split at h
 . cases h
 rename_i h2;by_cases h0:v.mode=0
 . rw[if_pos h0]
 rw[if_neg h0];by_cases a:v.value=0
 . exact a
 exact absurd (Or.inr (Or.inr (Or.inr (Or.inr (Or.inr (Or.inr ⟨h0,a⟩)))))) h2
structure RfH(p):Prop where
 vq:VQ p
 flat:p.groups.flatten.length<4611686018427387904
 dists:p.dists.length<=10000
 soft:p.soft.length<=10000
 runs:∀d∈p.dists,∀v:Var,(jr (ZR v d.weights)).length<=112
def qjZ(p)(h:RfH p)(a:qg p=0)(l)(c:Fits l)(d:∀e∈l,wJ p.vars e=true/\ZK e):Pure prog GG 102 [.agg (qw p),.sl 4 (l.map qo) .none] (.bool (jw p.vars l)) :=
 qcr p l h.vq.vars (Zr a) (fun v f=>by have:=zb (zJ a v f);omega) c fun e b=>(d e b).2
def qnD(p)(h:RfH p):Pure prog GG 60 [.agg (qw p)] (.tup [.sl 1 ((yW p).1.map qf) .none,.int .i64 (yW p).2]):=by
 refine qFC o0 true func60 ?_;have z:=QI p h.vq h.flat;have J:=KR p h.vq h.flat h.dists h.runs;simp only[qw]at z J;simp;refine qFG (G:=qW GG) z ?_;by_cases f:qg p=0
 case neg=>
  have a:yW p=([],1):=if_neg f;rw[a];simp[f];rw[ql (by simp)];exact⟨by simp,by simp[Leq,zl]⟩
 have B:=Qp h.vq f;have h1:=h.vq.hard;have h2:(jB p).length<=10000:=by
  have:jB p=yJ p:=if_pos f;rw[this,yJ,qBT];exact h.dists
 have b0:(zw p).length<=20000:=by rw[zw,qBp];omega
 have M:=fun l (hl:l.length<40000) (U:∀e∈l,wJ p.vars e=true/\ZK e)=>qjZ p h f l (by show l.length<_;omega) U
 have a4:=M (zw p) (by omega) (fun e b=>B e (qB5 _ b));simp only[qw]at M a4;obtain⟨t1,T1,D,T2,m,c⟩:=qmi (H:=[.cells (qw p)]) (T:=[]) p.hard (jB p) .none .none 4 (.inl rfl) 4 (.inl rfl) (by omega);simp only[qw]at m c;have a5:p.hard++jB p=zw p:=rfl;rw[a5]at c;simp[*,qe,qp];refine qFG (G:=qW GG) J ?_;simp[c];refine qFH (G:=qW GG) a4 (by cases D<;>simp) (by cases D<;>simp[zl,Leq,qFP]) ?_;by_cases u:jw p.vars (zw p)=true
 case neg=>
  have a:yW p=([],11):=by unfold yW;rw[if_pos f,if_neg u]
  rw[a];simp[show jw p.vars (zw p)=false by simpa using u,unA];rw[ql (by simp)];exact⟨by simp,by simp[Leq,zl]⟩
 have a:yW p=((jY p.vars (zw p) (ZB p.soft)).reverse.map (·.1),0):=by unfold yW;rw[if_pos f,if_pos u]
 rw[a];dsimp only;obtain⟨j,a6⟩:∃j,j=(jY p.vars (zw p) (ZB p.soft)).reverse.map (·.1):=⟨_,rfl⟩;rw[<- a6];have b5:=h.soft;clear m c a5 J z;generalize zw p=N at *;generalize W:ZB p.soft=L at *;have b4:L.length=p.soft.length:=by rw[<- W,qaV]
 have b2:=wr (n:=(p.soft.length:Int)-1);simp[u,unA,b2];refine qFW L (fun d ev σ=>ev 1=.ptr 0 0/\ev 6=.int .i64 ((p.soft.length:Int)-1-d.length)/\∃R K tok s g T,(∀r,L=d++r->jY p.vars N L=K++jY p.vars R r)/\(∀e∈R,wJ p.vars e=true/\ZK e)/\R.length<=20000+d.length/\K.length<=d.length/\ev 4=.sl 4 (R.map qo) tok/\(s=1\/K=[])/\ev 5=.sl s ((K.reverse.map (·.1)).map qf) g/\σ=⟨[.cells (qw p)],T⟩) ?_ ?_ ?_
 . exact⟨by simp,by simp,N,[],D,0,.nil,T2,fun r a=>by rw[a];rfl,(fun e b=>B e (qB5 _ b)),by simpa using b0,by simp,by simp,.inr rfl,by simp⟩
 . rintro d x rest ev σ R0 hR b8 U b6 ⟨v,E,R,K,tok,s,g,T,O,F,a7,b1,S,o,i,rfl⟩;have a8:=qez (l:=p.soft) (k:=d.length) (q:=x) (by rwa[W]);obtain⟨n1,n2,n3⟩:=a8;have C:ev 6=.int .i64 ((p.soft.length-1-d.length:Nat):Int):=(by rw[E];congr 1;omega);have b7:=B x.2 (qCu _ (qBl n3));have A:∀e∈R++[x.2],wJ p.vars e=true/\ZK e:=fun e b=>by
    rcases qBC.1 b with b|b
    . exact F e b
    rw[qB0]at b;rwa[b]
   have a2:=M (R++[x.2]) (by rw[qBp,qBR];omega) A;obtain⟨q1,Q1,P,Q2,m,c⟩:=qmi (H:=[.cells (qw p)]) (T:=T) R [x.2] tok .tight 4 (.inl rfl) 4 (.inl rfl) (by simp;omega);obtain⟨q3,Q3,w⟩:=qtl (H:=[.cells (qw p)]) (T:=Q2) x.1 (K.reverse.map (·.1)) g s (by rcases o with h|h;exact .inl h;exact .inr (by rw[h];rfl)) (by simp;omega);simp only[qw,qBz,qBS,qf]at m c w;have ha:=jq x.2;have Y:=zg x.2;have V:=wr (n:=((p.soft.length-1-d.length:Nat):Int)-1);have a3:=n2;generalize hI:p.soft.length-1-d.length=I at *;have a9:(qo x.2).take 4=qo x.2:=qBr (by rw[Y];exact qBs _);obtain⟨KL,Q⟩:∃KL,KL=K.reverse.map (·.1):=⟨_,rfl⟩;rw[<- Q]at w i;obtain⟨t,y⟩:∃t,t=R++[x.2]:=⟨_,rfl⟩;rw[<- y]at c a2 A;simp[-qL,v,S,C,show(0:Int)<=((p.soft.length-1-d.length:Nat):Int) by omega,n3,a9,ha,Y,qe,qp,m,c];refine qFH (G:=qW GG) a2 (by cases P<;>simp) (by cases P<;>simp[zl,Leq,qFP]) ?_;have a1:∀r,L=(d++[x])++r->jY p.vars N L=K++jY p.vars R (x::r):=fun r a=>O (x::r) (by rw[a];simp)
   rw[a3]at w
   cases hso3:jw p.vars t with
   | true=>
    simp[-qL,i,C,V,qe,qp,w];refine hR _ _ ⟨by simp[v],by simp;omega,t,K++[x],P,1,q3,Q3,fun r a=>?_,A,by rw[y];simp;omega,by simp;omega,by simp,.inl rfl,?_,rfl⟩
    . rw[a1 r a,jY,<- y,if_pos hso3];simp
    simp[Q,a3]
   | false=>
    simp[-qL,C,V];refine hR _ _ ⟨by simp[v],by simp;omega,R,K,tok,s,g,Q2,fun r a=>?_,F,by simp;omega,by simp;omega,by simp[S],o,by simp[i,Q],rfl⟩;rw[a1 r a,jY,<- y,if_neg (by simp[hso3])]
 rintro ev σ ⟨v,E,R,K,tok,s,g,T,O,F,a7,b1,S,o,i,rfl⟩;have a0:K.reverse.map (·.1)=j:=by rw[show K=jY p.vars N L by rw[O [] (by simp)];simp[jY]];exact a6.symm
 have X:s=1\/j=[]:=by
  rcases o with h|h
  . exact .inl h
  right;rw[<- a0,h];rfl
 rw[a0]at i;simp[i,show ev 6=.int .i64 (-1) by rw[E,b4];congr 1;omega];have Z:=qsP [.cells [.sl 4 (p.vars.map qu) .none,.sl 4 (p.hard.map qo) .none,.sl 4 (p.soft.map qo) .none,.sl 2 (p.dists.map zu) .none,.sl 1 (p.groups.map qn) .none]] 6 s j g;refine vA Z.1 (Z.2 X) fun _=>?_
 rcases X with h|h
 . rw[h];simp[Leq,qFP]
 rw[h];simp[Leq]
def qhb(tok:Abs.Tok)(T:List (Option Nat)):Prop:=tok=.tight\/∃t k,tok=.chain t k/\T[t]?=some (some k)
def qeN{H T X Y tok ty sy}(b:qhb tok T)(a:sy=4\/Y=[])(c:X.length+Y.length<=549755813888):
 ∃d e,qm (Dof prog) ⟨H,T⟩ 23 (.sl 4 (X.map qo) tok) (.sl sy (Y.map qo) ty)=some (.sl 4 ((X++Y).map qo) d,⟨H,e⟩)/\qhb d e:=by
 by_cases h2:Y=[]
 . subst h2;exact⟨tok,T,by simp[qm,qR,show X.length<=549755813888 by omega],b⟩
 have a:=a.resolve_right h2;subst a;rcases b with rfl|⟨t,k,rfl,f⟩
 . exact⟨.chain T.length Y.length,T++[some Y.length],by simp[qm,qR,h2,c],.inr ⟨_,_,rfl,by simp⟩⟩
 have g:=(qBk.1 f).1;exact⟨.chain t (k+Y.length),T.set t (some (k+Y.length)),by simp[qm,qR,h2,c,f],.inr ⟨_,_,rfl,by simp[g]⟩⟩
def qsQ(H k)(l:List Ex)(tok):qE (frz H (k+1) (.sl 4 (l.map qo) tok))=true/\Leq (frz H (k+1) (.sl 4 (l.map qo) tok)) (.sl 4 (l.map qo) .none):=by
 refine⟨?_,qlb (fun x=>qiX x) (fun x=>z0 x) H k l tok⟩;have a:=qvf l;by_cases h:qE (.sl 4 (l.map qo) tok)=true
 . rwa[ql h]
 rw[frz,if_neg h,if_pos,kI a]
 . simp only[qE,a];rfl
 rw[kI a,qBx];intro x b;obtain⟨e,_,rfl⟩:=qBH.1 b;exact z0 e
def YV(p)(h:RfH p):Pure prog GG 28 [.agg (qw p)] (.tup [.sl 4 ((qt p).1.map qo) .none,.int .i64 (qt p).2]):=by
 have b:=qnD p h;refine qFC o0 true func28 ?_;by_cases c:(yW p).2=0
 case neg=>
  have J:=wT p;have O:(qt p).1=[]:=by
   unfold qt yW at *;split
   . rename_i t;split
     . rename_i z;rw[if_pos t,if_pos z]at c;exact absurd rfl c
     rfl
   rfl
  rw[O,J];simp only[qw]at b;simp;refine qFG (G:=qW GG) b ?_;simp[c];rw[ql (by simp)];exact⟨by simp,by simp[Leq,zl]⟩
 obtain⟨t,z,S,s⟩:=Qg c;rw[s,c]at b;rw[S];dsimp only;have b0:=qa6 p;have a1:=fun q (hq:q∈vS p)=>qeG hq
 generalize b1:vS p=g at *;have A:=KR p h.vq h.flat h.dists h.runs;have h1:=h.vq.hard;have h2:(jB p).length<=10000:=by
  have:jB p=yJ p:=if_pos t;rw[this,yJ,qBT];exact h.dists
 have a9:=h.soft;obtain⟨m,F⟩:∃m,m=zw p++g.map (·.2):=⟨_,rfl⟩;rw[<- F];obtain⟨a,l⟩:∃a,a=g.map (·.1):=⟨_,rfl⟩;rw[<- l]at b;have a3:a.length=g.length:=by rw[l,qBT]
 obtain⟨t1,K,C,P⟩:=qeN (H:=[.cells (qw p)]) (T:=[]) (X:=[]) (Y:=p.hard) (tok:=.tight) (ty:=.none) (sy:=4) (.inl rfl) (.inl rfl) (by simp;omega);obtain⟨V,T2,r,a2⟩:=qeN (H:=[.cells (qw p)]) (T:=K) (X:=p.hard) (Y:=jB p) (tok:=t1) (ty:=.none) (sy:=4) P (.inl rfl) (by omega);simp only[qw,qBS,qBL]at C r b A;have a4:p.hard++jB p=zw p:=rfl;rw[a4]at r;have a8:(zw p).length<=20000:=by rw[zw,qBp];omega
 generalize zw p=N at *;simp;refine qFG (G:=qW GG) b ?_;simp[qe,qp,C];refine qFG (G:=qW GG) A ?_;simp[r];refine qFW g (fun d ev σ=>ev 1=.ptr 0 0/\ev 4=.sl 1 (a.map qf) .none/\ev 7=.int .i64 d.length/\∃tok T,qhb tok T/\ev 6=.sl 4 ((N++d.map (·.2)).map qo) tok/\σ=⟨[.cells (qw p)],T⟩) ?_ ?_ ?_
 . exact⟨by simp,by simp,by simp,V,T2,a2,by simp⟩
 . rintro d q rest ev σ R hR a7 v a5 ⟨o,i,j,tok,T,x,e,rfl⟩;have I:=wr (n:=(d.length:Int)+1);have a0:d.length<a.length:=(by omega);obtain⟨k,s,D⟩:=a1 q (qBl v);have a6:=(qBk.1 D).1;have Q:a[d.length]?=some (k:Int):=(by rw[l,qBO,v];simp[s]);obtain⟨t3,L,f,U⟩:=qeN (H:=[.cells (qw p)]) (T:=T) (X:=N++d.map (·.2)) (Y:=[q.2]) (tok:=tok) (ty:=.tight) (sy:=4) x (.inl rfl) (by simp;omega);have Z:N++(d++[q]).map (·.2)=N++d.map (·.2)++[q.2]:=(by simp);rw[<- Z]at f;obtain⟨E,M⟩:∃E,E=N++d.map (·.2):=⟨_,rfl⟩;obtain⟨u,B⟩:∃u,u=N++(d++[q]).map (·.2):=⟨_,rfl⟩;rw[<- M]at f e;rw[<- B]at f;have ha:=jq q.2;have w:=zg q.2;have W:(qo q.2).take 4=qo q.2:=qBr (by rw[w];exact qBs _);simp only[qw,qBz,qBS]at f;simp[-getElem?_pos,-qL,o,i,e,j,a0,Q,D,W,ha,w,qe,qp,f,I];exact hR _ _ ⟨by simp[o],by simp[i],by simp,t3,L,U,by simp[B],rfl⟩
 rintro ev σ ⟨o,i,j,tok,T,x,e,rfl⟩;rw[<- F]at e;simp[i,e,j,a3];have y:=qsQ [.cells [.sl 4 (p.vars.map qu) .none,.sl 4 (p.hard.map qo) .none,.sl 4 (p.soft.map qo) .none,.sl 2 (p.dists.map zu) .none,.sl 1 (p.groups.map qn) .none]] 6 m tok;exact vA y.1 y.2 fun _=>by simp[Leq,qFP]
def qln(p)(j:p.vars.length<=1000):Pure prog GG 64 [.agg (qw p)] (.sl 1 ((p.vars.map Var.value).map qf) .none):=by
 refine qFD func64 ?_;obtain⟨S,e⟩:∃S,S=p.vars.map Var.value:=⟨_,rfl⟩;rw[<- e];simp[-getElem?_pos];refine qFK p.vars (fun d env σ=>env 1=.ptr 0 0/\env 3=wN 1 qf 0 (d.map Var.value)/\env 4=.int .i64 d.length/\σ=⟨[.cells (qw p)],jP [] (d.map Var.value)⟩) ?_ ?_ ?_
 . simp
 . rintro d v s env σ hd i g ⟨b,a,c,rfl⟩;have h:=wr (n:=(d.length:Int)+1);have f:=qqE [.cells (qw p)] (d.map Var.value) v.value (by simp;omega);simp only[qw]at f;simp[-getElem?_pos,b,a,c,g,i,qu,qe,qp,f,h]
 rintro env σ ⟨b,a,c,rfl⟩;rw[<- e]at a⊢;simp[-getElem?_pos,-fin,-kw,-w9,b,a,c]
noncomputable def qiU(p:Problem)(l:List Ex)(a:List Int):Bool:=l.all fun e=>decide (Jm (ke p.vars a) e=0)&&!decide (evalV (ke p.vars a) e=0)
def qcm(p l a)(A:p.vars.length<=1000)(y:Fits a)(C:Fits l)(v:∀e∈l,Wen e/\hgt e<=1000/\(pre e).length<=100000):
 Pure prog GG 265 [.agg (qw p),.sl 4 (l.map qo) .none,.sl 1 (a.map qf) .none] (.bool (qiU p l a)):=by
 refine qFD func265 ?_;obtain⟨r,g⟩:∃r,r=qiU p l a:=⟨_,rfl⟩;rw[<- g];have o:=qpW p a A y;simp only[qw]at o;have t:Fits (ke p.vars a):=by
  have:=qgQ (l:=p.vars) (a:=a);unfold Fits;omega
 simp;refine qFG (G:=qW GG) o ?_;simp;refine qFK l (fun d env σ=>env 1=.sl 4 (l.map qo) .none/\env 7=.sl 2 ((ke p.vars a).map qN) .none/\env 8=.int .i64 d.length/\σ=⟨[.cells (qw p)],[]⟩/\qiU p d a=true) ?_ ?_ ?_
 . simp[qiU]
 . rintro d e s env σ hd j x ⟨b,i,c,rfl,f⟩;have z:=wr (n:=(d.length:Int)+1);obtain⟨w,B,u⟩:=v e (qBl j);have m:=qj3 (ke p.vars a) t e w B u;rw[qd e]at m;have bad:(decide (Jm (ke p.vars a) e=0)&&!decide (evalV (ke p.vars a) e=0))=false->r=false:=fun h=>by
    rw[g,qCs];intro h2;unfold qiU at h2;have:=qBx.1 h2 e (qBl j);rw[h]at this;cases this
   simp[-getElem?_pos,b,i,c,x,j,qd e];refine qFG (G:=qW GG) m ?_;by_cases h1:Jm (ke p.vars a) e=0
   . by_cases h2:evalV (ke p.vars a) e=0
     . have hb:=bad (by simp[h2]);simp[h1,h2,hb]
     . simp[b,i,c,h1,h2,z];unfold qiU at f⊢;rw[qCU,f];simp[h1,h2]
   have hb:=bad (by simp[h1]);simp[h1,hb]
 rintro env σ ⟨b,i,c,rfl,f⟩;have:r=true:=by rw[g,f]
 simp[b,c,this]
def W8(vs:List Var)(a:List Int):List Int×Bool:=if(qJ vs a).2=true then([],false) else((qJ vs a).1,true)
def qAB(p:Problem)(a:List Int)(m:Nat)(ev:Env)(σ:St):Prop :=
 ev 2=.ptr 0 0/\ev 6=.ms 1 0 a.length 1/\ev 7=.int .i64 ((m:Int)-1)/\m<=a.length/\(qJ (p.vars.drop m) (a.drop m)).2=true/\∃T,σ=⟨[.cells (qw p),.cells (zc (a.take m++(qJ (p.vars.drop m) (a.drop m)).1))],T⟩
def qnv(p a)(d:a.length=p.vars.length)(a0:a.length<=1000)(X:okA p.vars a)(O:∀v∈p.vars,0<=v.width/\v.width<=28):
 Pure prog GG 266 [.agg (qw p),.sl 1 (a.map qf) .none] (.tup [.sl 1 ((W8 p.vars a).1.map qf) .none,.bool (W8 p.vars a).2]):=by
 refine qFC oM true func266 ?_;by_cases A:a=[]
 . subst A;have e:=qBy d.symm;rw[show W8 p.vars []=([],false) by rw[e];rfl];simp[oM,qY,zD,qP,Zl,qm,qR];refine qFL (fun m ev σ=>ev 7=.int .i64 (-1)) 0 (by simp;decide) ?_;rintro m ev σ R C i;simp[i];rw[ql (by simp)];exact⟨by simp,by simp[Leq,zl]⟩
 have a3:=qBA.2 A;simp[oM,qY,zD,qP,Zl,show ¬(a.length=0) by omega,show a.length<=549755813888 by omega,A];refine qFL (fun m ev σ=>qAB p a m ev σ) a.length ?_ ?_
 . refine⟨by simp,by simp,by simp;rw[wr],qBs _,?_,[],?_⟩
   . rw[d,qCw,<- d,qCw];rfl
   . rw[qCw,d,qCw,<- d,qCS];have U:a++(qJ [] []).1=a:=(by show a++[]=a;rw[qB4]);rw[U,jD,qCQ];simp
 rintro m ev σ R C ⟨g,j,i,hm,f,T,rfl⟩
 cases m with
 | zero=>
  simp only[qCG,qBL]at f;have Z:W8 p.vars a=([],false):=if_pos f;simp[i,Z];rw[ql (by simp)];exact⟨by simp,by simp[Leq,zl]⟩
 | succ m=>
  have l:m<a.length:=by omega
  obtain⟨x,r⟩:∃x,a[m]?=some x:=⟨_,qBm l⟩;obtain⟨v,e⟩:∃v,p.vars[m]?=some v:=⟨_,qBm (by omega)⟩;have b:=qee d e r f;have M:=YP d m;have F:=O v (qBl e);have u:=yo F.1 F.2;have t:ev 7=.int .i64 (m:Int):=by rw[i];congr 1;omega
  have B:=wr (n:=(m:Int)-1);have W:v.mode≠0->0<=x/\x<(zG v:Nat):=fun c=>by
   have:=qgh X e r
   rwa[if_neg c]at this
  have a2:zG v<=2^28:=qBF (by omega) (by omega);have Q:(a.drop (m+1)).length=(p.vars.drop (m+1)).length:=by simp[d]
  have hS:(a.take m).length+((qJ (p.vars.drop (m+1)) (a.drop (m+1))).1.length+1)=a.length:=by
   rw[ZV Q];simp;omega
  rw[show a.take (m+1)=a.take m++[x] by rw[qBQ,r];rfl];have N:(a.take m).length=m:=by simp;omega
  generalize a4:(qJ (p.vars.drop (m+1)) (a.drop (m+1))).1=S at *;generalize G:a.take m=P at *;simp only[qBX,qDD];have h:∀y,zc (P++y::S)=zc P++.int .i64 y::zc S:=fun y=>by simp[zc]
  have I:(zc P).length=m:=by rw[qO,N]
  have hg:∀y,(zc P++AV.int .i64 y::zc S)[m]?=some (.int .i64 y):=fun y=>by
   rw[qBt (by omega),I,qCh];rfl
  have hd:∀y,(zc P++AV.int .i64 y::zc S).drop m=.int .i64 y::zc S:=fun y=>by
   rw[qCJ (by omega),qBZ (by omega)];rfl
  have D:∀y z,(zc P++AV.int .i64 y::zc S).set m (.int .i64 z)=zc P++.int .i64 z::zc S:=fun y z=>by
   rw[qCd _ _ (by omega),I,qCh];rfl
  have K:∀y,(zc P++AV.int .i64 y::zc S).length=a.length:=fun y=>by
   rwa[qBp,qBB,qO,qO]
  rw[h];have a5:m<p.vars.length:=by omega
  have L:m+1<=a.length:=l;by_cases c:v.mode=0
  . rw[if_pos c]at b;simp[g,t,e,c,B];refine C m _ _ (by omega) ⟨by simp[g],by simp[j],by simp,by omega,by rw[b],T,?_⟩;rw[b];simp only[G];rw[h];simp
  have a1:=W c;have J:=wr (n:=x+1);rw[if_neg c]at b;have E:¬v.width<0:=by omega
  have Y:zG v=2^v.width.toNat:=rfl;rw[<- Y]at u;by_cases o:x+1<(zG v:Nat)
  . rw[if_pos o]at b;have s:=M (by rw[b]);rw[b]at s;simp only at s;rw[show W8 p.vars a=(P++(x+1)::S,true) by unfold W8;rw[s];rfl];simp[g,j,t,e,c,B,hd,D,K,J,u,l,L,E,IntKind.bits,o];rw[show zc P++AV.int .i64 (x+1)::zc S=(P++(x+1)::S).flatMap qf by rw[<- jD,h],show a.length=(P++(x+1)::S).length by simp;omega];obtain⟨H,w⟩:∃H:List Blk,H=[.cells (qw p),.cells ((P++(x+1)::S).flatMap qf)]:=⟨_,rfl⟩;simp only[qw]at w;rw[<- w];have f:ja 1 1 qf H (.ms 1 0 (P++(x+1)::S).length 1) (P++(x+1)::S):=.inr ⟨by simp,rfl,by rw[w];rfl⟩;have f1:=f.frz (fun x=>by simp) (fun x=>by simp) (fun x=>by simp) 6;have V:=f.frzNo (fun x=>by simp) (fun x=>by simp) (fun x=>by simp) 6;rw[frz,if_neg (by simp[qE,qr])];simp only[qBz,qBS,QV,qE,qr,Leq,zl,qCR,and_true];refine⟨V,?_⟩;simpa[qf] using f1
  rw[if_neg o]at b;simp[g,j,t,e,c,B,hd,D,K,J,u,l,L,E,IntKind.bits,o];refine C m _ _ (by omega) ⟨by simp[g],by simp[j],by simp,by omega,by rw[b],T,?_⟩;rw[b];simp only[G];rw[h];simp
def qp8{v l}(h:okV v l=true):(v.mode≠2->l=[])/\okL v.width l=true:=by
 unfold okV at h;by_cases a:v.mode=2
 . exact⟨fun h'=>absurd a h',by simpa[a] using h⟩
 refine⟨fun _=>?_,?_⟩
 . simp[a]at h
   first|exact h.1|exact h
 simp[a]at h
 first|exact h.2|(subst h;rfl)|(rw[h];rfl)
