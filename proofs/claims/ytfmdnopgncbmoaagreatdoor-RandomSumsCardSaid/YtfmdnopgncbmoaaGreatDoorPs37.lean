/- The tied card of RandomSums: the law's function returns true for every input, and each argument reads afterwards as it read before. No condition. -/
import Derived.Test.YtfmdnopgncbmoaaGreatDoorPs36
import Derived.Laws.Externs
import Derived.Shelf.Lay
import Derived.WalkKit
import Derived.Tactics
import Derived.Tactics2
import Derived.Test.YtfmdnopgncbmoaaGreatDoorRows
import Derived.ProofKit
import Derived.Stop.Joined
import Derived.SevenTiedAt
import Derived.Test.YtfmdnopgncbmoaaGreatDoorTie
import Derived.Test.YtfmdnopgncbmoaaGreatDoorCards
set_option maxRecDepth 100000
set_option maxHeartbeats 16000000
set_option linter.all false
set_option linter.defProp false
namespace Go.Proofs.YtfmdnopgncbmoaaGreatDoor
open Go Go.Abs Proofs.Tryz Go.RowKit Go.ChangeShapes Go.WideShapes Go.ChangeAt
def wc{α:Type}(f:α->Rat):List α->Rat
 |[]=>0
 |a::r=>f a+wc f r
def jN{α:Type}{f g:α->Rat}:∀{l:List α},(∀a∈l,f a=g a)->wc f l=wc g l
 |[],_=>rfl
 |a::r,h=>by rw[wc,wc,h a (by simp),jN fun x hx=>h x (by simp[hx])]
def qdJ{α:Type}(k:Rat)(f:α->Rat):∀l:List α,wc (fun a=>k*f a) l=k*wc f l
 |[]=>by simp[wc]
 |a::r=>by rw[wc,wc,qdJ k f r,Rat.mul_add]
def qaz{α:Type}(f g:α->Rat):∀l:List α,wc (fun a=>f a+g a) l=wc f l+wc g l
 |[]=>(Rat.add_zero 0).symm
 |a::r=>by rw[wc,wc,wc,qaz f g r];grind
def Yd{α:Type}:∀l:List α,wc (fun _=>0) l=0
 |[]=>rfl
 |a::r=>by rw[wc,Yd r,Rat.add_zero]
def qdI{α:Type}(f:α->Nat):∀l:List α,wc (fun a=>(f a:Rat)) l=(qfu f l:Nat)
 |[]=>rfl
 |a::r=>by rw[wc,qfu,qdI f r,Rat.natCast_add]
def qay{α β:Type}(F:α->β->Rat)(l:List β):∀m:List α,wc (fun v=>wc (F v) l) m=wc (fun a=>wc (fun v=>F v a) m) l
 |[]=>by simp only[wc];rw[Yd]
 |v::m=>by simp only[wc];rw[qay F l m,qaz]
def qdK{α:Type}(f:α->Rat):∀l m:List α,wc f (l++m)=wc f l+wc f m
 |[],m=>(Rat.zero_add _).symm
 |a::r,m=>by rw[qy3,wc,wc,qdK f r m,Rat.add_assoc]
def qaA(k:Rat)(x:Nat):∀N,wc (fun v=>if x=v then k else 0) (List.range N)=if x<N then k else 0
 |0=>by simp[wc]
 | N+1=>by
  rw[qAc,qdK,qaA k x N,wc,wc];by_cases h:x=N
  . subst h;rw[if_neg (Nat.lt_irrefl _),if_pos rfl,if_pos (Nat.lt_succ_self _)];grind
  rw[if_neg h];by_cases h2:x<N
  . rw[if_pos h2,if_pos (by omega)];grind
  rw[if_neg h2,if_neg (by omega)];grind
def qgw(c:List (Nat×Nat))(a:List Int):Bool:=c.all fun q=>decide (a[q.1]?=some (q.2:Int))
noncomputable def qfw(p:Problem)(h:List Int->Rat)(c:List (Nat×Nat)):Rat:=wc (fun a=>if j9 p.vars (ql p).1 a=true/\qgw c a=true then h a else 0) (jF p.vars)
def Zv{p h h' c}(he:∀a∈jF p.vars,j9 p.vars (ql p).1 a=true->qgw c a=true->h a=h' a):qfw p h c=qfw p h' c:=by
 refine jN fun a ha=>?_
 split
 . rename_i hc;exact he a ha hc.1 hc.2
 rfl
def qdM{p}(k:Rat)(h c):qfw p (fun a=>k*h a) c=k*qfw p h c:=by
 unfold qfw;rw[<- qdJ];refine jN fun a _=>?_
 split
 . rfl
 rw[Rat.mul_zero]
def qfv{p}(hv:qk p=0)(h c){i}(hi:i∈(NG p).flatten):qfw p h c=wc (fun v=>qfw p h (c++[(i,v)])) (List.range (2^jp p i)):=by
 unfold qfw;rw[qay];refine jN fun a ha=>?_
 obtain⟨x,h1,h2,h3⟩:=Ko hv ha hi;have e:∀v,qgw (c++[(i,v)]) a=(qgw c a&&decide (x=v)):=fun v=>by
  unfold qgw;rw[qAa];simp only[qAh,qCC,qAG,h1,qyU];congr 1;exact decide_eq_decide.2 (by omega)
 by_cases hc:j9 p.vars (ql p).1 a=true/\qgw c a=true
 . rw[if_pos hc];have:=qaA (h a) x (2^jp p i);rw[if_pos h2]at this;refine Eq.trans this.symm (jN fun v _=>?_);rw[e,hc.1,hc.2];simp
 rw[if_neg hc];refine Eq.trans (Yd (List.range (2^jp p i))).symm (jN fun v _=>?_);rw[e,if_neg];intro h';rw[qyJ]at h';exact hc ⟨h'.1,h'.2.1⟩
noncomputable def qoT(p:Problem)(f:List (Nat×Nat)->Rat):List Nat->List (Nat×Nat)->Rat
 |[],c=>f c
 |i::r,c=>wc (fun v=>(wtP p i v:Nat)*qoT p f r (c++[(i,v)])) (List.range (2^jp p i))
def KY{p}(hv:qk p=0)(h):∀(r:List Nat) (c),(∀i∈r,i∈(NG p).flatten)->qfw p (fun a=>(kv p (aN a) r:Nat)*h a) c=qoT p (qfw p h) r c
 | [],c,_=>by
  rw[qoT];refine Zv fun a _ _ _=>?_
  rw[kv];grind
 | i::r,c,hr=>by
  rw[qoT,qfv hv _ c (hr i (by simp))];refine jN fun v _=>?_
  rw[<- KY hv h r _ fun j hj=>hr j (by simp[hj]),<- qdM];refine Zv fun a ha _ hag=>?_
  obtain⟨x,h1,h2,h3⟩:=Ko hv ha (hr i (by simp));unfold qgw at hag;rw[qAa,qyJ]at hag;have hx:=hag.2;simp only[qAh,qCC,qAG,decide_eq_true_eq,h1,qyU]at hx;have hxv:x=v:=by omega
  rw[kv,h3,hxv,Rat.natCast_mul];grind
def qaC{p f}:∀(r:List Nat) (c:List (Nat×Nat)),(∀c':List (Nat×Nat),c'.map (·.1)=c.map (·.1)++r->f c'=if okC p (ql p).1 c'=true then 1 else 0) ->
 qoT p f r c=(yC p (ql p).1 (fun _=>none) r c:Nat)
 | [],c,h=>by
  rw[qoT,yC,h c (by simp)];split<;>rfl
 | i::r,c,h=>by
  rw[qoT,yC];show _=((qfu _ (List.range (2^jp p i)):Nat):Rat);rw[<- qdI];refine jN fun v _=>?_
  rw[qaC r (c++[(i,v)]) fun c' hc'=>h c' (by rw[hc'];simp),Rat.natCast_mul]
noncomputable def prR(p:Problem)(a:List Int):List Nat->Rat
 |[]=>1
 |g::r=>((kv p (aN a) ((NG p).getD g []):Nat):Rat)/(qkc p a g:Nat)*prR p a r
def qm6{p}(hv:qk p=0){a c gi}(ha:a∈jF p.vars)(hc:c.map (·.1)=((NG p).take gi).flatten)(h:qgw c a=true):Yt p a gi=c:=by
 unfold Yt;rw[<- hc,qz0]
 conv=>rhs;rw[<- List.map_id c]
 refine qzW fun q hq=>?_
 have hm:q.1∈(NG p).flatten:=by
  have:q.1∈((NG p).take gi).flatten:=by rw[<- hc];exact qza.2 ⟨q,hq,rfl⟩
  obtain⟨l,h1,h2⟩:=qzl.1 this;exact qzl.2 ⟨l,qzy h1,h2⟩
 obtain⟨x,h1,h2,h3⟩:=Ko hv ha hm;have:=of_decide_eq_true (qyP.1 h q hq);rw[h1,qyU]at this;have:x=q.2:=by omega
 simp only[Function.comp,id,h3,this]
def qhk{p}(hv:qk p=0){c}(hc:c.map (·.1)=(NG p).flatten):qfw p (fun _=>1) c=if okC p (ql p).1 c=true then 1 else 0:=by
 have h:=Zj (P:=fun a=>j9 p.vars (ql p).1 a&&qgw c a) (Z4 p.vars) fun a ha b hb h1 h2=>by
  rw[qyJ]at h1 h2;refine qm5 hv ha hb fun i hi=>?_
  rw[<- hc]at hi;obtain⟨q,hq,rfl⟩:=qza.1 hi;rw[of_decide_eq_true (qyP.1 h1.2 q hq),of_decide_eq_true (qyP.1 h2.2 q hq)]
 have e:∀l:List (List Int),wc (fun a=>if j9 p.vars (ql p).1 a=true/\qgw c a=true then(1:Rat) else 0) l=((l.countP fun a=>j9 p.vars (ql p).1 a&&qgw c a:Nat):Rat):=by
  intro l
  induction l with
  |nil=>rfl
  | cons a l ih=>
   rw[wc,ih,qCg,Rat.natCast_add];by_cases h:j9 p.vars (ql p).1 a=true/\qgw c a=true
   . rw[if_pos h,if_pos (by rw[h.1,h.2];rfl)];grind
   rw[if_neg h,if_neg (by rw[qyJ];exact h)];grind
 unfold qfw;rw[e,h];show((if okC p (ql p).1 c=true then 1 else 0:Nat):Rat)=_;split<;>rfl
def qdL{p}(hv:qk p=0)(hneed:∀e∈zI p,e∈(ql p).1):∀(k gi:Nat) (c:List (Nat×Nat)),gi+k=(NG p).length->c.map (·.1)=((NG p).take gi).flatten ->
 qfw p (fun a=>prR p a (List.range' gi k)) c=if okC p (ql p).1 c=true then 1 else 0
 | 0,gi,c,hk,hc=>by
  rw[qyN (by omega)]at hc;exact qhk hv hc
 | k+1,gi,c,hk,hc=>by
  have hgi:gi<(NG p).length:=by omega
  obtain⟨g,hg,hgd,hgn,hgm⟩:=qq0 hv hgi;have ht:∀a∈jF p.vars,qgw c a=true->qkc p a gi=yC p (ql p).1 (fun _=>none) g c:=fun a ha h=>by
   unfold qkc;rw[qm6 hv ha hc h,hgd]
  rw[Zv (h':=fun a=>((yC p (ql p).1 (fun _=>none) g c:Nat):Rat)⁻¹*((kv p (aN a) g:Nat)*prR p a (List.range' (gi+1) k))) fun a ha _ hag=>by
   rw[qAI,prR,hgd,ht a ha hag,Rat.div_def];grind]
  rw[qdM,KY hv _ g c hgm,qaC g c fun c' hc'=>qdL hv hneed k (gi+1) c' (by omega) (by rw[hc',hc,qzb,hg];simp)];by_cases ho:okC p (ql p).1 c=true
  . rw[if_pos ho];have hpos:(yC p (ql p).1 (fun _=>none) g c:Nat)≠0:=by
     obtain⟨a,ha,hs⟩:=qy8.1 ho;rw[qyJ]at hs;have h1:=qht hv ha hs.1 hgi;rw[hgd,ht a ha hs.2]at h1;have h2:0<kv p (aN a) g:=JL fun i hi=>(qgH hv ha (fun e he=>of_decide_eq_true (qyP.1 hs.1 e (hneed e he))) (hgm i hi)).1
     omega
    have:((yC p (ql p).1 (fun _=>none) g c:Nat):Rat)≠0:=fun h=>hpos (Rat.natCast_eq_zero_iff.1 h)
    rw[Rat.mul_comm,Rat.mul_inv_cancel _ this]
  rw[if_neg ho,Zu g c ho];exact Rat.mul_zero _
def qkZ{p}(h:(ql p).2=0):wc (fun a=>if j9 p.vars (ql p).1 a=true then prR p a (List.range (NG p).length) else 0) (jF p.vars)=1:=by
 obtain⟨hv,_,hs,hneed⟩:=yV h;have:=qdL hv hneed (NG p).length 0 [] (by omega) (by simp);rw[qpA,hs,if_pos rfl]at this;rw[<- this,qAB];refine jN fun a _=>?_
 by_cases hsat:j9 p.vars (ql p).1 a=true
 . rw[if_pos hsat,if_pos ⟨hsat,rfl⟩]
 rw[if_neg hsat,if_neg fun h=>hsat h.1]
def nq{n:Nat}(h:0<n):(n:Rat)≠0:=fun e=>by have:=Rat.natCast_eq_zero_iff.1 e;omega
def frQ(n d:Nat):Rat:=(n:Rat)/(d:Rat)
def qiM{n d k}(hk:0<k)(hd:0<d):frQ (k*n) (k*d)=frQ n d:=by
 have h1:=nq hk;have h2:=nq hd;unfold frQ;rw[Rat.natCast_mul,Rat.natCast_mul];grind
def qiN{g n d}(hd:0<d)(h1:g∣n)(h2:g∣d):frQ (n/g) (d/g)=frQ n d:=by
 obtain⟨n',rfl⟩:=h1;obtain⟨d',rfl⟩:=h2;have hg:0<g:=Nat.pos_of_mul_pos_right hd;have hd':0<d':=qBI hd;rw[qzR _ hg,qzR _ hg,qiM hg hd']
def qiL{a b c d}(hb:0<b)(hd:0<d):frQ a b*frQ c d=frQ (a*c) (b*d):=by
 have h1:=nq hb;have h2:=nq hd;unfold frQ;rw[Rat.natCast_mul,Rat.natCast_mul];grind
def qlJ{a b}(hb:0<b):frQ (yp a b).1 (yp a b).2=frQ a b:=qiN hb (qAf _ _) (qzQ _ _)
def qpL{a b c d}(hb:0<b)(hd:0<d)(he:(yc a b c d).2.2=0):frQ (yc a b c d).1 (yc a b c d).2.1=frQ a b*frQ c d:=by
 have e:yc a b c d=(qfK a b c d,qfL a b c d,0):=by
  unfold yc V7 at he⊢;split
  . rfl
  rename_i h;rw[if_neg h]at he;cases he
 rw[e];show frQ (qfK a b c d) (qfL a b c d)=_;unfold qfK qfL;have hg:0<Nat.gcd a d:=qzJ _ hd;have hh:0<Nat.gcd c b:=qzJ _ hb;obtain⟨a',ha⟩:=qAf a d;obtain⟨d',hd'⟩:=qzQ a d;obtain⟨c',hc⟩:=qAf c b;obtain⟨b',hb'⟩:=qzQ c b;generalize Nat.gcd a d=g at *;generalize Nat.gcd c b=h at *;subst ha hd' hc hb';have hb1:0<b':=qBI hb;have hd1:0<d':=qBI hd;rw[qzR _ hg,qzR _ hg,qzR _ hh,qzR _ hh,qiL hb hd];rw[show g*a'*(h*c')=g*h*(a'*c') by grind,show h*b'*(g*d')=g*h*(b'*d') by grind,qiM (qAZ hg hh) (qAZ hb1 hd1)]
def Wb{p a}:∀(l:List Nat) (n:Nat),(∀i∈l,0<wtP p i (aN a i))->n*kv p (aN a) l<=lim->l.foldl (fun n i=>sat (n*wtP p i (aN a i))) n=n*kv p (aN a) l
 |[],n,_,_=>by simp[kv]
 | i::l,n,h,hle=>by
  have hp:0<kv p (aN a) l:=JL fun j hj=>h j (by simp[hj])
  rw[kv,<- qAH]at hle;have h1:n*wtP p i (aN a i)<=lim:=qzs (qCj _ hp) hle;have h2:sat (n*wtP p i (aN a i))=n*wtP p i (aN a i):=by unfold sat;omega
  rw[qzm,h2,Wb l _ (fun j hj=>h j (by simp[hj])) hle,kv,qAH]
def qaW{p}(hv:qk p=0)(hneed:∀e∈zI p,e∈(ql p).1){a}(ha:a∈jF p.vars)(hs:j9 p.vars (ql p).1 a=true):∀(l:List Nat) (n d:Nat),FrOk n d->(vD p a l n d).2.2=0 ->
 FrOk (vD p a l n d).1 (vD p a l n d).2.1/\frQ (vD p a l n d).1 (vD p a l n d).2.1=frQ n d*prR p a l
 |[],n,d,h,_=>⟨h,by rw[prR,Rat.mul_one];rfl⟩
 | g::l,n,d,h,he=>by
  unfold vD at he⊢;split at he
  . rename_i h1;exact absurd he h1
  rename_i h1;split at he
  . cases he
  rename_i h2;rw[if_neg h1,if_neg h2];have h1:=qzB.1 h1;have h2:=qzB.1 h2;obtain⟨t1,t2,t3,t4,t5⟩:=qoQ h1;have hle:=qht hv ha hs t1;have hpos:∀i∈(NG p).getD g [],0<wtP p i (aN a i):=fun i hi=>by
   obtain⟨g',hg,hgd,hgn,hgm⟩:=qq0 hv t1;exact(qgH hv ha (fun e he=>of_decide_eq_true (qyP.1 hs e (hneed e he))) (hgm i (by rwa[hgd]at hi))).1
  have e1:yP p g a=kv p (aN a) ((NG p).getD g []):=by
   unfold yP;rw[Wb _ 1 hpos (by rw[qBo];exact qCe (qzw hle t5)),qBo]
  have e2:(Jb p g a).1.toNat=qkc p a g:=by rw[t3];rfl
  rw[e2,e1]at h2 he⊢;have t4:0<qkc p a g:=t4;have t5:qkc p a g<lim:=t5;have hlim:lim<9223372036854775808:=by decide
  have m1:=qid (a:=kv p (aN a) ((NG p).getD g [])) (b:=qkc p a g) (by omega) (by omega) t4;have m2:=qnJ h m1 h2;obtain⟨r1,r2⟩:=qaW hv hneed ha hs l _ _ m2 he;refine⟨r1,?_⟩;rw[r2,qpL h.pos m1.pos h2,qlJ t4,prR,Rat.mul_assoc];rfl
def qiJ:FrOk 0 1:=⟨by decide,by decide,by decide,by decide⟩
def qsW:FrOk 1 1:=⟨by decide,by decide,by decide,by decide⟩
def qeC:frQ 0 1=0:=by unfold frQ;grind
def qp8:frQ 1 1=1:=by unfold frQ;grind
def YU{p a R}(h:R.all (jw p a)=true):j9 p.vars R a=true:=by
 unfold j9;rw[qyP]at h⊢;intro e he;have:=h e he;unfold jw at this;simp only[qyJ,qz4,decide_eq_false_iff_not]at this;exact decide_eq_true this.2
def W9{p}(h0:(ql p).2=0){a}(ha:a∈jF p.vars)(he:(ka p a).2.2=0):
 FrOk (ka p a).1 (ka p a).2.1/\frQ (ka p a).1 (ka p a).2.1=(if j9 p.vars (ql p).1 a=true then prR p a (List.range (NG p).length) else 0):=by
 obtain⟨hv,_,_,hneed⟩:=yV h0;unfold ka at he⊢;rw[if_neg (fun e=>e h0),if_neg (by rw[km hv ha];simp)]at he⊢;split
 . rename_i h;rw[if_neg (fun hs=>by rw[qaO hv ha hs]at h;cases h)];exact⟨qiJ,qeC⟩
 rename_i h;have h:(ql p).1.all (jw p a)=true:=by simpa using h
 rw[if_neg (by rw[h];simp)]at he;have hs:=YU h;rw[if_pos hs];obtain⟨r1,r2⟩:=qaW hv hneed ha hs _ 1 1 qsW he;exact⟨r1,by rw[r2,qp8,Rat.mul_comm,Rat.mul_one]⟩
def qhs{p}(h0:(ql p).2=0){a}(ha:a∈jF p.vars)(hs:j9 p.vars (ql p).1 a=true){g}(hg:g<(NG p).length):0<kv p (aN a) ((NG p).getD g [])/\0<qkc p a g:=by
 obtain⟨hv,_,_,hneed⟩:=yV h0;obtain⟨g',hg',hgd,hgn,hgm⟩:=qq0 hv hg;have h1:0<kv p (aN a) ((NG p).getD g []):=JL fun i hi=>(qgH hv ha (fun e he=>of_decide_eq_true (qyP.1 hs e (hneed e he))) (hgm i (by rwa[hgd]at hi))).1
 exact⟨h1,qyV h1 (qht hv ha hs hg)⟩
def qnx{p}(h0:(ql p).2=0){a}(ha:a∈jF p.vars)(hs:j9 p.vars (ql p).1 a=true):∀l:List Nat,(∀g∈l,g<(NG p).length)->prR p a l≠0
 |[],_=>by rw[prR];decide
 | g::l,h=>by
  have ih:=qnx h0 ha hs l fun x hx=>h x (by simp[hx])
  obtain⟨h1,h2⟩:=qhs h0 ha hs (h g (by simp));have h1:=nq h1;have h2:=nq h2;rw[prR];intro e;rcases Rat.mul_eq_zero.1 e with e|e
  . rw[Rat.div_def]at e;rcases Rat.mul_eq_zero.1 e with e|e
    . exact h1 e
    exact h2 (by have:=Rat.mul_inv_cancel _ h2;rw[e,Rat.mul_zero]at this;exact absurd this (by decide))
  exact ih e
def qaX{p}(h0:(ql p).2=0){a}(ha:a∈jF p.vars)(hs:j9 p.vars (ql p).1 a=true):∀(l:List Nat) (n d:Nat),(∀g∈l,g<(NG p).length)->(vD p a l n d).2.2=0\/(vD p a l n d).2.2=3
 |[],n,d,_=>.inl rfl
 | g::l,n,d,h=>by
  obtain⟨hv,_⟩:=yV h0;have hg:=h g (by simp);have ht:(Jb p g a).2=0\/(Jb p g a).2=3:=by
   have h2:=(qhs h0 ha hs hg).2;have hs:qgA p (fun _=>none) a g=sat (qkc p a g):=qaB ..;have hl:0<lim:=(by decide);unfold Jb;rw[if_neg (by rw[km hv ha];simp;omega),qzt,hs,if_neg (by unfold sat;omega)];split
   . exact .inr rfl
   exact .inl rfl
  unfold vD;rcases ht with ht|ht
  . rw[if_neg (fun e=>e ht)];split
    . exact .inr rfl
    exact qaX h0 ha hs l _ _ fun x hx=>h x (by simp[hx])
  rw[if_pos (by rw[ht];decide)];exact .inr ht
def qk2{p}(h0:(ql p).2=0){a}(ha:a∈jF p.vars):(ka p a).2.2=0\/(ka p a).2.2=3:=by
 obtain⟨hv,_⟩:=yV h0;unfold ka;rw[if_neg (fun e=>e h0),if_neg (by rw[km hv ha];simp)];split
 . exact .inl rfl
 rename_i h;exact qaX h0 ha (YU (by simpa using h)) _ 1 1 fun g hg=>qzP.1 hg
def qk1{p}(h0:(ql p).2=0){a}(ha:a∈jF p.vars)(he:(ka p a).2.2=0):0<(ka p a).1↔j9 p.vars (ql p).1 a=true:=by
 obtain⟨hf,hq⟩:=W9 h0 ha he;have hd:=nq hf.pos;by_cases hs:j9 p.vars (ql p).1 a=true
 . rw[if_pos hs]at hq;have h1:=qnx h0 ha hs (List.range (NG p).length) fun g hg=>qzP.1 hg
   refine⟨fun _=>hs,fun _=>qAK fun e=>h1 ?_⟩;rw[<- hq,e];unfold frQ;rw[Rat.div_def];exact Rat.zero_mul _
 rw[if_neg hs]at hq;refine⟨fun h=>?_,fun h=>absurd h hs⟩;have h1:=nq h;unfold frQ at hq;exact absurd (show((ka p a).1:Rat)=0 by grind) h1
def qis{p}(h0:(ql p).2=0){a}(ha:a∈jF p.vars):qit p a=j9 p.vars (ql p).1 a:=by
 obtain⟨hv,_⟩:=yV h0;unfold qit;rw[h0]
 cases h:j9 p.vars (ql p).1 a with
 |true=>rw[qaO hv ha h];rfl
 | false=>
  cases h2:(ql p).1.all (jw p a) with
  |false=>rfl
  |true=>rw[YU h2]at h;cases h
def qiK{n d}(h:FrOk n d)(he:frQ n d=1):n=1/\d=1:=by
 have hd:=nq h.pos;have e:(n:Rat)=d:=by unfold frQ at he;grind
 have e:=Rat.natCast_inj.1 e;subst e;have:=h.cop;rw[Nat.gcd_self]at this;exact⟨this,this⟩
def qj1(a b c d):kx a b c d∣Nat.gcd b d/\kx a b c d∣vS a b c d:=by
 refine⟨qAf _ _,?_⟩;have h1:kx a b c d∣Nat.gcd b d:=qAf _ _;have h2:kx a b c d∣vS a b c d%Nat.gcd b d:=qzQ _ _;have:=qAQ (vS a b c d) (Nat.gcd b d);rw[<- this];exact Nat.dvd_add (qCA h1 (Nat.dvd_mul_right _ _)) h2
def qqP{a b c d}(hb:0<b)(hd:0<d):0<Ks a b c d/\frQ (vS a b c d/kx a b c d) (Ks a b c d)=frQ a b+frQ c d:=by
 obtain⟨h1,h2⟩:=qj1 a b c d;have hg:0<Nat.gcd b d:=qBe _ hb;have hh:0<kx a b c d:=Nat.pos_of_dvd_of_pos h1 hg;obtain⟨x,hx⟩:=qAf b d;obtain⟨y,hy⟩:=qzQ b d;obtain⟨k,hk⟩:=h1;obtain⟨s,hs⟩:=h2;have hx0:0<x:=qAK fun e=>by rw[e]at hx;omega
 have hy0:0<y:=qAK fun e=>by rw[e]at hy;omega
 have e1:b/Nat.gcd b d=x:=by
  conv=>lhs;lhs;rw[hx]
  exact qzR _ hg
 have e2:d/Nat.gcd b d=y:=by
  conv=>lhs;lhs;rw[hy]
  exact qzR _ hg
 have e3:d/kx a b c d=k*y:=by
  have:d=kx a b c d*(k*y):=by rw[<- qAH,<- hk,<- hy]
  conv=>lhs;lhs;rw[this]
  exact qzR _ hh
 have e4:vS a b c d/kx a b c d=s:=by rw[hs];exact qzR _ hh
 have e5:vS a b c d=a*y+c*x:=by unfold vS;rw[e1,e2]
 have hk0:0<k:=qAK fun e=>by rw[e]at hk;omega
 unfold Ks;rw[e1,e3,e4];refine⟨qAZ hx0 (qAZ hk0 hy0),?_⟩;rw[hs]at e5;generalize kx a b c d=h at *;generalize Nat.gcd b d=g at *;have q1:=nq hx0;have q2:=nq hy0;have q3:=nq hk0;have q4:=nq hh;have e6:(h:Rat)*s=a*y+c*x:=by
  rw[<- Rat.natCast_mul,e5,Rat.natCast_add,Rat.natCast_mul,Rat.natCast_mul]
 subst hk;subst hx hy;unfold frQ;simp only[Rat.natCast_mul];grind
def qtF{a b c d}(h:FrOk a b)(g:FrOk c d)(he:(ko a b c d).2.2=0):FrOk (ko a b c d).1 (ko a b c d).2.1/\frQ (ko a b c d).1 (ko a b c d).2.1=frQ a b+frQ c d:=by
 obtain⟨h1,h2⟩:=qqP (a:=a) (c:=c) h.pos g.pos;unfold ko V7 at he⊢;split at he
 case isFalse=>cases he
 rename_i hc;rw[if_pos hc];split at he
 case isFalse=>cases he
 rename_i hr;rw[if_pos hr];generalize vS a b c d/kx a b c d=n at *;generalize Ks a b c d=m at *;have hg:0<Nat.gcd n m:=qzJ _ h1;refine⟨⟨hr.1,hr.2,qAY (qA6 h1 (qzQ _ _)) hg,qA0 hg⟩,?_⟩;rw[<- h2];exact qiN h1 (qAf _ _) (qzQ _ _)
def qwP(a b c d):(ko a b c d).2.2=0\/(ko a b c d).2.2=3:=by
 unfold ko V7;split
 . split
   . exact .inl rfl
   . exact .inr rfl
 exact .inr rfl
end Go.Proofs.YtfmdnopgncbmoaaGreatDoor
namespace Go.Abs
def qmx{y1 y0 u n:Nat}(hu:u<y1*4294967296+y0)(hn:n<4294967296):(u*4294967296+n)/(y1*4294967296+y0)<4294967296:=by
 rw[Nat.div_lt_iff_lt_mul (by omega)];omega
def qtj{y1 y0 u n:Nat}(h1:0<y1)(hn:n<4294967296):(u*4294967296+n)/(y1*4294967296+y0)<=u/y1:=by
 have h:=Nat.div_mul_le_self (u*4294967296+n) (y1*4294967296+y0);generalize (u*4294967296+n)/(y1*4294967296+y0)=q at h;rw[Nat.le_div_iff_mul_le h1];rw[Nat.mul_add,<- Nat.mul_assoc]at h;omega
def qtk{y1 y0 u:Nat}(h1:2147483648<=y1)(h0:y0<4294967296)(hu:u<y1*4294967296+y0):u/y1<=4294967297:=by
 have:u/y1<4294967298:=by
  rw[Nat.div_lt_iff_lt_mul (by omega)];omega
 omega
def qeO{y1 y0 u n q r:Nat}(h0:0<y1*4294967296+y0)(hr:q*y1+r=u):r*4294967296+n<q*y0↔(u*4294967296+n)/(y1*4294967296+y0)<q:=by
 rw[Nat.div_lt_iff_lt_mul h0,Nat.mul_add,<- Nat.mul_assoc,<- hr];omega
def qi8{y q u n:Nat}(h:q=(u*4294967296+n)/y):(u*4294967296+n)%y+q*y=u*4294967296+n:=by
 rw[h,Nat.add_comm,Nat.mul_comm];exact Nat.div_add_mod _ _
def qi9{y a m B:Nat}(hy:0<y):a/y*B+(a%y*B+m)/y=(a*B+m)/y/\(a%y*B+m)%y=(a*B+m)%y:=by
 have e:a*B+m=(a%y*B+m)+a/y*B*y:=by
  have h2:(y*(a/y)+a%y)*B=a*B:=by rw[Nat.div_add_mod]
  rw[Nat.add_mul,Nat.mul_comm y,Nat.mul_assoc,Nat.mul_comm y,<- Nat.mul_assoc]at h2;omega
 rw[e,Nat.add_mul_div_right _ _ hy,Nat.add_mul_mod_self_right];exact⟨Nat.add_comm ..,rfl⟩
def qmw{y u k:Nat}(hk:0<k):u*k/(y*k)=u/y/\u*k%(y*k)/k=u%y:=by
 refine⟨Nat.mul_div_mul_right _ _ hk,?_⟩;rw[Nat.mul_mod_mul_right,Nat.mul_div_cancel _ hk]
end Go.Abs
namespace Go.Proofs.YtfmdnopgncbmoaaGreatDoor
open Go Go.Abs Proofs.Tryz Go.RowKit Go.ChangeShapes Go.WideShapes Go.ChangeAt
def qg8{z:Int}{c:Nat}(k:Int)(h:z=c+18446744073709551616*k)(hc:c<18446744073709551616):IntKind.u64.wrap z=c:=by
 rw[h];simp only[IntKind.wrap,IntKind.bits,IntKind.signed];simp;omega
def qrQ{a b:Nat}(c:Nat)(h:a=b+c)(hc:a<18446744073709551616):qu .sub .u64 a b=some (.int .u64 c):=by
 show some (AV.int .u64 (IntKind.u64.wrap ((a:Int)-b)))=_;rw[qg8 (c:=c) 0 (by omega) (by omega)]
def qvk{a b:Nat}(c:Nat)(k:Int)(h:(a:Int)-b=c+18446744073709551616*k)(hc:c<18446744073709551616):qu .sub .u64 a b=some (.int .u64 c):=by
 show some (AV.int .u64 (IntKind.u64.wrap ((a:Int)-b)))=_;rw[qg8 k h hc]
def qvp{a b:Nat}(c:Nat)(k:Int)(h:(a:Int)+b=c+18446744073709551616*k)(hc:c<18446744073709551616):qu .add .u64 a b=some (.int .u64 c):=by
 show some (AV.int .u64 (IntKind.u64.wrap ((a:Int)+b)))=_;rw[qg8 k h hc]
def qvn{a b:Nat}(c:Nat)(k:Int)(h:(a:Int)*b=c+18446744073709551616*k)(hc:c<18446744073709551616):qu .mul .u64 a b=some (.int .u64 c):=by
 show some (AV.int .u64 (IntKind.u64.wrap ((a:Int)*b)))=_;rw[qg8 k h hc]
def qxB(a b:Nat)(hb:0<b)(ha:a<18446744073709551616):qu .rem .u64 a b=some (.int .u64 (a%b:Nat)):=by
 have h:¬(b:Int)=0:=by omega
 have h2:a%b<18446744073709551616:=qzw (Nat.mod_le _ _) ha;simp only[qu];rw[if_neg h,qBm (by omega)];rfl
def qha{k a b}:qu .eql k a b=some (.bool (a==b)):=rfl
def qg9{k a b}:qu .leq k a b=some (.bool (decide (a<=b))):=rfl
def Qn{k a b}:qu .geq k a b=some (.bool (decide (a≥b))):=rfl
def Qm{k a b}:qu .gtr k a b=some (.bool (decide (a > b))):=rfl
def qvm{a s:Nat}(c:Nat)(hs:s<=64)(h:a*2^s%18446744073709551616=c):IntKind.u64.wrap ((a:Int)*2^min s IntKind.u64.bits)=c:=by
 have e:min s IntKind.u64.bits=s:=qAb hs;rw[e];have e2:((a:Int)*2^s)=((a*2^s:Nat):Int):=by rw[qAN,Int.natCast_pow];rfl
 rw[e2];generalize a*2^s=m at *;exact qg8 ((m/18446744073709551616:Nat):Int) (by omega) (by omega)
def qwX{a s:Nat}(c:Nat)(hs:s<=64)(h:a/2^s=c):(a:Int).fdiv (2^min s IntKind.u64.bits)=c:=by
 have e:min s IntKind.u64.bits=s:=qAb hs;rw[e,qz7 _ (Int.pow_nonneg (by decide)),<- h];have:((2:Int)^s)=((2^s:Nat):Int):=by rw[Int.natCast_pow];rfl
 rw[this];rfl
def uor{a b:Nat}(s c:Nat)(h:a*2^s+b=c)(hb:b<2^s)(hc:c<18446744073709551616):qu .or .u64 ((a*2^s:Nat):Int) b=some (.int .u64 c):=by
 have hp:0<2^s:=qAi s;have ha:a*2^s<18446744073709551616:=by omega
 have hb':b<18446744073709551616:=by omega
 have h1:((BitVec.ofInt 64 ((a*2^s:Nat):Int) ||| BitVec.ofInt 64 (b:Int)).toNat:Int)=c:=by
  rw[BitVec.toNat_or,BitVec.toNat_ofInt,BitVec.toNat_ofInt];have e1:((((a*2^s:Nat):Int))%((2^64:Nat):Int)).toNat=a <<< s:=by rw[Nat.shiftLeft_eq];omega
  have e2:(((b:Nat):Int)%((2^64:Nat):Int)).toNat=b:=by omega
  rw[e1,e2,<- Nat.shiftLeft_add_eq_or_of_lt hb,Nat.shiftLeft_eq,h]
 show some (AV.int .u64 (IntKind.u64.wrap ((BitVec.ofInt 64 ((a*2^s:Nat):Int) ||| BitVec.ofInt 64 (b:Int)).toNat:Int)))=_;rw[h1,wru (by omega) (by omega)]
def qcS{x k:Nat}(h:2^k<=x):(x/2^k).log2+k=x.log2:=by
 have hp:0<2^k:=qAi k;have h0:x≠0:=by omega
 have h1:x/2^k≠0:=Nat.ne_of_gt (qAY h hp)
 symm
 rw[Nat.log2_eq_iff h0];have a:=Nat.log2_self_le h1;have b:=Nat.lt_log2_self (n:=x/2^k);constructor
 . rw[qBq];exact qzs (qzx _ a) (qBV _ _)
 rw[show(x/2^k).log2+k+1=(x/2^k).log2+1+k by omega,qBq];exact(qAr hp).1 b
def qvG:((2:Int)^min 16 IntKind.u64.bits)=65536:=by decide
def qxE:((2:Int)^min 8 IntKind.u64.bits)=256:=by decide
def qvA(n:Nat):(n:Int).fdiv 65536=(n/65536:Nat):=by
 rw[qz7 _ (by omega)];omega
def qxD(n:Nat):(n:Int).fdiv 256=(n/256:Nat):=by
 rw[qz7 _ (by omega)];omega
def qoR:(List.range 256).all (fun z=>([0,1,2,2,3,3,3,3,4,4,4,4,4,4,4,4,5,5,5,5,5,5,5,5,5,5,5,5,5,5,5,5,6,6,6,6,6,6,6,6,6,6,6,6,6,6,6,6,6,6,6,6,6,6,6,6,6,6,6,6,6,6,6,6,7,7,7,7,7,7,7,7,7,7,7,7,7,7,7,7,7,7,7,7,7,7,7,7,7,7,7,7,7,7,7,7,7,7,7,7,7,7,7,7,7,7,7,7,7,7,7,7,7,7,7,7,7,7,7,7,7,7,7,7,7,7,7,7,8,8,8,8,8,8,8,8,8,8,8,8,8,8,8,8,8,8,8,8,8,8,8,8,8,8,8,8,8,8,8,8,8,8,8,8,8,8,8,8,8,8,8,8,8,8,8,8,8,8,8,8,8,8,8,8,8,8,8,8,8,8,8,8,8,8,8,8,8,8,8,8,8,8,8,8,8,8,8,8,8,8,8,8,8,8,8,8,8,8,8,8,8,8,8,8,8,8,8,8,8,8,8,8,8,8,8,8,8,8,8,8,8,8,8,8,8,8,8,8,8,8,8,8,8,8,8,8]:List UInt8)[z]? == some (UInt8.ofNat (if z=0 then 0 else z.log2+1)))=true:=by decide +kernel
def qrV{z:Nat}(h0:0<z)(h:z<256):∃b:UInt8,([0,1,2,2,3,3,3,3,4,4,4,4,4,4,4,4,5,5,5,5,5,5,5,5,5,5,5,5,5,5,5,5,6,6,6,6,6,6,6,6,6,6,6,6,6,6,6,6,6,6,6,6,6,6,6,6,6,6,6,6,6,6,6,6,7,7,7,7,7,7,7,7,7,7,7,7,7,7,7,7,7,7,7,7,7,7,7,7,7,7,7,7,7,7,7,7,7,7,7,7,7,7,7,7,7,7,7,7,7,7,7,7,7,7,7,7,7,7,7,7,7,7,7,7,7,7,7,7,8,8,8,8,8,8,8,8,8,8,8,8,8,8,8,8,8,8,8,8,8,8,8,8,8,8,8,8,8,8,8,8,8,8,8,8,8,8,8,8,8,8,8,8,8,8,8,8,8,8,8,8,8,8,8,8,8,8,8,8,8,8,8,8,8,8,8,8,8,8,8,8,8,8,8,8,8,8,8,8,8,8,8,8,8,8,8,8,8,8,8,8,8,8,8,8,8,8,8,8,8,8,8,8,8,8,8,8,8,8,8,8,8,8,8,8,8,8,8,8,8,8,8,8,8,8,8,8]:List UInt8)[z]?=some b/\b.toNat=z.log2+1:=by
 have:=qyP.1 qoR z (qzP.2 h);rw[if_neg (by omega)]at this;refine⟨_,eq_of_beq this,?_⟩;have e:z.log2<8:=(Nat.log2_lt (by omega)).2 h;rw[UInt8.toNat_ofNat'];omega
def qv3(x:Nat)(h:x<18446744073709551616)(h0:0<x):Pure prog GG 223 [.int .u64 x] (.int .i64 ((x.log2+1:Nat):Int)):=by
 refine qCL qe func223 rfl (by kernel_rfl) ?_;have d32:4294967296<=x->(x/4294967296).log2+32=x.log2:=fun h=>qcS (k:=32) h
 have d16:∀y,65536<=y->(y/65536).log2+16=y.log2:=fun y h=>qcS (k:=16) h
 have d8:∀y,256<=y->(y/256).log2+8=y.log2:=fun y h=>qcS (k:=8) h
 obtain⟨y,n,hy,hy0,hl,hA⟩:∃y n:Nat,y<4294967296/\0<y/\y.log2+n=x.log2/\((4294967296<=x/\y=x/4294967296/\n=32)\/(¬4294967296<=x/\y=x/\n=0)):=by
  by_cases c:4294967296<=x
  . exact⟨_,32,by omega,by omega,d32 c,.inl ⟨c,rfl,rfl⟩⟩
  exact⟨x,0,by omega,h0,rfl,.inr ⟨c,rfl,rfl⟩⟩
 obtain⟨y2,n2,hy2,hy20,hl2,hB⟩:∃y2 n2:Nat,y2<65536/\0<y2/\y2.log2+n2=y.log2/\((65536<=y/\y2=y/65536/\n2=16)\/(¬65536<=y/\y2=y/\n2=0)):=by
  by_cases c:65536<=y
  . exact⟨_,16,by omega,by omega,d16 _ c,.inl ⟨c,rfl,rfl⟩⟩
  exact⟨y,0,by omega,hy0,rfl,.inr ⟨c,rfl,rfl⟩⟩
 obtain⟨z,n3,hz,hz0,hl3,hC⟩:∃z n3:Nat,z<256/\0<z/\z.log2+n3=y2.log2/\((256<=y2/\z=y2/256/\n3=8)\/(¬256<=y2/\z=y2/\n3=0)):=by
  by_cases c:256<=y2
  . exact⟨_,8,by omega,by omega,d8 _ c,.inl ⟨c,rfl,rfl⟩⟩
  exact⟨y2,0,by omega,hy20,rfl,.inr ⟨c,rfl,rfl⟩⟩
 obtain⟨b,tb,hb⟩:=qrV hz0 hz;have e8:z.log2<8:=(Nat.log2_lt (by omega)).2 hz;have w1:IntKind.u8.wrap (z:Int)=z:=by
  simp only[IntKind.wrap,IntKind.bits,IntKind.signed];simp;omega
 have w3:IntKind.i64.wrap (b.toNat:Int)=b.toNat:=wr (by omega) (by omega);have w4:IntKind.i64.wrap ((n+n2+n3:Nat)+(b.toNat:Int))=(x.log2+1:Nat):=by
  rw[show((n+n2+n3:Nat)+(b.toNat:Int))=((x.log2+1:Nat):Int) by omega];exact wr (by omega) (by omega)
 generalize x.log2+1=L at w4⊢;have q1:(x:Int).fdiv 4294967296=(x/4294967296:Nat):=qaK _ _ rfl;have q2:=qvA y;have q3:=qxD y2;have wn:∀m:Nat,m<=56->IntKind.i64.wrap (m:Int)=m:=fun m h=>wr (by omega) (by omega)
 have k24:IntKind.i64.wrap 24=24:=by decide
 have k16:IntKind.i64.wrap 16=16:=by decide
 have k8:IntKind.i64.wrap 8=8:=by decide
 have k48:IntKind.i64.wrap 48=48:=by decide
 have k40:IntKind.i64.wrap 40=40:=by decide
 have k56:IntKind.i64.wrap 56=56:=by decide
 have c1':(4294967296:Int)<=x↔4294967296<=x:=by omega
 have c2':(65536:Int)<=y↔65536<=y:=by omega
 have c3':(256:Int)<=y2↔256<=y2:=by omega
 rcases hA with⟨c1,e1,rfl⟩|⟨c1,rfl,rfl⟩<;>rcases hB with⟨c2,e2,rfl⟩|⟨c2,rfl,rfl⟩<;>rcases hC with⟨c3,e3,rfl⟩|⟨c3,rfl,rfl⟩
 all_goals
  try rw[<- e1]at q1
  try rw[<- e2]at q2
  try rw[<- e3]at q3
  simp[-getElem?_pos,qpi,qvG,qxE,c1,c1',c2,c2',c3,c3',q1,q2,q3,yS,w1,k8,k16,k24,k40,k48,k56];rw[tb];simp[-getElem?_pos,yS,w3];simpa[w3] using w4
def qkm(x s:Nat)(h:x<18446744073709551616)(h0:0<x)(hs:s+x.log2=63):Pure prog GG 163 [.int .u64 x] (.int .i64 s):=by
 refine qCL qe func163 rfl (by kernel_rfl) ?_;simp;refine qCO (qv3 x h h0) (by simp) ?_;have w:IntKind.i64.wrap (64-((x.log2+1:Nat):Int))=s:=by
  rw[show(64-((x.log2+1:Nat):Int))=s by omega];exact wr (by omega) (by omega)
 generalize x.log2+1=L at *;simp[w]
def qqt(lo y:Nat)(h1:0<y)(hy:y<18446744073709551616)(hl:lo<18446744073709551616):
 Pure prog GG 111 [.int .u64 0,.int .u64 lo,.int .u64 y] (.tup [.int .u64 (lo/y:Nat),.int .u64 (lo%y:Nat)]):=by
 refine qCL qe func111 rfl (by kernel_rfl) ?_;have a1:¬y=0:=by omega
 have d1:=qgz lo y (by omega) hl;have d2:=qxB lo y (by omega) hl;simp[-qu,qha,qg9,a1,d1,d2]
def qth(hi lo y:Nat)(h0:0<hi)(h1:hi<y)(hy:y<18446744073709551616)(hl:lo<18446744073709551616):
 ∃ s y1 y0 u m m1 m0:Nat,s+y.log2=63/\s<=63/\y*2^s=y1*4294967296+y0/\2147483648<=y1/\y1<4294967296/\y0<4294967296 /\
  (hi*18446744073709551616+lo)*2^s=u*18446744073709551616+m/\m<18446744073709551616/\m=m1*4294967296+m0/\m1<4294967296/\m0<4294967296/\u<y1*4294967296+y0 /\
  hi*2^s+lo/2^(64-s)=u/\lo/2^(64-s)<2^s/\lo*2^s%18446744073709551616=m:=by
 have hy0:y≠0:=by omega
 have hlg:y.log2<64:=(Nat.log2_lt hy0).2 hy;obtain⟨s,hs⟩:∃s,s+y.log2=63:=⟨63-y.log2,by omega⟩;have hs2:s<=63:=by omega
 have e63:2^s*2^y.log2=9223372036854775808:=by rw[<- qBq,hs]
 have b1:=Nat.log2_self_le hy0;have b2:=Nat.lt_log2_self (n:=y);rw[qA9]at b2;have c1:9223372036854775808<=y*2^s:=by rw[<- e63,qAz];exact qzx _ b1
 have c2:y*2^s<18446744073709551616:=by
  have:y*2^s<2^y.log2*2*2^s:=Nat.mul_lt_mul_of_pos_right b2 (qAi s);rw[Nat.mul_right_comm,qAz (2^y.log2),e63]at this;omega
 have e64:2^(64-s)*2^s=18446744073709551616:=by rw[<- qBq,Nat.sub_add_cancel (by omega)]
 have c3:lo/2^(64-s)<2^s:=by
  rw[qAr (qAi _),qAz,e64];exact hl
 have c4:lo*2^s/18446744073709551616=lo/2^(64-s):=by
  rw[<- e64];exact qCu _ _ (qAi s)
 have c5:(hi+1)*2^s<=y*2^s:=qzx _ h1;rw[qzr]at c5;have c6:(hi*18446744073709551616+lo)*2^s=hi*2^s*18446744073709551616+lo*2^s:=by rw[qzr,Nat.mul_right_comm]
 generalize ht:lo/2^(64-s)=t at c3 c4;generalize hP:lo*2^s=P at c4 c6;generalize hQ:hi*2^s=Q at c5 c6;generalize hY:y*2^s=Y at c1 c2 c5;exact⟨s,Y/4294967296,Y%4294967296,Q+t,P%18446744073709551616,P%18446744073709551616/4294967296,P%18446744073709551616%4294967296,hs,hs2,by rw[hY];omega,by omega,by omega,by omega,by rw[c6];omega,by omega,by omega,by omega,by omega,by omega,by rw[hQ,ht],by rw[ht];exact c3,by rw[hP]⟩
section
variable {P:Program}{G:Glo}{o:Opts}{env:Env}{U:St}{ks:List Fr}{Q:Exit->Env->St->Prop}
def Wt{b x z}(I:Env->St->Prop)(h1:qQ P G o x env U (.block b::.loop I::ks) Q)(h2:∀env U,I env U->kC P G o z env U ks Q)(hp:jS x=true):qQ P G o x env U (.block b::.seq z::ks) Q:=by
 unfold qQ at h1⊢;obtain⟨J,n,h0,hr⟩:=h1;have key:∀e env U,itp P G o (.loop I::ks) Q e env U->itp P G o (.seq z::ks) Q e env U:=fun e env U h=>yf (fun env U h=>h2 env U h) (fun _ _ _ h=>h) e env U h
 exact⟨J,n,h0,fun n env U hI=>yl x hp (yf (fun _ _ h=>h) (WI key)) (hr n env U hI)⟩
end
def qrS(a b:Nat):qu .mul .u64 a b=some (.int .u64 (a*b%18446744073709551616:Nat)):=by
 refine qvn _ ((a*b/18446744073709551616:Nat):Int) ?_ (qAm _ (by decide));rw[<- qAN];generalize a*b=p;omega
def qvq(a b:Nat):qu .add .u64 a b=some (.int .u64 ((a+b)%18446744073709551616:Nat)):=by
 refine qvp _ (((a+b)/18446744073709551616:Nat):Int) ?_ (qAm _ (by decide));omega
def qvl{a b:Nat}(c:Nat)(h:(c+b)%18446744073709551616=a)(hc:c<18446744073709551616):qu .sub .u64 a b=some (.int .u64 c):=by
 refine qvk _ (-((((c+b)/18446744073709551616:Nat)):Int)) ?_ hc;omega
def qn7(u n q Y r:Nat)(hn:n<4294967296)(h:r+q*Y=u*4294967296+n)(hr:r<18446744073709551616):
 ∃c1 c2 c3:Nat,qu .mul .u64 u 4294967296=some (.int .u64 c1)/\qu .add .u64 c1 n=some (.int .u64 c2)/\qu .mul .u64 q Y=some (.int .u64 c3)/\qu .sub .u64 c2 c3=some (.int .u64 r):=by
 refine⟨_,_,_,qrS u 4294967296,qvq _ _,qrS _ _,qvl _ ?_ hr⟩;generalize q*Y=p at *;omega
def qlM{y1 y0:Nat}(g2:y1<4294967296)(g3:y0<4294967296):y1*4294967296+y0<18446744073709551616/\(y1*4294967296+y0)/4294967296=y1/\(y1*4294967296+y0)%4294967296=y0:=by omega
def qsC{u y1:Nat}(hu:u<18446744073709551616):u/y1*y1<18446744073709551616/\u=u/y1*y1+u%y1:=by
 have h1:=qBV u y1;have h2:=qAQ u y1;rw[qAz]at h2;generalize u/y1*y1=a at *;generalize u%y1=b at *;omega
def qti(hi lo y s y1 y0 u m m1 m0:Nat)(hs2:s<=63)(eY:y*2^s=y1*4294967296+y0)(g1:2147483648<=y1)(g2:y1<4294967296)(g3:y0<4294967296)
 (hm:m<18446744073709551616) (em:m=m1*4294967296+m0) (hm1:m1<4294967296) (hm0:m0<4294967296) (hu:u<y1*4294967296+y0)
 (eu:hi*2^s+lo/2^(64-s)=u) (ht:lo/2^(64-s)<2^s) (eP:lo*2^s%18446744073709551616=m):
 ∃ H t s' Y:Nat,Y=y1*4294967296+y0/\IntKind.u64.wrap (s:Int)=s/\IntKind.u64.wrap ((y:Int)*2^min s IntKind.u64.bits)=Y/\(Y:Int).fdiv 4294967296=y1/\qu .and .u64 Y 4294967295=some (.int .u64 y0) /\
  IntKind.u64.wrap ((hi:Int)*2^min s IntKind.u64.bits)=H/\qu .sub .u64 64 s=some (.int .u64 s')/\(lo:Int).fdiv (2^min s' IntKind.u64.bits)=t/\qu .or .u64 H t=some (.int .u64 u) /\
  IntKind.u64.wrap ((lo:Int)*2^min s IntKind.u64.bits)=m/\(m:Int).fdiv 4294967296=m1/\qu .and .u64 m 4294967295=some (.int .u64 m0)/\qu .quo .u64 u y1=some (.int .u64 (u/y1:Nat)) /\
  ∃A:Nat,qu .mul .u64 (u/y1:Nat) y1=some (.int .u64 A)/\qu .sub .u64 u A=some (.int .u64 (u%y1:Nat)):=by
 obtain⟨l1,l2,l3⟩:=qlM g2 g3;have hu2:u<18446744073709551616:=qBx hu l1;obtain⟨k1,k2⟩:=qsC (y1:=y1) hu2;have h1:m/4294967296=m1:=by rw[em];exact(qlM hm1 hm0).2.1
 have h2:m%4294967296=m0:=by rw[em];exact(qlM hm1 hm0).2.2
 have h3:hi*2^s<18446744073709551616:=qzw (Nat.le.intro eu) hu2;have hy1:0<y1:=qyV (by decide) g1;have hsn:s<18446744073709551616:=qzw hs2 (by decide);refine⟨hi*2^s,lo/2^(64-s),64-s,y1*4294967296+y0,rfl,wru (Int.natCast_nonneg _) (Int.ofNat_lt.2 hsn),qvm _ (qBh hs2) (by rw[eY];exact qAw l1),qaK _ _ l2,qjY _ _ l3,qvm _ (qBh hs2) (qAw h3),?_,qwX _ (Nat.sub_le _ _) rfl,uor s u eu ht hu2,
  qvm _ (qBh hs2) eP,qaK _ _ h1,qjY _ _ h2,qgz u y1 hy1 hu2,_,qhc _ _ _ rfl k1,qrQ _ k2 hu2⟩
 exact qrQ (a:=64) (b:=s) (64-s) (Nat.add_sub_cancel' (qBh hs2)).symm (by decide)
def qqu(hi lo y:Nat)(h0:0<hi)(h1:hi<y)(hy:y<18446744073709551616)(hl:lo<18446744073709551616):
 Pure prog GG 111 [.int .u64 hi,.int .u64 lo,.int .u64 y] (.tup [.int .u64 ((hi*18446744073709551616+lo)/y:Nat),.int .u64 ((hi*18446744073709551616+lo)%y:Nat)]):=by
 obtain⟨s,y1,y0,u,m,m1,m0,hs,hs2,eY,g1,g2,g3,eN,hm,em,hm1,hm0,hu,eu,ht,eP⟩:=qth hi lo y h0 h1 hy hl;obtain⟨H,t,s',Y,hY,w0,f1,f2,f3,f4,f5,f6,f7,f8,f9,f10,f11,A,f12,f13⟩:=qti hi lo y s y1 y0 u m m1 m0 hs2 eY g1 g2 g3 hm em hm1 hm0 hu eu ht eP;have hz:=qkm y s hy (by omega) hs;obtain⟨DQ,hDQ⟩:∃DQ,DQ=(hi*18446744073709551616+lo)/y:=⟨_,rfl⟩;obtain⟨DR,hDR⟩:∃DR,DR=(hi*18446744073709551616+lo)%y:=⟨_,rfl⟩;rw[<- hDQ,<- hDR];refine qCL qe func111 rfl (by kernel_rfl) ?_;have a1:¬y=0:=by omega
 have a2:¬(y:Int)<=hi:=by omega
 have a3:¬(hi:Int)=0:=by omega
 have a4:¬hi=0:=by omega
 have a5:¬(s:Int)<0:=by omega
 have a6:¬(s':Int)<0:=by omega
 clear eu ht eP;have hq0:u/y1*y1+u%y1=u:=by rw[qAz];exact qAQ _ _
 have hr0:u%y1<y1:=qAm _ (by omega);have hle:=qtj (y0:=y0) (u:=u) (n:=m1) (y1:=y1) (by omega) hm1;have hhi:=qtk g1 g3 hu;generalize u/y1=q0 at *;generalize u%y1=r0 at *;simp[-qu,qha,qg9,a1,a2,a3,a4];refine qCO hz (by simp) ?_;simp[-qu,qha,qg9,yS,w0,a5,a6,f1,f2,f3,f4,f5,f6,f7,f8,f9,f10,f11,f12,f13,qpi];refine Wt (fun ev U=>U=⟨[],[]⟩/\ev 2=.int .u64 Y/\ev 8=.int .u64 s/\ev 9=.int .u64 y1/\ev 10=.int .u64 y0/\ev 11=.int .u64 u/\ev 13=.int .u64 m1/\ev 14=.int .u64 m0/\ev 15=.int .u64 ((u*4294967296+m1)/(y1*4294967296+y0):Nat)) ?_ ?_ rfl
 . obtain⟨q1,hQ⟩:∃q1,(u*4294967296+m1)/(y1*4294967296+y0)=q1:=⟨_,rfl⟩;rw[hQ]at hle;rw[hQ];refine qCR (fun n ev U=>U=⟨[],[]⟩/\ev 2=.int .u64 Y/\ev 8=.int .u64 s/\ev 9=.int .u64 y1/\ev 10=.int .u64 y0/\ev 11=.int .u64 u/\ev 13=.int .u64 m1/\ev 14=.int .u64 m0 /\
    ∃r:Nat,ev 15=.int .u64 n/\ev 16=.int .u64 r/\n*y1+r=u/\q1<=n/\n<=4294967297/\r<4294967296) q0 ⟨rfl,by simp,by simp,by simp,by simp,by simp,by simp,by simp,r0,by simp,by simp,hq0,hle,hhi,by omega⟩ ?_
   rintro q ev U R hR ⟨rfl,e2,e8,e9,e10,e11,e13,e14,r,e15,e16,hqr,hq1,hqm,hr⟩;have hask:=qeO (y1:=y1) (y0:=y0) (u:=u) (n:=m1) (q:=q) (r:=r) (by omega) hqr;rw[hQ]at hask;have hql:q1<4294967296:=(by rw[<- hQ];exact qmx hu hm1);obtain⟨rr,hrr⟩:∃rr,rr=r*4294967296:=⟨_,rfl⟩;obtain⟨M,hM⟩:∃M,M=r*4294967296+m1:=⟨_,rfl⟩;obtain⟨N,hN⟩:∃N,N=q*y0:=⟨_,rfl⟩;rw[<- hM,<- hN]at hask;have hrw:qu .mul .u64 4294967296 r=some (.int .u64 rr):=qhc 4294967296 r _ (by omega) (by omega);have hrn:qu .add .u64 rr m1=some (.int .u64 M):=qkG _ _ _ (by omega) (by omega);have dec:q1<q->∃k r2:Nat,k<q/\qu .sub .u64 q 1=some (.int .u64 k)/\qu .add .u64 r y1=some (.int .u64 r2)/\k*y1+r2=u/\q1<=k/\k<=4294967297/\(4294967296<=r2->k=q1):=by
    intro hlt;obtain⟨k,rfl⟩:∃k,q=k+1:=⟨q-1,by omega⟩;rw[qzr,qBo]at hqr;have hk2:=qeO (y1:=y1) (y0:=y0) (u:=u) (n:=m1) (q:=k) (r:=r+y1) (by omega) (by omega);rw[hQ]at hk2;have hk3:k*y0<=4294967296*4294967295:=qzY (by omega) (by omega);refine⟨k,r+y1,by omega,qrQ (b:=1) k (by omega) (by omega),qkG _ _ _ rfl (by omega),by omega,by omega,by omega,fun hr2=>?_⟩;by_cases hx:q1<k
    . have:=hk2.2 hx;generalize k*y0=z at *;omega
    omega
   by_cases cA:4294967296<=q
   . obtain⟨k,r2,hkq,d1,d2,d3,d4,d5,d6⟩:=dec (by omega);have cA':(4294967296:Int)<=q:=(by omega);have cA2:¬(q:Int)<4294967296:=(by omega);by_cases cR:4294967296<=r2
     . have cR':(4294967296:Int)<=r2:=(by omega);simp[-qu,Qn,Qm,e2,e8,e9,e10,e11,e13,e14,e15,e16,cA',cA2,d1,d2,cR'];rw[d6 cR]
     have cR':¬(4294967296:Int)<=r2:=(by omega);simp[-qu,Qn,Qm,e2,e8,e9,e10,e11,e13,e14,e15,e16,cA',cA2,d1,d2,cR'];exact hR k _ _ hkq ⟨rfl,by simp[e2],by simp[e8],by simp[e9],by simp[e10],by simp[e11],by simp[e13],by simp[e14],r2,by simp,by simp,d3,d4,d5,by omega⟩
   have cA':¬(4294967296:Int)<=q:=(by omega);have cA2:(q:Int)<4294967296:=(by omega);have hqy:qu .mul .u64 q y0=some (.int .u64 N):=qhc _ _ _ hN.symm (by rw[hN];exact qzw (qzY (show q<=4294967296 by omega) (show y0<=4294967295 by omega)) (by decide));by_cases cB:M<N
   . obtain⟨k,r2,hkq,d1,d2,d3,d4,d5,d6⟩:=dec (hask.1 cB);have cB':(M:Int)<N:=Int.ofNat_lt.2 cB;by_cases cR:4294967296<=r2
     . have cR':(4294967296:Int)<=r2:=(by omega);simp[-qu,Qn,Qm,e2,e8,e9,e10,e11,e13,e14,e15,e16,cA',cA2,hqy,hrw,hrn,cB',d1,d2,cR'];rw[d6 cR]
     have cR':¬(4294967296:Int)<=r2:=(by omega);simp[-qu,Qn,Qm,e2,e8,e9,e10,e11,e13,e14,e15,e16,cA',cA2,hqy,hrw,hrn,cB',d1,d2,cR'];exact hR k _ _ hkq ⟨rfl,by simp[e2],by simp[e8],by simp[e9],by simp[e10],by simp[e11],by simp[e13],by simp[e14],r2,by simp,by simp,d3,d4,d5,by omega⟩
   have hfin:q=q1:=(by have:=mt hask.2 cB;omega);have cB':¬(M:Int)<N:=fun h=>cB (Int.ofNat_lt.1 h)
   simp[-qu,Qn,Qm,e2,e8,e9,e10,e11,e13,e14,e15,e16,cA',cA2,hqy,hrw,hrn,cB'];exact congrArg _ hfin
 rintro ev U ⟨rfl,e2,e8,e9,e10,e11,e13,e14,e15⟩;have hYp:0<y1*4294967296+y0:=by omega
 obtain⟨q1,hq1⟩:∃q1,q1=(u*4294967296+m1)/(y1*4294967296+y0):=⟨_,rfl⟩;obtain⟨u2,hu2⟩:∃u2,u2=(u*4294967296+m1)%(y1*4294967296+y0):=⟨_,rfl⟩;have hdm:u2+q1*(y1*4294967296+y0)=u*4294967296+m1:=by rw[hu2];exact qi8 hq1
 have hul:u2<y1*4294967296+y0:=by rw[hu2];exact qAm _ hYp
 have hYl:=(qlM g2 g3).1;rw[<- hq1]at e15;have hql:q1<4294967296:=by rw[hq1];exact qmx hu hm1
 obtain⟨c1,c2,c3,k1,k2,k3,k4⟩:=qn7 u m1 q1 Y u2 hm1 (by rw[hY];exact hdm) (qBx hul hYl);have hul2:u2<18446744073709551616:=qBx hul hYl;have f11':=qgz u2 y1 (by omega) hul2;obtain⟨l1,l2⟩:=qsC (y1:=y1) hul2;have f12':=qhc (u2/y1) y1 _ rfl l1;have f13':=qrQ _ l2 hul2;have hq0':u2/y1*y1+u2%y1=u2:=l2.symm;have hr0':u2%y1<y1:=qAm _ (by omega);have hle':=qtj (y0:=y0) (u:=u2) (n:=m0) (y1:=y1) (by omega) hm0;have hhi':=qtk g1 g3 hul;generalize u2/y1*y1=A2 at f12' f13';generalize u2/y1=q02 at *;generalize u2%y1=r02 at *;simp[-qu,e2,e8,e9,e10,e11,e13,e14,e15,k1,k2,k3,k4,f11',f12',f13'];refine Wt (fun ev U=>U=⟨[],[]⟩/\ev 2=.int .u64 Y/\ev 8=.int .u64 s/\ev 14=.int .u64 m0/\ev 15=.int .u64 q1/\ev 17=.int .u64 u2/\ev 18=.int .u64 ((u2*4294967296+m0)/(y1*4294967296+y0):Nat)) ?_ ?_ rfl
 . obtain⟨Q0,hQ2⟩:∃Q0,(u2*4294967296+m0)/(y1*4294967296+y0)=Q0:=⟨_,rfl⟩;rw[hQ2]at hle';rw[hQ2];refine qCR (fun n ev U=>U=⟨[],[]⟩/\ev 2=.int .u64 Y/\ev 8=.int .u64 s/\ev 9=.int .u64 y1/\ev 10=.int .u64 y0/\ev 17=.int .u64 u2/\ev 14=.int .u64 m0/\ev 15=.int .u64 q1 /\
    ∃r:Nat,ev 18=.int .u64 n/\ev 16=.int .u64 r/\n*y1+r=u2/\Q0<=n/\n<=4294967297/\r<4294967296) q02 ⟨rfl,by simp[e2],by simp[e8],by simp[e9],by simp[e10],by simp,by simp[e14],by simp[e15],r02,by simp,by simp,hq0',hle',hhi',by omega⟩ ?_
   rintro q ev U R hR ⟨rfl,e2,e8,e9,e10,e17,e14,e15,r,e18,e16,hqr,hQ1,hqm,hr⟩;have hask:=qeO (y1:=y1) (y0:=y0) (u:=u2) (n:=m0) (q:=q) (r:=r) (by omega) hqr;rw[hQ2]at hask;have hQl:Q0<4294967296:=(by rw[<- hQ2];exact qmx hul hm0);obtain⟨rr,hrr⟩:∃rr,rr=r*4294967296:=⟨_,rfl⟩;obtain⟨M,hM⟩:∃M,M=r*4294967296+m0:=⟨_,rfl⟩;obtain⟨N,hN⟩:∃N,N=q*y0:=⟨_,rfl⟩;rw[<- hM,<- hN]at hask;have hrw:qu .mul .u64 4294967296 r=some (.int .u64 rr):=qhc 4294967296 r _ (by omega) (by omega);have hrn:qu .add .u64 rr m0=some (.int .u64 M):=qkG _ _ _ (by omega) (by omega);have dec:Q0<q->∃k r2:Nat,k<q/\qu .sub .u64 q 1=some (.int .u64 k)/\qu .add .u64 r y1=some (.int .u64 r2)/\k*y1+r2=u2/\Q0<=k/\k<=4294967297/\(4294967296<=r2->k=Q0):=by
    intro hlt;obtain⟨k,rfl⟩:∃k,q=k+1:=⟨q-1,by omega⟩;rw[qzr,qBo]at hqr;have hk2:=qeO (y1:=y1) (y0:=y0) (u:=u2) (n:=m0) (q:=k) (r:=r+y1) (by omega) (by omega);rw[hQ2]at hk2;have hk3:k*y0<=4294967296*4294967295:=qzY (by omega) (by omega);refine⟨k,r+y1,by omega,qrQ (b:=1) k (by omega) (by omega),qkG _ _ _ rfl (by omega),by omega,by omega,by omega,fun hr2=>?_⟩;by_cases hx:Q0<k
    . have:=hk2.2 hx;generalize k*y0=z at *;omega
    omega
   by_cases cA:4294967296<=q
   . obtain⟨k,r2,hkq,d1,d2,d3,d4,d5,d6⟩:=dec (by omega);have cA':(4294967296:Int)<=q:=(by omega);have cA2:¬(q:Int)<4294967296:=(by omega);by_cases cR:4294967296<=r2
     . have cR':(4294967296:Int)<=r2:=(by omega);simp[-qu,Qn,Qm,e2,e8,e9,e10,e17,e14,e15,e18,e16,cA',cA2,d1,d2,cR'];rw[d6 cR]
     have cR':¬(4294967296:Int)<=r2:=(by omega);simp[-qu,Qn,Qm,e2,e8,e9,e10,e17,e14,e15,e18,e16,cA',cA2,d1,d2,cR'];exact hR k _ _ hkq ⟨rfl,by simp[e2],by simp[e8],by simp[e9],by simp[e10],by simp[e17],by simp[e14],by simp[e15],r2,by simp,by simp,d3,d4,d5,by omega⟩
   have cA':¬(4294967296:Int)<=q:=(by omega);have cA2:(q:Int)<4294967296:=(by omega);have hqy:qu .mul .u64 q y0=some (.int .u64 N):=qhc _ _ _ hN.symm (by rw[hN];exact qzw (qzY (show q<=4294967296 by omega) (show y0<=4294967295 by omega)) (by decide));by_cases cB:M<N
   . obtain⟨k,r2,hkq,d1,d2,d3,d4,d5,d6⟩:=dec (hask.1 cB);have cB':(M:Int)<N:=Int.ofNat_lt.2 cB;by_cases cR:4294967296<=r2
     . have cR':(4294967296:Int)<=r2:=(by omega);simp[-qu,Qn,Qm,e2,e8,e9,e10,e17,e14,e15,e18,e16,cA',cA2,hqy,hrw,hrn,cB',d1,d2,cR'];rw[d6 cR]
     have cR':¬(4294967296:Int)<=r2:=(by omega);simp[-qu,Qn,Qm,e2,e8,e9,e10,e17,e14,e15,e18,e16,cA',cA2,hqy,hrw,hrn,cB',d1,d2,cR'];exact hR k _ _ hkq ⟨rfl,by simp[e2],by simp[e8],by simp[e9],by simp[e10],by simp[e17],by simp[e14],by simp[e15],r2,by simp,by simp,d3,d4,d5,by omega⟩
   have hfin:q=Q0:=(by have:=mt hask.2 cB;omega);have cB':¬(M:Int)<N:=fun h=>cB (Int.ofNat_lt.1 h)
   simp[-qu,Qn,Qm,e2,e8,e9,e10,e17,e14,e15,e18,e16,cA',cA2,hqy,hrw,hrn,cB'];exact congrArg _ hfin
 rintro ev U ⟨rfl,e2,e8,e14,e15,e17,e18⟩;obtain⟨Q0,hQ0⟩:∃Q0,Q0=(u2*4294967296+m0)/(y1*4294967296+y0):=⟨_,rfl⟩;obtain⟨R,hR⟩:∃R,R=(u2*4294967296+m0)%(y1*4294967296+y0):=⟨_,rfl⟩;have hdm2:R+Q0*(y1*4294967296+y0)=u2*4294967296+m0:=by rw[hR];exact qi8 hQ0
 have hRl:R<y1*4294967296+y0:=by rw[hR];exact qAm _ hYp
 rw[<- hQ0]at e18;have hQl:Q0<4294967296:=by rw[hQ0];exact qmx hul hm0
 obtain⟨b1,b2,b3,j1,j2,j3,j4⟩:=qn7 u2 m0 Q0 Y R hm0 (by rw[hY];exact hdm2) (qBx hRl hYl);obtain⟨z,hz2⟩:∃z,z=q1*4294967296:=⟨_,rfl⟩;have x1:qu .mul .u64 q1 4294967296=some (.int .u64 z):=qhc q1 4294967296 z hz2.symm (by omega);have x2:=qkG z Q0 (z+Q0) rfl (by omega);have x3:=qwX (a:=R) (s:=s) _ (by omega) rfl;have hJ:=qi9 (a:=u*4294967296+m1) (m:=m0) (B:=4294967296) hYp;rw[<- hq1,<- hu2,<- hQ0,<- hR,show(u*4294967296+m1)*4294967296+m0=(hi*18446744073709551616+lo)*2^s by rw[eN];omega,<- eY]at hJ;have hS:=qmw (y:=y) (u:=hi*18446744073709551616+lo) (k:=2^s) (qAi s);rw[hS.1,<- hz2]at hJ;rw[hJ.1,<- hDQ]at x2;have hR2:R/2^s=DR:=by rw[hJ.2,hS.2,<- hDR]
 rw[hR2]at x3;simp[-qu,e2,e8,e14,e15,e17,e18,j1,j2,j3,j4,x1,x2,a5];exact x3
def qoa(hi lo y:Nat)(h1:hi<y)(hy:y<18446744073709551616)(hl:lo<18446744073709551616):
 Pure prog GG 111 [.int .u64 hi,.int .u64 lo,.int .u64 y] (.tup [.int .u64 ((hi*18446744073709551616+lo)/y:Nat),.int .u64 ((hi*18446744073709551616+lo)%y:Nat)]):=by
 by_cases h0:hi=0
 . subst h0;rw[qAl,qz9];exact qqt lo y h1 hy hl
 exact qqu hi lo y (qAK h0) h1 hy hl
def qoh(x y c:Nat)(hc:c<=1)(w:World):
 (callFunc 108 #[.int .u64 x,.int .u64 y,.int .u64 c]).run prog w =
   .ok (.value (.tuple #[.int .u64 (((x+y+c)%18446744073709551616:Nat):Int),.int .u64 (((x+y+c)/18446744073709551616:Nat):Int)])) w:=by
 rw[run_callFunc_extern func108 (by kernel_rfl) (by kernel_rfl) (by kernel_rfl) (e:=add64Entry) (by kernel_rfl),run_add64 x y c (by omega) (by omega) (by omega) (by omega)];simp only[Result.andThen];congr 5<;>omega
def WW(w:World)(o):(w.alloc o).heap.size=w.heap.size+1:=Array.size_push ..
def qgs{w w':World}(h:Below w.heap.size w w'){p:Addr}{v}(e:w.cell? p=some v):w'.cell? p=some v:=by
 obtain⟨_,_,hsh,_,_⟩:=World.shape?_of_cell? e;have hlt:p.block<w.heap.size:=by
  by_cases hx:p.block<w.heap.size
  . exact hx
  simp[World.shape?,hx]at hsh
 rw[h.cell hlt,e]
def qqF(ah al bh bl lo c hi c2:Nat)(w:World)(hc:c<=1)(e1:(al+bl)%18446744073709551616=lo)(e2:(al+bl)/18446744073709551616=c)(e3:(ah+bh+c)%18446744073709551616=hi)(e4:(ah+bh+c)/18446744073709551616=c2):
 Calls prog 63 #[.agg #[.bool false,.int .u64 ah,.int .u64 al],.agg #[.bool false,.int .u64 bh,.int .u64 bl]] w fun e w'=>
  e=.returned (.agg #[.bool false,.int .u64 hi,.int .u64 lo])/\Below w.heap.size w w':=by
 have A1:∀w,(callFunc 108 #[.int .u64 al,.int .u64 bl,.int .u64 0]).run prog w=.ok (.value (.tuple #[.int .u64 lo,.int .u64 c])) w:=fun w=>by
  have:=qoh al bl 0 (by omega) w;rw[qz8,e1,e2]at this;exact this
 have A2:∀w,(callFunc 108 #[.int .u64 ah,.int .u64 bh,.int .u64 c]).run prog w=.ok (.value (.tuple #[.int .u64 hi,.int .u64 c2])) w:=fun w=>by
  have:=qoh ah bh c hc w;rw[e3,e4]at this;exact this
 clear e1 e2 e3 e4
 go_enter func63,Tryz.ntmps63
 go_wp2
 refine⟨rfl,.agg #[.bool false,.int .u64 hi,.int .u64 lo],?_,rfl,?_⟩
 . simp[results,Tryz.results63,go_sem]
 exact(((Below.refl _ _).alloc (qyQ _) _).alloc (by rw[WW];exact Nat.le_succ _) _).alloc (by rw[WW,WW];exact qBh (Nat.le_succ _)) _
def qsg(ah al bh bl lo c hi c2:Nat)(hc:c<=1)(e1:(al+bl)%18446744073709551616=lo)(e2:(al+bl)/18446744073709551616=c)(e3:(ah+bh+c)%18446744073709551616=hi)(e4:(ah+bh+c)/18446744073709551616=c2)(G:Nat->AV):
 Pure prog G 63 [.agg [.bool false,.int .u64 ah,.int .u64 al],.agg [.bool false,.int .u64 bh,.int .u64 bl]] (.agg [.bool false,.int .u64 hi,.int .u64 lo]):=by
 refine⟨by kernel_rfl,fun w0 ro vs hg hro hvs=>?_⟩;simp only[qh,qg]at hvs;obtain⟨v,vr,e0,⟨cs,rfl,x0,xr,f1,rfl,x1,xr1,rfl,rfl,x2,xr2,rfl,rfl,rfl⟩,v2,vr2,rfl,⟨ds,rfl,y0,yr,g1,rfl,y1,yr1,rfl,rfl,y2,yr2,rfl,rfl,rfl⟩,rfl⟩:=hvs;have ecs:cs = #[.bool false,.int .u64 ah,.int .u64 al]:=by apply Array.ext';simpa using f1
 have eds:ds = #[.bool false,.int .u64 bh,.int .u64 bl]:=by apply Array.ext';simpa using g1
 subst ecs eds;have evs:vs = #[.agg #[.bool false,.int .u64 ah,.int .u64 al],.agg #[.bool false,.int .u64 bh,.int .u64 bl]]:=by apply Array.ext';simpa using e0
 subst evs;refine(qqF ah al bh bl lo c hi c2 w0 hc e1 e2 e3 e4).mono ?_;rintro e w' ⟨rfl,hb⟩;exact⟨_,ro,rfl,hb,fun _ _ _ h=>h,fun b o v h=>qgs hb (hro b o v h),fun _ _ _ h _=>h,by simp[qg,qh]⟩
@[simp]def qyE:Dof prog 106=some ({size:=3,bytes:=24,zero:=[AV.bool false,AV.int IntKind.u64 0,AV.int IntKind.u64 0],zv:=AV.agg [AV.bool false,AV.int IntKind.u64 0,AV.int IntKind.u64 0],d:=TD.st [(0,4),(1,90),(2,90)],cmp:=true}:TI):=by kernel_rfl
def qhe(n b hi lo:Nat)(hn:n<9223372036854775808)(hb:b<18446744073709551616)(e:n*b=18446744073709551616*hi+lo)(hl:lo<18446744073709551616):
 Pure prog GG 62 [.int .i64 n,.int .u64 b] (.agg [.bool false,.int .u64 hi,.int .u64 lo]):=by
 refine qCL qe func62 rfl (by kernel_rfl) ?_;have hz:=W4 n hn;have hm:=YH n b hi lo (by omega) hb e hl;have h0:¬(n:Int)<0:=by omega
 clear e;simp;refine qCO hz (by simp) ?_;simp;refine qCO hm (by simp) ?_;simp[h0]
def qxs(hi lo d q1 q0 r1 r:Nat)(hh:hi<18446744073709551616)(hl:lo<18446744073709551616)(hd:d<18446744073709551616)(h0:0<d)(e1:hi/d=q1)(e2:hi%d=r1)(e3:(r1*18446744073709551616+lo)/d=q0)(e4:(r1*18446744073709551616+lo)%d=r):
 Pure prog GG 64 [.agg [.bool false,.int .u64 hi,.int .u64 lo],.int .u64 d] (.tup [.agg [.bool false,.int .u64 q1,.int .u64 q0],.int .u64 r]):=by
 have d1:=qoa 0 hi d h0 hd hh;rw[qAl,qz9,e1,e2]at d1;have d2:=qoa r1 lo d (by rw[<- e2];exact qAm _ h0) hd hl;rw[e3,e4]at d2;clear e1 e2 e3 e4;refine qCL qe func64 rfl (by kernel_rfl) ?_;simp;refine qCO d1 (by simp) ?_;simp;refine qCO d2 (by simp) ?_;simp
def qdZ(n:Nat):∃h l:Nat,n=18446744073709551616*h+l/\l<18446744073709551616/\h=n/18446744073709551616/\l=n%18446744073709551616:=⟨_,_,(qAQ _ _).symm,qAm _ (by decide),rfl,rfl⟩
def qhR{p ph pl r rh rl n nh nl:Nat}(e1:p=18446744073709551616*ph+pl)(e2:pl<18446744073709551616)(e3:r=18446744073709551616*rh+rl)(e4:rl<18446744073709551616)(e5:n=18446744073709551616*nh+nl)(e6:nl<18446744073709551616)
 (e7:n=p+r) (e8:nh<18446744073709551616):∃c c2:Nat,c<=1/\(pl+rl)%18446744073709551616=nl/\(pl+rl)/18446744073709551616=c/\(ph+rh+c)%18446744073709551616=nh/\(ph+rh+c)/18446744073709551616=c2:=by
 refine⟨(pl+rl)/18446744073709551616,_,?_,?_,rfl,?_,rfl⟩<;>omega
def qa2{n nh nl g:Nat}(hg:0<g)(e5:n=18446744073709551616*nh+nl)(e6:nl<18446744073709551616):∃q1 r1 q0 r:Nat,nh/g=q1/\nh%g=r1/\(r1*18446744073709551616+nl)/g=q0/\(r1*18446744073709551616+nl)%g=r/\n/g=q1*18446744073709551616+q0/\n%g=r/\q0<18446744073709551616:=by
 have:=qi9 (a:=nh) (m:=nl) (B:=18446744073709551616) hg;refine⟨_,_,_,_,rfl,rfl,rfl,rfl,?_,?_,?_⟩
 . rw[this.1,e5,qAz]
 . rw[this.2,e5,qAz]
 rw[qAr hg];have:=qAm nh hg;generalize nh%g=x at *;obtain⟨k,rfl⟩:∃k,g=x+1+k:=⟨g-x-1,by omega⟩;rw[qBp,qBp];omega
def qsM(a b c d:Nat)(ha:a<9223372036854775808)(hb:b<9223372036854775808)(h0:0<b)(hc:c<9223372036854775808)(hd:d<9223372036854775808)(h1:0<d):
 Pure prog GG 30 [.agg [.int .i64 a,.int .i64 b],.agg [.int .i64 c,.int .i64 d],.bool false] (.tup [.agg [.int .i64 (ko a b c d).1,.int .i64 (ko a b c d).2.1],.int .i64 (ko a b c d).2.2]):=by
 have hg:0<Nat.gcd b d:=qBe _ h0;have hgd:Nat.gcd b d<=b:=Nat.gcd_le_left _ h0;have gc1:=Yo d b (by omega) (by omega);have v1:=qgz b _ hg (by omega);have v2:=qgz d _ hg (by omega);have l1:b/Nat.gcd b d<=b:=qzI _ _;have l2:d/Nat.gcd b d<=d:=qzI _ _;have hh0:0<kx a b c d:=qBe _ hg;have hhl:kx a b c d<=Nat.gcd b d:=Nat.gcd_le_left _ hg;have v3:=qgz d _ hh0 (by omega);have l3:d/kx a b c d<=d:=qzI _ _;have eN:vS a b c d=a*(d/Nat.gcd b d)+c*(b/Nat.gcd b d):=rfl;have eH:kx a b c d=Nat.gcd (Nat.gcd b d) (vS a b c d%Nat.gcd b d):=rfl;have eD:Ks a b c d=(b/Nat.gcd b d)*(d/kx a b c d):=rfl;have hD0:0<Ks a b c d:=by
  rw[eD];refine qAZ (qAY hgd hg) (qAY ?_ hh0);exact qzs hhl (Nat.gcd_le_right _ h1)
 have gc2:=Yo (vS a b c d%Nat.gcd b d) (Nat.gcd b d) (by omega) (qBx (qAm _ hg) (by omega));rw[<- eH]at gc2;have m1:a*(d/Nat.gcd b d)<=9223372036854775807*9223372036854775807:=qzY (by omega) (by omega);have m2:c*(b/Nat.gcd b d)<=9223372036854775807*9223372036854775807:=qzY (by omega) (by omega);unfold ko;generalize Ks a b c d=Dn at *;generalize kx a b c d=h at *;generalize vS a b c d=N at *;generalize Nat.gcd b d=g at *;generalize b/g=B at *;generalize d/g=D at *;generalize d/h=Dh at *;obtain⟨ph,pl,p1,p2,_,_⟩:=qdZ (a*D);obtain⟨rh,rl,r1,r2,_,_⟩:=qdZ (c*B);obtain⟨nh,nl,n1,n2,_,_⟩:=qdZ N;obtain⟨dh,dl,d1,d2,_,_⟩:=qdZ Dn;have hnh:nh<18446744073709551616:=by omega
 have t1:=qhe a D ph pl ha (by omega) p1 p2;have t2:=qhe c B rh rl hc (by omega) r1 r2;obtain⟨c1,c2,s1,s2,s3,s4,s5⟩:=qhR p1 p2 r1 r2 n1 n2 eN hnh;have hpl:=qsg ph pl rh rl nl c1 nh c2 s1 s2 s3 s4 s5 GG;obtain⟨q1,x1,q0,rst,y1,y2,y3,y4,y5,y6,_⟩:=qa2 hg n1 n2;have bg:=qxs nh nl g q1 q0 x1 rst hnh n2 (by omega) hg y1 y2 y3 y4;rw[y6]at gc2;obtain⟨k1,w1,k0,rst2,z1,z2,z3,z4,z5,z6,hk0⟩:=qa2 hh0 n1 n2;have bh:=qxs nh nl h k1 k0 w1 rst2 hnh n2 (by omega) hh0 z1 z2 z3 z4;have mD:=YH B Dh dh dl (by omega) (by omega) (by rw[<- eD];exact d1) d2;have cb:IntKind.u64.wrap (b:Int)=b:=wru (by omega) (by omega);have cd:IntKind.u64.wrap (d:Int)=d:=wru (by omega) (by omega);refine qCL qe func30 rfl (by kernel_rfl) ?_;clear p1 r1 eN s2 s3 s4 s5 y1 y2 y3 y4 y5 y6 z1 z2 z3 z4 z6 m1 m2 eD eH n1 n2 hnh p2 r2;simp[-qu]
 try rw[QC (by rfl)]
 simp[-qu,yS,cb,cd];refine qCO gc1 (by simp) ?_;simp[-qu,v1,v2,v3];refine qCO t2 (by simp) ?_;simp[-qu,v1,v2,v3];refine qCO t1 (by simp) ?_;simp[-qu,v1,v2,v3];refine qCO hpl (by simp) ?_;simp[-qu,v1,v2,v3];refine qCO bg (by simp) ?_;simp[-qu,v1,v2,v3];refine qCO gc2 (by simp) ?_;simp[-qu,v1,v2,v3];refine qCO bh (by simp) ?_;simp[-qu,v1,v2,v3];refine qCO mD (by simp) ?_;by_cases n0:k1=0
 . by_cases n1:dh=0
   . subst n0 n1;have e1:N/h=k0:=(by omega);have e2:Dn=dl:=(by omega);subst e1 e2;have hre:=Zz (N/h) Dn hk0 d2 hD0;have hra:=qhF (N/h/Nat.gcd (N/h) Dn) (Dn/Nat.gcd (N/h) Dn) (qzw (qzI _ _) hk0) (qzw (qzI _ _) d2);rw[if_pos ⟨hk0,d2⟩];generalize N/h/Nat.gcd (N/h) Dn=X at *;generalize Dn/Nat.gcd (N/h) Dn=Y at *;generalize N/h=Z at *;generalize V7 X Y=rs at *;simp;refine qCO hre (by simp) ?_;simp;refine qCO hra (by simp) ?_;simp
   . rw[if_neg (by omega)];simp[n0,n1]
 rw[if_neg (by omega)];simp[n0]
def qwQ(a b c d:Nat)(ha:a<9223372036854775808)(hb:b<9223372036854775808)(h0:0<b)(hab:Nat.gcd a b=1)(hc:c<9223372036854775808)(hd:d<9223372036854775808)(h1:0<d)(hcd:Nat.gcd c d=1):
 Pure prog GG 10 [.agg [.int .i64 a,.int .i64 b],.agg [.int .i64 c,.int .i64 d]] (.tup [.agg [.int .i64 (ko a b c d).1,.int .i64 (ko a b c d).2.1],.int .i64 (ko a b c d).2.2]):=by
 have hb2:=qjD a b c d ha hb h0 hab hc hd h1 hcd;have hj:=qsM a b c d ha hb h0 hc hd h1;generalize ko a b c d=q at *;refine qCL qe func10 rfl (by kernel_rfl) ?_;simp;refine qCO hb2 (by simp) ?_;simp;refine qCO hj (by simp) ?_;simp
structure SmH(p:Problem)(all:List (List Int))(pr:List Int->Nat×Nat×Int)(sat:List Int->Bool)(Inv:Nat->Nat->List (List Int)->Prop):Prop where
 fit:Pure prog GG 7 [.agg (qA p),.sl 1 [] .none] (.sl 1 ((all.head?.getD []).map qq) .none)
 prob:∀a∈all,Pure prog GG 8 [.agg (qA p),.sl 1 (a.map qq) .none] (.tup [.agg [.int .i64 ((pr a).1:Nat),.int .i64 ((pr a).2.1:Nat)],.int .i64 (pr a).2.2])
 sol:∀a∈all,Pure prog GG 9 [.agg (qA p),.sl 1 (a.map qq) .none] (.bool (sat a))
 nx:∀a L,(a::L) <:+ all->Pure prog GG 11 [.agg (qA p),.sl 1 (a.map qq) .none] (.tup [.sl 1 ((L.head?.getD []).map qq) .none,.bool (!L.isEmpty)])
 ne:all≠[]
 len:all.length<1099511627776
 perr:∀a∈all,(pr a).2.2=0\/(pr a).2.2=3
 piff:∀a∈all,(pr a).2.2=0->(0<(pr a).1↔sat a=true)
 pok:∀a∈all,(pr a).2.2=0->(pr a).1<9223372036854775808/\(pr a).2.1<9223372036854775808/\0<(pr a).2.1/\Nat.gcd (pr a).1 (pr a).2.1=1
 i0:Inv 0 1 all
 iok:∀x y L,Inv x y L->x<9223372036854775808/\y<9223372036854775808/\0<y/\Nat.gcd x y=1
 istep:∀x y a L,(a::L) <:+ all->Inv x y (a::L)->(pr a).2.2=0->(ko x y (pr a).1 (pr a).2.1).2.2=0->Inv (ko x y (pr a).1 (pr a).2.1).1 (ko x y (pr a).1 (pr a).2.1).2.1 L
 iend:∀x y,Inv x y []->x=1/\y=1
 ae:∀x y c d,(ko x y c d).2.2=0\/(ko x y c d).2.2=3
def SmI(p:Problem)(all:List (List Int))(sat:List Int->Bool)(Inv:Nat->Nat->List (List Int)->Prop)(m:Nat)(ev:Env)(U:St):Prop :=
 ∃ (L:List (List Int)) (x y:Nat) (W:List Blk),m=L.length/\L <:+ all/\ev 1=.ptr 0 0/\ev 5=.ptr 1 0/\ev 3=.int .i64 (L.countP sat:Nat)/\ev 7=.bool (!L.isEmpty)/\Inv x y L /\
  ev 6=.sl 1 ((L.head?.getD []).map qq) .none/\U=⟨.cells (qA p)::.cells [.int .i64 x,.int .i64 y]::W,[]⟩
def qhg{p all pr sat Inv}{sq:Bool}{e:Int}{N:Nat}(wk:Pure prog GG 5 [] (.bool true))(H:sq=true->e=0->SmH p all pr sat Inv)(hs:Pure prog GG 4 [.agg (qA p),.int .i64 6] (.bool sq))
 (s1:sq=true->Pure prog GG 6 [.agg (qA p)] (.tup [.int .i64 N,.int .i64 e])) (hN:sq=true->e=0->N=all.countP sat) (hN2:sq=true->e≠0->N=0):
 Pure prog GG 3 [.agg (qA p)] (.bool true):=by
 refine qCL qe func3 rfl (by kernel_rfl) ?_;simp only[qA]at hs s1;simp;refine qCO hs (by simp) ?_
 cases sq with
 | false=>
  simp[unA];refine qCO wk rfl ?_;simp
 | true=>
  simp[unA];refine qCO (s1 rfl) (by simp) ?_;by_cases he:e=0
  case neg=>
   have h0:=hN2 rfl he;subst h0;simp[he];refine qCO wk rfl ?_;simp
  subst he;have H:=H rfl rfl;have s2:=H.fit;simp only[qA]at s2;have hN:=hN rfl rfl;subst hN;simp;refine qc.less s2 (by simp) (by simp[zq,Leq]) ?_;simp;refine qCR (SmI p all sat Inv) all.length ⟨all,0,1,[],rfl,List.suffix_refl _,by simp,by simp,by simp,by simp[H.ne],H.i0,by simp,by simp[qA]⟩ ?_;rintro m ev U R hR ⟨L,x,y,W,rfl,hsf,e1,e5,e3,e7,hI,e6,rfl⟩;obtain⟨x1,x2,x3,x4⟩:=H.iok x y L hI
  cases L with
  | nil=>
   obtain⟨rfl,rfl⟩:=H.iend x y hI;simp[e1,e5,e3,e7,qiZ];refine qCO wk rfl ?_;simp
  | cons a L=>
   have ha:a∈all:=hsf.subset (qAu ..);have p1:=H.prob a ha;have p2:=H.perr a ha;have p3:=H.piff a ha;have p4:=H.pok a ha;have p5:=H.sol a ha;have p6:=H.nx a L hsf;have p7:=H.istep x y a L hsf hI;have hct:(a::L).countP sat=L.countP sat+if sat a=true then 1 else 0:=qCg ..
   have hcl:L.countP sat<=L.length:=qCw;have hLl:=hsf.length_le;have hal:=H.len;rw[qyY]at hLl;rw[hct]at e3;simp only[List.head?_cons,Option.getD_some]at e6;simp only[List.isEmpty_cons,qBW]at e7;have ae:=H.ae x y (pr a).1 (pr a).2.1;have hadd:=fun h=>qwQ x y (pr a).1 (pr a).2.1 x1 x2 x3 x4 (p4 h).1 (p4 h).2.1 (p4 h).2.2.1 (p4 h).2.2.2
   generalize pr a=q0 at p1 p2 p3 p4 p7 ae hadd;obtain⟨n,d,er⟩:=q0;simp only at p1 p2 p3 p4 p5 p6 p7 ae hadd;generalize ko x y n d=q at p7 ae hadd;obtain⟨u,v,f⟩:=q;simp only at p7 ae hadd;simp only[qA]at p1 p5 p6;generalize hC:L.countP sat=C at e3 hcl;simp[e1,e5,e3,e7,e6];refine qCO p1 (by simp) ?_;rcases p2 with p2|p2
   case inr=>
    subst p2;simp;refine qCO wk rfl ?_;simp
   subst p2;have p4:=p4 rfl;have p3:=p3 rfl;have p7:=p7 rfl;have hadd:=hadd rfl;obtain⟨q1,q2,q3,q4⟩:=p4;have hn0:¬(n:Int)<0:=(by omega)
   cases hsat:sat a with
   | true=>
    have hn1:0<n:=p3.2 hsat;rw[hsat]at p5 e3;have hw:=wr (n:=(C:Int)) (by omega) (by omega);simp[e1,e5,e3,e7,e6];refine qCO p5 (by simp) ?_;simp[e1,e5,e3,e7,e6,hn1,hn0,hw];refine qCO hadd (by simp) ?_;rcases ae with rfl|rfl
    case inr=>
     simp;refine qCO wk rfl ?_;simp
    simp[e1,e5,e3,e7,e6,hw];refine qCO p6 (by simp) ?_;simp[e1,e5,e3,e7,e6,hw];exact hR L.length _ _ (by simp) ⟨L,u,v,_,rfl,(List.suffix_cons a L).trans hsf,by simp[e1],by simp[e5],by simp[e3,hC,hw],by simp,p7 rfl,by simp,by simp[qA];rfl⟩
   | false=>
    have hn1:¬0<n:=fun e=>by rw[p3.1 e]at hsat;cases hsat
    rw[hsat]at p5 e3;simp[e1,e5,e3,e7,e6];refine qCO p5 (by simp) ?_;simp[e1,e5,e3,e7,e6,hn1,hn0];refine qCO hadd (by simp) ?_;rcases ae with rfl|rfl
    case inr=>
     simp;refine qCO wk rfl ?_;simp
    simp[e1,e5,e3,e7,e6];refine qCO p6 (by simp) ?_;simp[e1,e5,e3,e7,e6];exact hR L.length _ _ (by simp) ⟨L,u,v,_,rfl,(List.suffix_cons a L).trans hsf,by simp[e1],by simp[e5],by simp[e3,hC],by simp,p7 rfl,by simp,by simp[qA];rfl⟩
def qeH:∀(vs:List Var),Wz vs []=zG vs
 |[]=>rfl
 | v::vs=>by
  have h:qkh v 0=if v.mode=0 then v.value else 0:=by
   unfold qkh;split
   . rfl
   have hz:∀b:BitVec 64,((BitVec.ofInt 64 0 &&& b).toNat:Int)=0:=fun b=>by simp
   show IntKind.i64.wrap ((BitVec.ofInt 64 0 &&& BitVec.ofInt 64 _).toNat:Int)=0;rw[hz];decide
  simp only[Wz,zG,qyR,h];exact congrArg _ (qeH vs)
def qdO{vs:List Var}:∀(k:Nat){b a:List Int}{L:List (List Int)},okA vs b->(wR vs b).length<=k->(a::L) <:+ wR vs b->okA vs a/\a::L=wR vs a
 | 0,b,a,L,hb,hk,h=>by
  have:=h.length_le;rw[qyY]at this;omega
 | k+1,b,a,L,hb,hk,h=>by
  rw[kf hb]at h hk;rcases List.suffix_cons_iff.1 h with h|h
  . injection h with h1 h2
    subst h1 h2;exact⟨hb,(kf hb).symm⟩
  split at h
  . exact absurd (List.eq_nil_of_suffix_nil h) (by simp)
  rename_i hov;rw[if_neg hov]at hk;exact qdO k (Q1 hb) (by simp at hk;omega) h
def qby{vs a}(h:okA vs a):(wR vs a).head?.getD []=a/\(wR vs a).isEmpty=false:=by
 rw[kf h];exact⟨rfl,rfl⟩
noncomputable def fS(p:Problem)(a:List Int):Rat:=if j9 p.vars (ql p).1 a=true then prR p a (List.range (NG p).length) else 0
def qfh{p:Problem}(hv:qk p=0):∀v∈p.vars,0<=v.width/\v.width<=15:=by
 intro v hvm;have:=zc (ji hv v hvm);omega
def qef{p:Problem}(hv20:p.vars.length<=20){a}(h:okA p.vars a):Fits a:=by
 have:=h.len;unfold Fits;omega
def qrY{p}(hr:RnH p)(hv:qk p=0)(he:(ql p).2=0):SmH p (jF p.vars) (ka p) (j9 p.vars (ql p).1) (fun x y L=>FrOk x y/\frQ x y+wc (fS p) L=1):=by
 have hv20:=hr.v20;have hall:=hr.all hv;have hok:∀a∈jF p.vars,okA p.vars a:=fun a ha=>kl.1 ha
 have hst:=yX p.vars;have hs0:=Q2 p.vars;have hhd:=qby hs0;rw[hst]at hhd;constructor
 . have s2:=qww p [] (by omega) (by simp[Fits]);rw[qeH]at s2;rw[hhd.1];simpa using s2
 . exact fun a ha=>qj4 p hr a (qef hv20 (hok a ha))
 . intro a ha;have:=qfz p hr a (qef hv20 (hok a ha))
   rwa[qis he ha]at this
 . intro a L h;rw[<- hst]at h;obtain⟨h1,h2⟩:=qdO _ hs0 (qyQ _) h;have hl:=h1.len;have hn:=qsw p a hl (by omega) h1 (qfh hv);rw[kf h1]at h2;injection h2 with _ h2
   unfold qcP at hn;by_cases ho:(qH p.vars a).2=true
   . rw[if_pos ho]at hn h2;subst h2;exact hn
   rw[if_neg ho]at hn h2;obtain⟨e1,e2⟩:=qby (Q1 h1);rw[h2,e1,e2];exact hn
 . intro e;rw[e]at hhd;simp at hhd
 . omega
 . exact fun a ha=>qk2 he ha
 . exact fun a ha h0=>qk1 he ha h0
 . exact fun a ha h0=>let f:=(W9 he ha h0).1;⟨f.nl,f.dl,f.pos,f.cop⟩
 . refine⟨qiJ,?_⟩;rw[qeC,Rat.zero_add];exact qkZ he
 . exact fun x y L h=>⟨h.1.nl,h.1.dl,h.1.pos,h.1.cop⟩
 . intro x y a L hsf hi h0 hq;have ha:a∈jF p.vars:=hsf.subset (qAu ..);obtain⟨g1,g2⟩:=W9 he ha h0;obtain⟨k1,k2⟩:=qtF hi.1 g1 hq;refine⟨k1,?_⟩;rw[k2,g2,Rat.add_assoc];exact hi.2
 . intro x y h;refine qiK h.1 ?_;have:=h.2
   rwa[show wc (fS p) []=0 from rfl,Rat.add_zero]at this
 exact fun x y c d=>qwP x y c d
def qvw(p)(h:VM p):Pure Tryz.prog GG 3 [.agg (qA p)] (.bool true):=by
 have key:K4 p 6=true->RnH p/\qk p=0:=fun hso=>by
  obtain⟨hr,hvp,hv,hb⟩:=qhn h (by decide) hso;exact⟨hr,hv⟩
 have e1:jj p=if(ql p).2≠0 then(0,(ql p).2) else(qo1 p (ql p).1,0):=rfl
 have e2:(jj p).2=(ql p).2:=by
  rw[e1];split
  . rfl
  rename_i hx;simp at hx;exact hx.symm
 refine qhg (N:=(jj p).1) (e:=(ql p).2) qow (fun hso he=>qrY (key hso).1 (key hso).2 he) (qo0 p h 6) (fun hso=>?_) (fun hso he=>?_) (fun hso he=>?_)
 . have:=Ku p (key hso).1
   rwa[e2]at this
 . rw[e1,if_neg (fun e=>e he)];rfl
 rw[e1,if_pos he]
def qkM{H:Type}{enc:TypeId×Value->H}{W W':World}{v:Value}{d:DataW H}{ps:List MemPlace}{sp:Nat->Bool}(h:DataW.Trod enc prog W 0 (fun _=>true) true 27 v d ps)(hb:Go.RowKit.Below W.heap.size W W')(hlt:∀x∈ps,x.block<W.heap.size)(hs:∀p∈ps,sp p.block=true):
 DataW.Trod enc prog W' 0 sp true 27 v d ps :=
 WideElems.Trod_stays qcU (by kernel_rfl) (of_decide_eq_true (by kernel_rfl)) h (fun x hx=>hb.same (hlt x hx)) hs
def qpO(os:Os)(started:os.Started)(H:Type)(enc:TypeId×Value->H):
 ReturnsInHanded {} Tryz.checked os 3 .any (fun w args=>(Rows.randomSumsSpec.pre enc prog Tryz.f3 [] false w args/\laidMetH prog qf4 w)/\sizedMet enc prog Tryz.f3 (OpenSpec.ofChange Rows.randomSumsSpec) false w args)
  (Rows.randomSumsSpec.post enc prog Tryz.f3 false true false false):=by
 refine returnsInHanded_of_change_and (C:=Tryz.checked) (X:=fun w _=>laidMetH prog qf4 w) (fun _ _ _ hh h=>h.of_heap hh) qpp started (by kernel_rfl) func3
  (ChangeSpec.witness_shaped (enc:=enc) (C:=Tryz.checked) (os:=os) (X:=fun w _=>laidMetH prog qf4 w) false (World.doorLaid prog 400 os) #[.agg #[.slice none 0 0,.slice none 0 0,.slice none 0 0,.slice none 0 0,.slice none 0 0]] 8 rfl (World.shaped_of_RefB (by kernel_rfl) (by kernel_rfl)) (by kernel_rfl) (by kernel_rfl) (by kernel_rfl) (qmy os _)) ?_
 intro W base args ds gs before hval0 hW _ hWt hL _;have hval:∀(j:Nat) t v,Tryz.f3.params[j]?=some t->args[j]?=some v->Value.okWide prog W .any base t v:=hval0;have hwt:(DataW.weightsEach prog (Tryz.f3.params.toList++Rows.randomSumsSpec.plain.varTypes prog) (ds++gs)).all (·<=reachBytes)=true:=hWt;have hW':=hW;obtain⟨p,q,hA0,hV,rfl,hfz,hnd⟩:=hW;have hA:DataW.TrodAll enc prog W 0 (fun _=>true) true Tryz.f3.params.toList args.toList ds p:=hA0;rw[Tryz.params3]at hA hval hwt;obtain⟨v0,d0,rfl,rfl,h0⟩:=trodAll_one hA;obtain⟨rfl,rfl⟩:=trodVars_none hV;have hv0:=hval 0 27 v0 rfl rfl;unfold Value.okWide at hv0;rw[underlying27]at hv0;obtain⟨cs0,rfl,_,_⟩:=hv0;have h0':=h0;obtain⟨fuel0,hf0⟩:=h0;have hw0:∀k∈d0.weights prog 27,k<=reachBytes:=fun k hk=>of_decide_eq_true (qyP.1 hwt k (DataW.weights_mem_each (j:=0) (t:=27) rfl rfl k hk))
 obtain⟨x0,hrel0,hg0⟩:=rdP hf0 hw0;have hpure:=qvw x0 hg0;have hargs:qh (KMw W) [.agg (qA x0)] (#[Value.agg cs0]:Array Value).toList:=by
  simp only[qh];have g0:qg (KMw W) (.agg (qA x0)) (Value.agg cs0):=by
   unfold qg;exact⟨cs0,rfl,hrel0⟩
  exact⟨_,_,rfl,g0,rfl⟩
 refine(hpure.2 W (qfG W) #[Value.agg cs0] (qiE hL) (fun _ _ _ e=>e) hargs).mono ?_;rintro e W' ⟨v,ro',rfl,hb,_,_,_,hv⟩;have hv1:v=.bool true:=by simpa only[qg] using hv
 subst hv1;have hW2:=hW';simp only[qzp]at hW2;have hlt:=fun x hx=>hW2.lt x hx
 refine⟨_,rfl,[d0],[],p,[],p,[],hW2,?_,?_,?_,hb.frame _,fun h=>by cases h⟩
 . exact trodAll_mk1 (shut_bool underlying4 true)
 . exact trodAll_mk1 (qkM h0' hb (fun x hx=>hlt x (hx)) (fun x hx=>by simpa using hlt x (hx)))
 rfl
def fn3:prog.funcNamed "testbench/testbenchlaw23.RandomSums" = some 3:=by kernel_rfl
def qwr:Tryz.f3.isInstance prog Rows.randomSumsRow.origin Rows.randomSumsRow.targs:=of_decide_eq_true (by kernel_rfl)
def qu6:Tryz.f3.isWrapper prog Rows.randomSumsRow.wrapper Rows.randomSumsRow.mainSum:=by unfold Func.isWrapper;first|(rw[if_pos (by decide +kernel)];kernel_rfl)|(rw[if_neg (by decide +kernel)];exact⟨rfl,rfl⟩)
def KH:(Rows.randomSumsRow.inPlace==prog.inPlace 3)=true:=by kernel_rfl
def ZN:(Rows.randomSumsRow.unfollowed==prog.unfollowed 3)=true:=by kernel_rfl
def Y5:(Rows.randomSumsRow.recurses==prog.recurses 3)=true:=by kernel_rfl
def qbK:(Rows.randomSumsRow.named==prog.varsNamed 3)=true:=by kernel_rfl
def qc8:(Rows.randomSumsRow.wf (OpenSpec.ofChange Rows.randomSumsSpec)&&laidOutB prog&&mapsRowed prog &&
 Tryz.f3.params.all (prog.readableRec ·)&&namedTie prog Rows.randomSumsRow.named Rows.randomSumsSpec.vars &&
 (Rows.randomSumsRow.stops == [])&&(prog.stops == [])&&(Rows.randomSumsRow.knobs == [])&&(prog.stopKnobs == []))=true:=by kernel_rfl
def qc7:((Rows.randomSumsRow.maps==(Tryz.f3.params.toList++Rows.randomSumsSpec.plain.varTypes prog).any (prog.mapsRec ·))&&(Rows.randomSumsRow.ifaces==(Tryz.f3.params.toList++Rows.randomSumsSpec.plain.varTypes prog).any (prog.ifacesRec ·))&&(Rows.randomSumsRow.mapsOut==prog.mapsAmong Tryz.f3.resultTypes.toList) &&
 (Rows.randomSumsRow.loops==(Tryz.f3.params.toList++Rows.randomSumsSpec.plain.varTypes prog).any (prog.loopsFrom ·))&&(Rows.randomSumsRow.wideKeys==(Tryz.f3.params.toList++Rows.randomSumsSpec.plain.varTypes prog++Tryz.f3.resultTypes.toList).any (prog.wideKeysFrom ·)) &&
 Rows.randomSumsSpec.vars.all (prog.varReadable ·)&&Tryz.f3.resultTypes.all (fun t=>prog.readableRec t&&decide (t<prog.types.size))&&(Rows.randomSumsRow.ifacesOut==Tryz.f3.resultTypes.toList.any (prog.ifacesRec ·))&&(Rows.randomSumsRow.loopsOut==Tryz.f3.resultTypes.toList.any (prog.loopsFrom ·))&&(Rows.randomSumsRow.plainKeys==prog.plainKeys)&&Rows.randomSumsRow.shortTexts.isNone&&prog.stopsHeard&&prog.mayEnter&&(Rows.randomSumsRow.lifted==prog.liftsFinal)&&(prog.make==some Rows.randomSumsRow.make))=true:=by kernel_rfl
def qge:((Rows.randomSumsRow.kinds==(if Rows.randomSumsRow.domain.isEmpty then [] else Tryz.f3.params.toList.map fun t=>match prog.underlying t with|some (.int k)=>some k|_=>none))&&(Rows.randomSumsRow.pinned==Rows.randomSumsRow.pinnedBy) &&
 (Rows.randomSumsRow.veiled==(Tryz.f3.params.toList++Rows.randomSumsSpec.plain.varTypes prog++Tryz.f3.resultTypes.toList).any (prog.veiledRec ·))&&Rows.randomSumsRow.veiledFits prog Tryz.f3.params.toList (Tryz.f3.params.toList++Rows.randomSumsSpec.plain.varTypes prog++Tryz.f3.resultTypes.toList))=true:=by kernel_rfl
def qta:joinedFacts prog 3 Tryz.f3 Rows.randomSumsSpec Rows.randomSumsRow=true:=by
 have h1:=qc8;have h2:=qc7;have h3:=qge;simp only[Bool.and_eq_true,and_assoc]at h1 h2 h3;unfold joinedFacts;simp only[Bool.and_eq_true,and_assoc];obtain⟨a1,a2,a3,a4,a5,a6,a7,a8,a9⟩:=h1;obtain⟨b1,b2,b3,b4,b5,b6,b7,b8,b9,b10,b11,b12,b13,b14,b15⟩:=h2;obtain⟨c1,c2,c3,c4⟩:=h3;exact⟨a1,a2,a3,a4,a5,a6,a7,a8,a9,KH,ZN,Y5,qbK,b1,b2,b3,b4,b5,b6,b7,b8,b9,b10,b11,b12,b13,b14,b15,c1,c2,c3,c4⟩
def KD:Rows.RandomSumsSaid :=
 OpenClaim.holds_of_wide 3 Tryz.f3 rfl rfl rfl rfl rfl rfl rfl ⟨rfl,rfl,rfl,rfl,rfl⟩ rfl rfl rfl rfl rfl fn3 Tryz.func3 qta qwr qu6
  (fun os started H enc _=>qpO os started H enc)
def qgn:Rows.randomSumsRow.wfByText (OpenSpec.ofChange Rows.randomSumsSpec)=true:=by kernel_rfl
def qgo:prog.mainIs=some (true, "92419e895c52b274f0b33cf0432aec05d9891f40aba42b01ce0e9ccb50be94f7".toList):=by kernel_rfl
def qdh:true=prog.looks []:=by kernel_rfl
def qbU:([27].all fun u=>!prog.wantsStandIn u)=true:=by kernel_rfl
def qgp:false=Rows.randomSumsRow.goesBy Tryz.prog:=by kernel_rfl
theorem randomSums_card:Rows.RandomSumsCardSaid :=
 Claim7.holds_tied_plain_at .later [] [.data, .data, .data, .widerDeep] true (true, "92419e895c52b274f0b33cf0432aec05d9891f40aba42b01ce0e9ccb50be94f7") true
  KD (fun _ h=>by cases h) qgn (fun _ h=>by cases h) randomSums_row_tie rfl ⟨rfl,rfl⟩ qgo rfl
  (fun f fn hf hfn=>by
    obtain rfl:f=3:=Option.some.inj (fn3.symm.trans hf) |>.symm;obtain rfl:fn=Tryz.f3:=(Option.some.inj (func3.symm.trans hfn)).symm;exact⟨qdh,fun j t ht=>by
     rw[Tryz.params3]at ht;have hm:t∈[27]:=(by simpa using Array.mem_of_getElem? ht);exact(show prog.wantsStandIn t=false by simpa using List.all_eq_true.1 qbU t hm)⟩)
  qgp
#print axioms randomSums_card
