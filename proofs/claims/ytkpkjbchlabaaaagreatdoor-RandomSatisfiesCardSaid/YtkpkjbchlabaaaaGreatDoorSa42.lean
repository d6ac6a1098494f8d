/- A part of the proof. -/
import Derived.Test.YtkpkjbchlabaaaaGreatDoorSa41
import Derived.KernelRfl
set_option maxHeartbeats 16000000
set_option linter.unusedVariables false
set_option linter.unusedSimpArgs false
set_option maxRecDepth 100000
set_option linter.defProp false
section
namespace Go.Proofs.YtkpkjbchlabaaaaGreatDoor
open Go Go.Abs
theorem qj6 (vs:List Var)(d:Dist)(h:d.weights=[]):Ks vs d=jP 0:=by
 unfold Ks;split
 . rename_i v _;have:qci v d.weights=[]:=by
    unfold qci;rw[h];have:(qdY [])=fun _=>false:=by funext n;rfl
    rw[this];simp
   rw[this];rfl
 . rfl
theorem qog (vs:List Var)(l:List Ex)(a:List Int)(h:jP 0∈l):wu vs l a=false:=by
 have h0:yD (kQ vs a) (jP 0)=0:=by
  unfold yD;split
  . rw[vm];simp[jP,Vb,Ex.op,Ex.n]
  . rfl
 unfold wu;rw[qtm];exact⟨_,h,by simp[h0]⟩
theorem Qr {p:Problem}(h:VQ p)(hd:p.dists.length<=10000)(hs5:p.soft.length<=10000)(he:(qq p).2=0) :
 qj p=0/\(∀ e∈(qq p).1,zi p.vars e=0/\JT e)/\(qq p).1.length<=50000/\∀ d∈p.dists,d.weights≠[]:=by
 obtain⟨hv,hsat,hR,_⟩:=QN (by rw[<- vR];exact he);have hnk:=QV h hv;have hsl:yn p=vt p:=by unfold yn;rw[if_pos hv]
 rw[hR];refine⟨hv,fun e hm=>?_,?_,fun d hdm hw=>?_⟩
 . have hmm:e∈zM p++p.soft:=by
    rcases qqA.1 hm with hm|hm
    . exact qqA.2 (.inl hm)
    . obtain⟨q,hq,rfl⟩:=qqG.1 hm;obtain⟨k,_,hk⟩:=qh3 hq;exact qqA.2 (.inr (qqd hk))
   have:=hnk e hmm;exact⟨by simpa[wH] using this.1,this.2⟩
 . have h1:=qej p;have h2:=h.hard;have h3:(vt p).length=p.dists.length:=(by simp[vt]);simp only[qqg,qqS,zM,hsl];omega
 . have hin:jP 0∈zM p:=by
    unfold zM;rw[hsl];exact qqA.2 (.inr (qqG.2 ⟨d,hdm,qj6 _ _ hw⟩))
   unfold jO at hsat;obtain⟨a,_,ha⟩:=qqF.1 hsat;rw[qog _ _ _ hin]at ha;cases ha
def qou:List (Nat×Sch×List Nat):=[(4,.step 1 [8,7,6] (.step 2 [8,7,6,5,3] (.step 3 [8,7,6,5] (.step 4 [8,7,6,5] (.fork (.cons 0 (.step 5 [8,7,6] (.step 6 [8,7] (.step 7 [8] (.step 8 [] (.done))))) (.cons 5 (.step 0 [8,7,6] (.step 6 [8,7] (.step 7 [8] (.step 8 [] (.done))))) (.nil))))))),[5])]
def OpQ (p:Problem)(H:List Blk)(r:AV)(U':St):Prop :=
 KpL [] H U'.H/\(((qq p).2≠0/\r=.tup [.nilp,.int .i64 (qq p).2]) \/
  ((qq p).2=0/\∃ s d,r=.tup [.ptr s.S 0,.int .i64 0]/\H.length<=s.S/\H.length<=s.L/\H.length<=s.LL/\s.p=p/\s.R=(qq p).1/\SpOk s U'.H/\SpV s d /\
    (s.small=true->∀ b,evD d b s.root=wu p.vars (qq p).1 (v9 p.vars (qB p) b))))
theorem qaO (p:Problem)(h:VQ p)(hv20:p.vars.length<=20)(hb:yP p.vars (qz p)<=18)(hd:p.dists.length<=10000)(hs5:p.soft.length<=10000)(hws:∀ d∈p.dists,d.weights.length<=1000)(H:List Blk)(T:List (Option Nat)) :
 qf Tryz.prog GG 22 [.agg (qE p)] ⟨H,T⟩ (OpQ p H):=by
 refine qf.kO ⟨false,qou,[],[]⟩ qe Tryz.func22 rfl (by kernel_rfl) ?_;by_cases he:(qq p).2=0
 case neg=>
  have hr:=qdm p h hv20 hb hd hs5;simp[-getElem?_pos];refine qc.call hr (by simp) ?_;have hq:∀ u T',OpQ p H (.tup [.nilp,.int .i64 (qq p).2]) ⟨H++u,T'⟩:=fun u T'=>⟨KpL.app,.inl ⟨he,rfl⟩⟩
  generalize (qq p).2=er at *;simp[-getElem?_pos,he];exact hq _ _
 case pos=>
  obtain⟨hv,hk,hl,hwn⟩:=Qr h hd hs5 he;have hlv:=qbX p h hv;simp[-getElem?_pos];refine qc.acall (qmz p h hv20 hb hd hs5 he _ _) ?_;rintro r ⟨H1,T1⟩ ⟨tok,rfl,htok,hk1⟩;dsimp only at hk1;have bx:=hk1.2 _ _ lk0 (by simp);have hkH:KpL [] H H1:=KpL.app.trans hk1;have hlen1:=hk1.1;simp only[qqg,qqs,qq0]at hlen1;obtain⟨R,hR⟩:∃ R,R=(qq p).1:=⟨_,rfl⟩;rw[<- hR]at htok hk hl ⊢;simp[-getElem?_pos];rw[qG rfl];simp only[qE]at hlv;simp[-getElem?_pos,qN,bx];refine qc.call hlv (by simp) ?_;simp[-getElem?_pos,qN,bx];have hwg:=qjO p h hv H1 T1;simp only[qE]at hwg;refine⟨qc.acall hwg ?_,qc.acall hwg ?_⟩
  all_goals
   rintro r ⟨H2,T2⟩ ⟨hk2,L,LL,rfl,hL1,hL2,hwf⟩;dsimp only at hk2 hwf;have bx2:=hk2.2 _ _ bx (by simp);have hkH2:=hkH.trans hk2;have hlen2:=hk2.1;have hLlt:L<H2.length:=(by obtain⟨c,hc,_⟩:=hwf;exact (qqc.1 hc).1);obtain⟨LL',hLL',hLL1,hwf'⟩:∃ LL',LL' < H2.length/\H.length<=LL'/\WFn p L LL' H2:=by
    obtain⟨c,hc,hc2⟩:=hwf;by_cases hpv:p.vars=[]
    . exact⟨L,hLlt,by omega,c,hc,fun hn=>absurd hpv hn⟩
    . exact⟨LL,(qqc.1 (hc2 hpv).2).1,by omega,c,hc,hc2⟩
   simp[-getElem?_pos,qN,bx2,qa bx2,zn,zS,qF];refine qc.acall ((All135 p h hv R (by omega) hk _ _).leq (by simp[qE])) ?_;rintro r ⟨H3,T3⟩ ⟨hk3,hr⟩;dsimp only at hk3;have bS:=hk3.2 _ _ lk0 (by simp);have hSl:=(qqc.1 bS).1;have hkH3:KpL [] H H3:=hkH2.trans (KpL.app.trans hk3);have hwf3:WFn p L LL' H3:=by
    obtain⟨c,hL,hc⟩:=hwf';have hk':=KpL.app.trans hk3;exact⟨c,hk'.2 _ _ hL (by simp),fun hn=>⟨(hc hn).1,hk'.2 _ _ (hc hn).2 (by simp)⟩⟩
   have hws':∀ (i:Nat) (w:List Weight),(jf p.vars.length p.dists)[i]?=some (some w)->w≠[]/\w.length<=1000:=fun i w hi=>by
    obtain⟨d,hd,rfl⟩:=qfQ (qqd hi);exact⟨hwn d hd,hws d hd⟩
   have fin:∀ (dv:AV) (root:Nat) (small:Bool) (d:List Nd) (T':List (Option Nat)),(small=true->DagOk d/\(∃ tok,dv=.sl 3 (d.map qw) tok)/\root<d.length)->(small=true->∀ b,evD d b root=wu p.vars R (v9 p.vars (qB p) b)) ->
    OpQ p H (.tup [.ptr H2.length 0,.int .i64 0]) ⟨H3.set H2.length (.cells (qE p++[.sl 4 (R.map qr) tok,.sl 1 ((qB p).map qt) .none,dv,.int .i64 root,.bool small,.fn 98 [] [.ptr L 0]])),T'⟩:=by
    intro dv root small d T' hdag hroot;refine⟨hkH3.setF (by have:=hkH2.1;omega),.inr ⟨he,⟨H2.length,L,LL',p,R,tok,qB p,dv,root,small⟩,d,rfl,hkH2.1,by dsimp only;omega,hLL1,rfl,hR,⟨?_,?_,?_⟩,⟨h,hv,hv20,hb,hk,hl,htok,rfl,hdag,hws'⟩,by rw[<- hR];exact hroot⟩⟩
    . exact qqh hSl
    . obtain⟨c,hL,hc⟩:=hwf3;exact⟨c,by dsimp only;rw[qqf (by omega)];exact hL,fun hn=>⟨(hc hn).1,by dsimp only;rw[qqf (by omega)];exact (hc hn).2⟩⟩
    . dsimp only;rw[qry];omega
   rcases hr with rfl|⟨d,t,tk,rfl,hdk,ht,hev⟩
   . simp[-getElem?_pos,bS,hSl];exact fin (.sl 0 [] .nil) 0 false [] T3 (by simp) (by simp)
   . simp[-getElem?_pos,bS,hSl];exact fin (.sl 3 (d.map qw) tk) t true d T3 (fun _=>⟨hdk,⟨tk,rfl⟩,ht⟩) (fun _=>hev)
theorem wE:∀ {vs:List Var} {a:List Int},okA vs a->∀ {i:Nat} {v:Var},vs[i]?=some v->∃ x,a[i]?=some x/\(if v.mode=0 then x=v.value else 0<=x/\x<(jx v:Nat))
 | [],_,_,i,v,hv=>by simp at hv
 | w::vs,[],h,i,v,hv=>h.elim
 | w::vs,y::a,h,0,v,hv=>by
  simp at hv;subst hv;exact⟨y,rfl,h.1⟩
 | w::vs,y::a,h,i+1,v,hv=>by
  obtain⟨x,h1,h2⟩:=wE (vs:=vs) (a:=a) h.2 (i:=i) (v:=v) (by simpa using hv);exact⟨x,by simpa using h1,h2⟩
def eqP (p:Problem)(q:Nat×Nat):Ex:=eqE (Jr p q.1) (q.2:Int)
theorem eq_sat {p:Problem}(hv:qj p=0){a:List Int}(ha:a∈yl p.vars){i:Nat}{v:Var}(hi:p.vars[i]?=some v){n:Nat}(hn:n<=65535) :
 decide (yD (kQ p.vars a) (eqP p (i,n))≠0)=decide (a[i]?=some (n:Int)):=by
 have hok:=wY.1 ha;obtain⟨x,hx,hxr⟩:=wE hok hi;have hm:=qqd hi;have hve:=zd (jl hv v hm);have hvv:=WL (jl hv v hm);have hx2:0<=x/\x<=65535:=by
  split at hxr
  . omega
  . have h3:2 ^ v.width.toNat<=2 ^ 8:=qqJ (by omega) (by omega);unfold jx at hxr;omega
 have hf:=Q7 (yY hv) hi hx;rw[Jy hx2.1 hx2.2]at hf;have hen:kQ p.vars a=(p.vars.zip a).map fun q=>⟨q.1.name,q.2⟩:=by unfold kQ;rw[if_pos hok.len]
 have hnm:Jr p i=v.name:=by simp[Jr,hi]
 have ho:=qnq hve.1 (n:=(n:Int)) (by omega) (by omega);have hex:zi p.vars (eqE v.name (n:Int))=0:=ho.valid (by omega) (by omega) (by unfold vH;rw[qqF];exact⟨v,hm,by simp⟩);have hval:zf (eqE v.name (n:Int))=0:=by
  by_cases h0:zf (eqE v.name (n:Int))=0
  . exact h0
  . unfold zi at hex;rw[if_pos h0]at hex;exact absurd hex h0
 have hkn:wc (kQ p.vars a) (eqE v.name (n:Int))=true:=by
  unfold wc;rw[qcy,hen];simp[askV,eqE,w9,jP,Ex.op,Ex.name,hf]
 have hev:yD (kQ p.vars a) (eqE v.name (n:Int))=b2i (decide (x=(n:Int))):=by
  unfold yD;rw[if_pos ⟨hval,hkn⟩,vm,hen];simp[eqE,w9,jP,Ex.op,Ex.name,Ex.args,Ex.n,Vb,vm,hf,opW,yN,b2i]
 show decide (yD _ (eqE (Jr p i) (n:Int))≠0)=_;rw[hnm,hev,hx];by_cases hxn:x=(n:Int)<;>simp[b2i,hxn]
noncomputable def okC (p:Problem)(R:List Ex)(c:List (Nat×Nat)):Bool:=(yl p.vars).any fun a=>wu p.vars R a&&c.all fun q=>decide (a[q.1]?=some (q.2:Int))
noncomputable def V0 (p:Problem)(R:List Ex)(fx:Nat->Option Nat):List Nat->List (Nat×Nat)->Nat
 | [],c=>if okC p R c=true then 1 else 0
 | i::r,c=>if okC p R c=true then (kR (z0 p i) (fx i)).foldl (fun s v=>sat (s+sat (wtP p i v*V0 p R fx r (c++[(i,v)])))) 0 else 0
def qmC (p:Problem)(c:List (Nat×Nat)):Prop:=∀ q∈c,(∃ v,p.vars[q.1]?=some v/\v.mode≠0)/\q.2<2 ^ z0 p q.1
theorem qnR {p:Problem}(hv:qj p=0){i:Nat}{v:Var}(hi:p.vars[i]?=some v):z0 p i=v.width.toNat/\v.width.toNat<=8:=by
 have hve:=zd (jl hv v (qqd hi));exact⟨by unfold z0 zF;rw[hi],by omega⟩
theorem qmC.lt {p:Problem}(hv:qj p=0){c:List (Nat×Nat)}(h:qmC p c){q:Nat×Nat}(hq:q∈c):q.2<=65535:=by
 obtain⟨⟨v,hi,_⟩,hlt⟩:=h q hq;obtain⟨h1,h2⟩:=qnR hv hi;rw[h1]at hlt;have h3:2 ^ v.width.toNat<=2 ^ 8:=qqJ (by omega) (by omega);omega
theorem qdL {p:Problem}(hv:qj p=0)(R:List Ex){c:List (Nat×Nat)}(hc:qmC p c):jO p.vars (R++c.map (eqP p))=okC p R c:=by
 unfold jO okC;apply qq4.2;simp only[qqF];have key:∀ a∈yl p.vars,wu p.vars (R++c.map (eqP p)) a=(wu p.vars R a&&c.all fun q=>decide (a[q.1]?=some (q.2:Int))):=fun a ha=>by
  unfold wu;rw[qrM,qtv];congr 1;apply qq4.2;simp only[qqo];refine forall_congr' fun q=>forall_congr' fun hq=>?_
  obtain⟨⟨v,hi,_⟩,_⟩:=hc q hq;have:=eq_sat hv ha hi (hc.lt hv hq);simp only[Function.comp];rw[<- this]
 constructor
 . rintro⟨a,ha,h⟩;exact⟨a,ha,by rw[<- key a ha];exact h⟩
 . rintro⟨a,ha,h⟩;exact⟨a,ha,by rw[key a ha];exact h⟩
def qjK (p:Problem)(fx:Nat->Option Nat):Prop:=∀ i x,fx i=some x->x<2 ^ z0 p i
theorem qgG {p:Problem}{fx:Nat->Option Nat}(hf:qjK p fx){i v:Nat}(h:v∈kR (z0 p i) (fx i)):v<2 ^ z0 p i:=by
 unfold kR at h;split at h
 . exact qri.1 h
 . rename_i x hx;have:=qqQ.1 h;subst this;exact hf i _ hx
theorem ke {α:Type}{f g:Nat->α->Nat}:∀ {l:List α} {s:Nat},(∀ s,∀ v∈l,f s v=g s v)->l.foldl f s=l.foldl g s
 | [],s,h=>rfl
 | a::r,s,h=>by
  rw[qqR,qqR,h s a (by simp)];exact ke fun s v hv=>h s v (by simp[hv])
theorem qgT {p:Problem}(hv:qj p=0)(R:List Ex){fx:Nat->Option Nat}(hf:qjK p fx):∀ (g:List Nat) (c:List (Nat×Nat)),(∀ i∈g,∃ v,p.vars[i]?=some v/\v.mode≠0)->qmC p c ->
 qck p fx g (R++c.map (eqP p))=V0 p R fx g c:=by
 intro g
 induction g with
 | nil=>intro c _ hc;unfold qck V0;rw[qdL hv R hc]
 | cons i r ih=>
  intro c hg hc;unfold qck V0;rw[qdL hv R hc];split
  . refine ke fun s v hvm=>?_
    have hc':qmC p (c++[(i,v)]):=fun q hq=>by
     rcases qqA.1 hq with hq|hq
     . exact hc q hq
     . have:=qqQ.1 hq;subst this;exact⟨hg i (by simp),qgG hf hvm⟩
    have:=ih (c++[(i,v)]) (fun j hj=>hg j (by simp[hj])) hc';rw[qrb,<- qqI]at this;rw[<- this];rfl
  . rfl
def LW (p:Problem)(l:List Nat):Nat:=(l.map (z0 p)).sum
theorem qeT (p:Problem)(l m:List Nat):LW p (l++m)=LW p l+LW p m:=by simp[LW]
theorem VW {p:Problem}(hv:qj p=0):∀ l:List Nat,yO p.vars (l.map fun n:Nat=>(n:Int))=(LW p l:Int)
 | []=>rfl
 | i::r=>by
  have ih:=VW hv r;have h0:=Zk (vP hv) i;have e1:yO p.vars ((i::r).map fun n:Nat=>(n:Int))=zF p.vars i+yO p.vars (r.map fun n:Nat=>(n:Int)):=by simp[yO]
  have e2:LW p (i::r)=z0 p i+LW p r:=by simp[LW]
  rw[e1,e2,ih];unfold z0;omega
theorem qa2 {p:Problem}(hv:qj p=0){k i:Nat}(hk:(NG p).flatten[k]?=some i):Zs (qB p) i=LW p ((NG p).flatten.take k):=by
 have hk':p.groups.flatten[k]?=some (i:Int):=by rw[QE hv,qqB,hk];rfl
 have h1:=YH hv hk';rw[QE hv,<- List.map_take,VW hv]at h1;unfold Zs;rw[qqm,h1];simp
theorem qjB {p:Problem}(hv:qj p=0):LW p (NG p).flatten<=20:=by
 have:=YV hv;rw[QE hv,VW hv]at this;omega
theorem qiK {d:List Nd}(h:DagOk d){node l w v:Nat}(hn:node<d.length)(hl:l<=lvD d node)(hlw:l+w<=20):∀ k,k<=w ->
 wM d l w v node k<d.length/\l+k<=lvD d (wM d l w v node k)/\∀ b,(∀ j,j<k->b (l+j)=v.testBit (w-1-j))->evD d b node=evD d b (wM d l w v node k):=by
 intro k
 induction k with
 | zero=>intro _;exact⟨hn,hl,fun b _=>rfl⟩
 | succ k ih=>
  intro hk;obtain⟨h1,h2,h3⟩:=ih (by omega);rw[ZL];obtain⟨g1,g2,g3⟩:=yC h h1 (L:=l+k) (by omega) h2 (v.testBit (w-1-k));refine⟨g1,by omega,fun b hb=>?_⟩;rw[h3 b fun j hj=>hb j (by omega),g3 b (hb k (by omega))]
def JA (p:Problem)(b:Nat->Bool)(i:Nat):Nat:=zg (fun k=>b (Zs (qB p) i+z0 p i-1-k)) (z0 p i)
theorem J3 {p:Problem}{b:Nat->Bool}{i v:Nat}(h:JA p b i=v){j:Nat}(hj:j<z0 p i):b (Zs (qB p) i+j)=v.testBit (z0 p i-1-j):=by
 rw[<- h];unfold JA;rw[qS];have h1:z0 p i-1-j<z0 p i:=by omega
 have h2:Zs (qB p) i+z0 p i-1-(z0 p i-1-j)=Zs (qB p) i+j:=by omega
 simp[h1,h2]
def qjb:List (Nat×Nat)->Nat->Bool
 | [],_=>false
 | (w,v)::r,l=>if l<w then v.testBit (w-1-l) else qjb r (l-w)
theorem qeM:∀ (l:List (Nat×Nat)) (k w v j:Nat),l[k]?=some (w,v)->j<w->qjb l (((l.take k).map (·.1)).sum+j)=v.testBit (w-1-j)
 | [],k,w,v,j,h,_=>by simp at h
 | (w',v')::r,0,w,v,j,h,hj=>by
  simp at h;obtain⟨rfl,rfl⟩:=h;simp[qjb,hj]
 | (w',v')::r,k+1,w,v,j,h,hj=>by
  have ih:=qeM r k w v j (by simpa using h) hj;have e:((((w',v')::r).take (k+1)).map (·.1)).sum+j=w'+(((r.take k).map (·.1)).sum+j):=by simp;omega
  rw[e,qjb,if_neg (by omega),qq7,ih]
theorem qeL {p:Problem}(hv:qj p=0)(val:Nat->Nat):∃ b,∀ i∈(NG p).flatten,JA p b i=val i % 2 ^ z0 p i:=by
 refine⟨qjb ((NG p).flatten.map fun i=>(z0 p i,val i)),fun i hi=>?_⟩;obtain⟨k,hk⟩:=qqN hi;have hl:=qa2 hv hk;rw[<- ZY];unfold JA;apply zh;intro j hj;have h:=qeM ((NG p).flatten.map fun i=>(z0 p i,val i)) k (z0 p i) (val i) (z0 p i-1-j) (by rw[qqB,hk];rfl) (by omega);have e1:(((((NG p).flatten.map fun i=>(z0 p i,val i)).take k).map (·.1)).sum)=LW p ((NG p).flatten.take k):=by
  unfold LW;rw[<- List.map_take,qrz];rfl
 rw[e1,<- hl]at h;have e2:Zs (qB p) i+z0 p i-1-j=Zs (qB p) i+(z0 p i-1-j):=by omega
 have e3:z0 p i-1-(z0 p i-1-j)=j:=by omega
 rw[e2,h,e3]
theorem JD {p:Problem}(hv:qj p=0){i:Nat}{v:Var}(hi:p.vars[i]?=some v)(hm:v.mode≠0):i∈(NG p).flatten:=by
 obtain⟨k,hk⟩:=qhh hv hi hm;rw[QE hv,qqB]at hk
 cases h:(NG p).flatten[k]? with
 | none=>rw[h]at hk;cases hk
 | some j=>
  rw[h]at hk;have:(j:Int)=i:=by simpa using hk
  have:j=i:=by omega
  exact this▸qqd h
theorem yx {p:Problem}(hv:qj p=0){i:Nat}(hi:i∈(NG p).flatten):∃ v,p.vars[i]?=some v/\v.mode≠0:=by
 obtain⟨k,hk⟩:=qjy hv hi;obtain⟨n,v,hn,hv',hm⟩:=Yn ((jN hv).2.1 _ (qqd hk));have:n=i:=by omega
 subst this;exact⟨v,hv',hm⟩
theorem wP {p:Problem}(hv:qj p=0)(b:Nat->Bool){i:Nat}{v:Var}(hi:p.vars[i]?=some v)(hm:v.mode≠0):(v9 p.vars (qB p) b)[i]?=some (JA p b i:Int):=by
 have hl:i<(qB p).length:=by rw[yV];exact (qqc.1 hi).1
 have hli:=qqe hl;rw[qdd hi hli];unfold qgM JA Zs;rw[if_neg hm,(qnR hv hi).1,qqm,hli];rfl
theorem VJ {p:Problem}(b:Nat->Bool){i:Nat}{v:Var}(hi:p.vars[i]?=some v)(hm:v.mode=0):(v9 p.vars (qB p) b)[i]?=some v.value:=by
 have hl:i<(qB p).length:=by rw[yV];exact (qqc.1 hi).1
 have hli:=qqe hl;rw[qdd hi hli];unfold qgM;rw[if_pos hm]
theorem qm1:∀ {vs:List Var} {a:List Int},a.length=vs.length->(∀ (i:Nat) (v:Var),vs[i]?=some v->∃ x,a[i]?=some x/\(if v.mode=0 then x=v.value else 0<=x/\x<(jx v:Nat)))->okA vs a
 | [],[],_,_=>trivial
 | [],_::_,h,_=>by simp at h
 | _::_,[],h,_=>by simp at h
 | v::vs,x::a,h,hx=>by
  obtain⟨y,hy,hc⟩:=hx 0 v rfl;simp at hy;subst hy;exact⟨hc,qm1 (by simpa using h) fun i w hw=>by
   obtain⟨y,hy,hc⟩:=hx (i+1) w (by simpa using hw);exact⟨y,by simpa using hy,hc⟩⟩
theorem qn3 (p:Problem)(b:Nat->Bool)(i:Nat):JA p b i<2 ^ z0 p i:=y8 _ _
theorem VK {p:Problem}(hv:qj p=0)(b:Nat->Bool):v9 p.vars (qB p) b∈yl p.vars:=by
 refine wY.2 (qm1 (JR (yV p) b) fun i v hi=>?_);by_cases hm:v.mode=0
 . exact⟨_,VJ b hi hm,by rw[if_pos hm]⟩
 . refine⟨_,wP hv b hi hm,?_⟩;rw[if_neg hm];have:=qn3 p b i;rw[(qnR hv hi).1]at this;unfold jx;omega
theorem qbN {p:Problem}(hv:qj p=0){a:List Int}(ha:a∈yl p.vars):∃ b,v9 p.vars (qB p) b=a/\∀ i∈(NG p).flatten,a[i]?=some (JA p b i:Int):=by
 have hok:=wY.1 ha;obtain⟨b,hb⟩:=qeL hv (fun i=>(a.getD i 0).toNat);have hr:∀ i∈(NG p).flatten,a[i]?=some (JA p b i:Int):=fun i hi=>by
  obtain⟨v,hv',hm⟩:=yx hv hi;obtain⟨x,hx,hc⟩:=wE hok hv';rw[if_neg hm]at hc;have:=hb i hi;rw[qqm,hx]at this;unfold jx at hc;rw[(qnR hv hv').1]at this;dsimp only[Option.getD]at this;have hlt:x.toNat<2 ^ v.width.toNat:=by omega
  rw[qsd hlt]at this;rw[hx,this];congr 1;omega
 refine⟨b,?_,hr⟩;apply qq3;intro i
 cases hi:p.vars[i]? with
 | none=>
  have hl:=qtq.1 hi;rw[qqC (by rw[JR (yV p)];exact hl),qqC (by rw[hok.len];exact hl)]
 | some v=>
  by_cases hm:v.mode=0
  . obtain⟨x,hx,hc⟩:=wE hok hi;rw[if_pos hm]at hc;rw[VJ b hi hm,hx,hc]
  . rw[wP hv b hi hm,hr i (JD hv hi hm)]
structure Inv (p:Problem)(d:List Nd)(root:Nat)(c:List (Nat×Nat))(node:Nat):Prop where
 lt:node<d.length
 lv:LW p (c.map (·.1))<=lvD d node
 pre:∃ post,(NG p).flatten=c.map (·.1)++post
 ev:∀ b,(∀ q∈c,JA p b q.1=q.2)->evD d b root=evD d b node
theorem qel {p:Problem}(hv:qj p=0){d:List Nd}(hd:DagOk d){root:Nat}{c:List (Nat×Nat)}{node:Nat}(h:Inv p d root c node){i v:Nat}(hi:∃ post,(NG p).flatten=c.map (·.1)++i::post) :
 Inv p d root (c++[(i,v)]) (wM d (Zs (qB p) i) (z0 p i) v node (z0 p i)):=by
 obtain⟨post,hpost⟩:=hi;have hk:(NG p).flatten[(c.map (·.1)).length]?=some i:=by rw[hpost,qql (qqn _),qro];rfl
 have htk:(NG p).flatten.take (c.map (·.1)).length=c.map (·.1):=by rw[hpost,List.take_left]
 have hlv:=qa2 hv hk;rw[htk]at hlv;have hle:LW p (c.map (·.1))+z0 p i<=20:=by
  have h1:=qjB hv;rw[hpost,qeT]at h1;have:LW p (i::post)=z0 p i+LW p post:=by simp[LW]
  omega
 obtain⟨h1,h2,h3⟩:=qiK hd (w:=z0 p i) (v:=v) h.lt (l:=Zs (qB p) i) (by rw[hlv];exact h.lv) (by omega) (z0 p i) (qqn _);refine⟨h1,?_,⟨post,by rw[hpost];simp⟩,fun b hb=>?_⟩
 . rw[qrb,qeT];have:LW p (([(i,v)]:List (Nat×Nat)).map (·.1))=z0 p i:=by simp[LW]
   omega
 . rw[h.ev b fun q hq=>hb q (by simp[hq])];exact h3 b fun j hj=>J3 (hb (i,v) (by simp)) hj
theorem KJ {p:Problem}{b b':Nat->Bool}{i:Nat}(h:∀ j,j<z0 p i->b (Zs (qB p) i+j)=b' (Zs (qB p) i+j)):JA p b i=JA p b' i:=by
 unfold JA;apply zh;intro k hk;have e:Zs (qB p) i+z0 p i-1-k=Zs (qB p) i+(z0 p i-1-k):=by omega
 rw[e];exact h _ (by omega)
theorem qeC {q:Nat×Nat}:∀ {c:List (Nat×Nat)},(c.map (·.1)).Nodup->q∈c->c.find? (fun q'=>q'.1==q.1)=some q
 | [],_,h=>by simp at h
 | x::r,hn,h=>by
  rw[qqp,qrX]at hn;rcases qqE.1 h with rfl|h
  . simp
  . have hne:¬ x.1=q.1:=fun e=>hn.1 (qqG.2 ⟨q,h,e.symm⟩)
    have:(x.1==q.1)=false:=by simpa using hne
    rw[qsP,this];exact qeC hn.2 h
theorem qek {p:Problem}(hv:qj p=0){R:List Ex}{d:List Nd}(hd:DagOk d){root:Nat}(hroot:∀ b,evD d b root=wu p.vars R (v9 p.vars (qB p) b)){c:List (Nat×Nat)}(hc:qmC p c)(hnd:(NG p).flatten.Nodup){node:Nat}(h:Inv p d root c node) :
 okC p R c = !decide (node=0):=by
 obtain⟨post,hpost⟩:=h.pre;have hmem:∀ q∈c,q.1∈(NG p).flatten:=fun q hq=>by rw[hpost];exact qqA.2 (.inl (qqG.2 ⟨q,hq,rfl⟩))
 by_cases h0:node=0
 . have:okC p R c=false:=by
    rw[qrq];intro hok;unfold okC at hok;obtain⟨a,ha,hs⟩:=qqF.1 hok;rw[qqi]at hs;obtain⟨b,hb,hbv⟩:=qbN hv ha;have hf:∀ q∈c,JA p b q.1=q.2:=fun q hq=>by
     have h1:=hbv _ (hmem q hq);have h2:=of_decide_eq_true (qqo.1 hs.2 q hq);rw[h1]at h2;have:(JA p b q.1:Int)=(q.2:Int):=by simpa using h2
     omega
    have h1:=h.ev b hf;rw[hroot,hb,h0,Ju hd]at h1;rw[h1]at hs;cases hs.1
   rw[this,h0];rfl
 . have:okC p R c=true:=by
    obtain⟨b,hb⟩:=qpG hd node node h.lt (qqn _) h0;obtain⟨b0,hb0⟩:=qeL hv (fun i=>match c.find? (fun q=>q.1==i) with|some q=>q.2|none=>0);obtain⟨b',hb'⟩:∃ b':Nat->Bool,b'=fun l=>if l<LW p (c.map (·.1)) then b0 l else b l:=⟨_,rfl⟩
    have hnode:evD d b' node=true:=by
     rw[<- hb];apply Y4 hd h.lt;intro l hl;have:=h.lv;rw[hb'];dsimp only;rw[if_neg (by omega)]
    have hcn:(c.map (·.1)).Nodup:=by
     rw[hpost]at hnd;exact (qq9.1 hnd).1
    have hf:∀ q∈c,JA p b' q.1=q.2:=fun q hq=>by
     obtain⟨k,hk⟩:=qqN hq;have hkl:=(qqc.1 hk).1;have hkF:(NG p).flatten[k]?=some q.1:=(by rw[hpost,qqq (by simpa using hkl),qqB,hk];rfl);have hlv:=qa2 hv hkF;have htk:(NG p).flatten.take k=(c.map (·.1)).take k:=(by rw[hpost,qre (by simp;omega)]);have hw:Zs (qB p) q.1+z0 p q.1<=LW p (c.map (·.1)):=by
      rw[hlv,htk];have h1:(c.map (·.1))=(c.map (·.1)).take k++q.1::(c.map (·.1)).drop (k+1):=by
       have h2:(c.map (·.1)).drop k=q.1::(c.map (·.1)).drop (k+1):=by
        have h3:(c.map (·.1))[k]?=some q.1:=(by rw[qqB,hk];rfl);obtain⟨h4,h5⟩:=qqc.1 h3;rw[qqu h4,h5]
       rw[<- h2,qq8]
      have h2:=congrArg (LW p) h1;rw[qeT]at h2;have h3:LW p (q.1::(c.map (·.1)).drop (k+1))=z0 p q.1+LW p ((c.map (·.1)).drop (k+1)):=(by simp[LW]);omega
     have e1:JA p b' q.1=JA p b0 q.1:=KJ fun j hj=>by
      rw[hb'];dsimp only;rw[if_pos (by omega)]
     rw[e1,hb0 _ (hmem q hq)];have hfind:=qeC hcn hq;rw[hfind];exact qsd (hc q hq).2
    have hr:=h.ev b' hf;rw[hnode,hroot]at hr;unfold okC;refine qqF.2 ⟨_,VK hv b',?_⟩;rw[hr,qrg,qqo];intro q hq;obtain⟨⟨v,hi,hm⟩,_⟩:=hc q hq;rw[wP hv b' hi hm,hf q hq];simp
   rw[this];simp[h0]
theorem qgW {p:Problem}(hv:qj p=0){R:List Ex}{d:List Nd}(hd:DagOk d){root:Nat}(hroot:∀ b,evD d b root=wu p.vars R (v9 p.vars (qB p) b))(hnd:(NG p).flatten.Nodup){fx:Nat->Option Nat}(hf:qjK p fx) :
 ∀ (g:List Nat) (c:List (Nat×Nat)) (node:Nat),(∃ post,(NG p).flatten=c.map (·.1)++g++post)->qmC p c->Inv p d root c node->VZ p (qB p) d fx g node=V0 p R fx g c:=by
 intro g
 induction g with
 | nil=>
  intro c node hg hc h;unfold VZ V0;rw[qek hv hd hroot hc hnd h];by_cases h0:node=0<;>simp[h0]
 | cons i r ih=>
  intro c node hg hc h;obtain⟨post,hpost⟩:=hg;unfold VZ V0;rw[qek hv hd hroot hc hnd h];by_cases h0:node=0
  . simp[h0]
  . simp only[h0,if_false,decide_false,qtO,if_true];refine ke fun s v hvm=>?_
    have hiF:i∈(NG p).flatten:=(by rw[hpost];simp);have hc':qmC p (c++[(i,v)]):=fun q hq=>by
     rcases qqA.1 hq with hq|hq
     . exact hc q hq
     . have:=qqQ.1 hq;subst this;exact⟨yx hv hiF,qgG hf hvm⟩
    rw[ih (c++[(i,v)]) _ ⟨post,by rw[hpost];simp⟩ hc' (qel hv hd h ⟨r++post,by rw[hpost];simp⟩)]
theorem qpb {p:Problem}{d:List Nd}{root:Nat}(h:root<d.length):Inv p d root [] root:=⟨h,by simp[LW],⟨_,rfl⟩,fun b _=>rfl⟩
theorem qln {p:Problem}(hv:qj p=0){d:List Nd}(hd:DagOk d){root:Nat}(val:Nat->Nat):∀ (l:List Nat) (c:List (Nat×Nat)) (node:Nat),Inv p d root c node->(∃ post,(NG p).flatten=c.map (·.1)++l++post) ->
 Inv p d root (c++l.map fun i=>(i,val i)) (l.foldl (fun node i=>wM d (Zs (qB p) i) (z0 p i) (val i) node (z0 p i)) node):=by
 intro l
 induction l with
 | nil=>intro c node h _;simpa using h
 | cons i r ih=>
  intro c node h ⟨post,hpost⟩;have h1:=qel hv hd h (i:=i) (v:=val i) ⟨r++post,by rw[hpost];simp⟩;have h2:=ih _ _ h1 ⟨post,by rw[hpost];simp⟩;rw[qqR,qqp];simpa using h2
theorem JU {p:Problem}{gi:Nat}{g:List Nat}(h:(NG p)[gi]?=some g):∃ post,(NG p).flatten=((NG p).take gi).flatten++g++post:=by
 have h1:=qq8 gi (NG p);obtain⟨h2,h3⟩:=qqc.1 h;have h4:(NG p).drop gi=g::(NG p).drop (gi+1):=by rw[qqu h2,h3]
 refine⟨((NG p).drop (gi+1)).flatten,?_⟩
 conv=>lhs;rw[<- h1,h4]
 simp
theorem JV {p:Problem}(hv:qj p=0):(NG p).flatten.Nodup:=by
 have h:=(jN hv).2.2.1;rw[QE hv]at h;exact (qs2.1 h).imp fun hne e=>hne (by rw[e])
theorem qn5 {s:Spc}{d:List Nd}(h:SpV s d)(hroot:s.small=true->∀ b,evD d b s.root=wu s.p.vars s.R (v9 s.p.vars (qB s.p) b)){fx:Nat->Option Nat}(hf:qjK s.p fx){a:List Int}(ha:∀ i∈(NG s.p).flatten,aN a i<2 ^ z0 s.p i){gi:Nat}(hgi:gi<(NG s.p).length) :
 WU s d fx a gi=V0 s.p s.R fx ((NG s.p).getD gi []) (((NG s.p).take gi).flatten.map fun i=>(i,aN a i)):=by
 obtain⟨g,hg⟩:∃ g,(NG s.p)[gi]?=some g:=⟨_,qqe hgi⟩;have hgd:(NG s.p).getD gi []=g:=by simp[qqm,hg]
 obtain⟨post,hpost⟩:=JU hg;have hin:∀ i∈((NG s.p).take gi).flatten,i∈(NG s.p).flatten:=fun i hi=>by rw[hpost];simp[hi]
 have hc:qmC s.p (((NG s.p).take gi).flatten.map fun i=>(i,aN a i)):=fun q hq=>by
  obtain⟨i,hi,rfl⟩:=qqG.1 hq;exact⟨yx h.vp (hin i hi),ha i (hin i hi)⟩
 have hmm:(((NG s.p).take gi).flatten.map fun i=>(i,aN a i)).map (·.1)=((NG s.p).take gi).flatten:=by
  rw[qrz];exact List.map_id _
 unfold WU;rw[hgd];by_cases hsm:s.small=true
 . rw[if_pos hsm];obtain⟨hd,_,hr⟩:=h.dag hsm;have hi:=qln h.vp hd (aN a) ((NG s.p).take gi).flatten [] s.root (qpb hr) ⟨g++post,by rw[hpost];simp⟩;rw[h.lv];have:=qgW h.vp hd (hroot hsm) (JV h.vp) hf g _ _ ⟨post,by rw[qqw,hmm];exact hpost⟩ (by rw[qqw];exact hc) hi;rw[qqw]at this;rw[<- this];unfold QU;rw[h.lv]
 . rw[if_neg hsm];have:=qgT h.vp s.R hf g _ (fun i hi=>yx h.vp (by rw[hpost];simp[hi])) hc;rw[<- this];unfold KY;rw[qrz];rfl
noncomputable def VY (p:Problem)(fx:Nat->Option Nat)(a:List Int)(gi:Nat):Nat:=V0 p (qq p).1 fx ((NG p).getD gi []) (((NG p).take gi).flatten.map fun i=>(i,aN a i))
noncomputable def kI (p:Problem)(gi:Int)(a:List Int):Int×Int :=
 if gi<0\/((NG p).length:Int)<=gi\/qH p.vars a=false then (0,1)
 else if VY p (fun _=>none) a gi.toNat=0 then (0,11) else if VY p (fun _=>none) a gi.toNat=lim then (0,3) else (VY p (fun _=>none) a gi.toNat,0)
noncomputable def chP (p:Problem)(a:List Int)(gi:Nat):List Nat->(Nat->Option Nat)->Int->List Int->List Int
 | [],_,_,out=>out
 | i::r,fx,idx,out=>
  let q:=jU (fun x=>VY p (yB fx i x) a gi) (2 ^ wdN p i) 0 idx
  chP p a gi r (yB fx i q.1) q.2 (out.set i q.1)
noncomputable def jn (p:Problem)(gi:Nat)(a:List Int)(idx:Int):List Int:=chP p a gi (yj ((NG p).getD gi [])) (fun _=>none) idx a
noncomputable def qcO (p:Problem):List Nat->List Int->Rng->List Int×Rng×Int
 | [],a,r=>(a,r,0)
 | gi::rest,a,r=>
  if (kI p gi a).2≠0 then ([],(0,0),(kI p gi a).2)
  else if (j4 (kI p gi a).1 r).2.2≠0 then ([],(0,0),(j4 (kI p gi a).1 r).2.2)
  else qcO p rest (jn p gi a (j4 (kI p gi a).1 r).1) (j4 (kI p gi a).1 r).2.1
noncomputable def ya (p:Problem)(r:Rng):List Int×Rng×Int:=if (qq p).2≠0 then ([],(0,0),(qq p).2) else qcO p (List.range (NG p).length) (qP p.vars) r
theorem qds (p:Problem)(i:Nat):wdN p i=z0 p i:=by
 unfold wdN z0 zF;split<;>rename_i h<;>simp[h]
theorem qd4 (F:Nat->Nat):∀ (n x:Nat) (idx:Int),0<n->x<=(jU F n x idx).1/\(jU F n x idx).1<x+n
 | 0,x,idx,h=>absurd h (by omega)
 | n+1,x,idx,_=>by
  unfold jU;split
  . exact⟨qqn _,by simp⟩
  . split
    . exact⟨qqn _,by simp⟩
    . have:=qd4 F n (x+1) (idx-F x) (by omega);omega
theorem Yu {F G:Nat->Nat}:∀ (n x:Nat) (idx:Int),(∀ y,x<=y->y<x+n->F y=G y)->jU F n x idx=jU G n x idx
 | 0,x,idx,h=>rfl
 | n+1,x,idx,h=>by
  unfold jU;rw[h x (qqn _) (by omega),Yu n (x+1) _ fun y h1 h2=>h y (by omega) (by omega)]
theorem qjK.upd {p:Problem}{fx:Nat->Option Nat}(h:qjK p fx){i x:Nat}(hx:x<2 ^ z0 p i):qjK p (yB fx i x):=fun k y hy=>by
 unfold yB at hy;split at hy
 . rename_i e;subst e;have:x=y:=by simpa using hy
   omega
 . exact h k y hy
theorem chS_eq {s:Spc}{d:List Nd}{p:Problem}{a:List Int}{gi:Nat}(hp:s.p=p)(hs:∀ fx,qjK p fx->WU s d fx a gi=VY p fx a gi):∀ (l:List Nat) (fx:Nat->Option Nat) (idx:Int) (out:List Int),qjK p fx->chS s d a gi l fx idx out=chP p a gi l fx idx out:=by
 intro l
 induction l with
 | nil=>intro fx idx out _;rfl
 | cons i r ih=>
  intro fx idx out hf;have hpos:0<2 ^ z0 p i:=qsx _;have hpk:jU (fun x=>WU s d (yB fx i x) a gi) (2 ^ wdN s.p i) 0 idx=jU (fun x=>VY p (yB fx i x) a gi) (2 ^ wdN p i) 0 idx:=by
   rw[hp];refine Yu _ _ _ fun y _ hy=>hs _ (hf.upd ?_)
   rw[qds]at hy;omega
  have hlt:=qd4 (fun x=>VY p (yB fx i x) a gi) (2 ^ wdN p i) 0 idx (qsx _);rw[qds]at hlt;unfold chS chP;dsimp only;rw[hpk];rw[qds]at *;exact ih _ _ _ (hf.upd (by omega))
theorem ZS {p:Problem}(h:qj p=0){a:List Int}(ha:qH p.vars a=true):a.length=p.vars.length/\∀ i∈(NG p).flatten,aN a i<2 ^ z0 p i:=by
 unfold qH at ha;simp only[qqi,decide_eq_true_eq]at ha;refine⟨ha.1,fun i hi=>?_⟩;obtain⟨v,hv,hm⟩:=yx h hi;have hil:=(qqc.1 hv).1;obtain⟨x,hx⟩:∃ x,a[i]?=some x:=⟨_,qqe (by omega)⟩;have hz:(v,x)∈p.vars.zip a:=qqd (i:=i) (qrO.2 ⟨hv,hx⟩);have h1:=qqo.1 ha.2 _ hz;unfold z5 at h1;simp only[qqi,decide_eq_true_eq]at h1;have h3:((2 ^ v.width.toNat:Nat):Int)=(2:Int) ^ v.width.toNat:=by simp
 unfold aN;rw[qqm,hx,(qnR h hv).1];dsimp only[Option.getD];omega
structure SpR (p:Problem)(s:Spc)(d:List Nd):Prop where
 pe:s.p=p
 R:s.R=(qq p).1
 v:SpV s d
 root:s.small=true->∀ b,evD d b s.root=wu p.vars (qq p).1 (v9 p.vars (qB p) b)
theorem SpR.sum {p:Problem}{s:Spc}{d:List Nd}(h:SpR p s d){a:List Int}(ha:qH p.vars a=true){gi:Nat}(hgi:gi<(NG p).length)(fx:Nat->Option Nat)(hf:qjK p fx):WU s d fx a gi=VY p fx a gi:=by
 obtain⟨hp,hR,hv,hr⟩:=h;subst hp;have:=qn5 hv (by rw[hR];exact hr) hf (ZS hv.vp ha).2 hgi;rw[this,hR];rfl
theorem SpR.tot {p:Problem}{s:Spc}{d:List Nd}(h:SpR p s d)(gi:Int)(a:List Int):KO s d gi a=kI p gi a:=by
 unfold KO kI;rw[h.pe];split
 . rfl
 . rename_i hn;have h1:qH p.vars a=true:=by
    cases hA:qH p.vars a with
    | true=>rfl
    | false=>exact absurd (.inr (.inr hA)) hn
   have h2:gi.toNat<(NG p).length:=by
    have:¬ gi<0:=fun e=>hn (.inl e)
    have:¬ ((NG p).length:Int)<=gi:=fun e=>hn (.inr (.inl e))
    omega
   rw[h.sum h1 h2 _ (fun i x hx=>by cases hx)]
theorem SpR.ch {p:Problem}{s:Spc}{d:List Nd}(h:SpR p s d){a:List Int}(ha:qH p.vars a=true){gi:Nat}(hgi:gi<(NG p).length)(idx:Int):VE s d gi a idx=jn p gi a idx:=by
 unfold VE jn;rw[chS_eq h.pe (fun fx hf=>h.sum ha hgi fx hf) _ _ _ _ (fun i x hx=>by cases hx),h.pe]
theorem vN {n:Int}(h1:1<=n)(r:Rng):0<=(kH n r).1/\(kH n r).1<n:=by
 have hv:=ZK (cutS n) 64 0 r (by omega) (by omega);unfold kH;dsimp only;rw[qsl hv.1];exact⟨Int.emod_nonneg _ (by omega),Int.emod_lt_of_pos _ (by omega)⟩
theorem qi5 (p:Problem)(a:List Int)(gi:Nat):∀ (l:List Nat) (fx:Nat->Option Nat) (idx:Int) (out:List Int),(chP p a gi l fx idx out).length=out.length
 | [],_,_,_=>rfl
 | i::r,fx,idx,out=>by
  unfold chP;dsimp only;rw[qi5 p a gi r];simp
theorem QA (p:Problem)(gi:Nat)(a:List Int)(idx:Int):(jn p gi a idx).length=a.length:=qi5 _ _ _ _ _ _ _
def qow:List (Nat×Sch×List Nat):=[(23,.step 0 [4,3,2] (.step 1 [4,3] (.step 2 [4,3] (.step 3 [4] (.step 4 [] (.done))))),[])]
def SlvQ (q:List Int×Rng×Int)(H:List Blk)(r:AV)(U':St):Prop:=KpL [] H U'.H/\∃ v b,r=.tup [v,.agg (wW q.2.1),.int .i64 q.2.2]/\qgl b U'.H v q.1/\H.length<=b
theorem Yb (d:List Var)(v:Var):qP (d++[v])=qP d++[if v.mode=0 then v.value else 0]:=by simp[qP]
theorem kZ (d:List Var):(qP d).length=d.length:=by simp[qP]
theorem qmy (p:Problem)(h:VQ p)(hv20:p.vars.length<=20)(hl12:qj p=0->(NG p).flatten.length<=12)(hb:yP p.vars (qz p)<=18)(hd:p.dists.length<=10000)(hs5:p.soft.length<=10000)(hws:∀ d∈p.dists,d.weights.length<=1000)(r:Rng)(H:List Blk)(T:List (Option Nat)) :
 qf Tryz.prog GG 16 [.agg (qE p),.agg (wW r)] ⟨H,T⟩ (SlvQ (ya p r) H):=by
 refine qf.kO ⟨true,qow,[],[]⟩ qe Tryz.func16 rfl (by kernel_rfl) ?_;have hop:=qaO p h hv20 hb hd hs5 hws;simp[-getElem?_pos,wW];refine qc.acall (hop _ _) ?_;rintro v ⟨H1,T1⟩ ⟨hk1,hr⟩;dsimp only at hk1;rcases hr with ⟨he,rfl⟩|⟨he,s,d,rfl,hS,hL,hLL,hsp,hsR,hso,hsv,hroot⟩
 . have hq:ya p r=([],(0,0),(qq p).2):=if_pos he;rw[hq];have b2:=hk1.2 _ _ lk2 (by simp);have b2l:=(qqc.1 b2).1;have hkH:KpL [] H H1:=KpL.app.trans hk1;have hq:∀ T',SlvQ ([],(0,0),(qq p).2) H (.tup [.sl 0 [] .nil,.agg [.int .u64 0,.int .u64 0],.int .i64 (qq p).2]) ⟨H1.set (H.length+2) (.cells [.int .u64 0,.int .u64 0]),T'⟩:=fun T'=>⟨hkH.setF (by omega),_,H.length,rfl,.inl ⟨rfl,_,_,rfl⟩,qqn _⟩
   simp[-getElem?_pos,he,b2,b2l];exact hq _
 . have hq:ya p r=qcO p (List.range (NG p).length) (qP p.vars) r:=if_neg (by simp[he]);rw[hq];have hR:SpR p s d:=⟨hsp,hsR,hsv,hroot⟩;have bx:=hk1.2 _ _ lk0 (by simp);have b1:=hk1.2 _ _ lk1 (by simp);have b2:=hk1.2 _ _ lk2 (by simp);have b2l:=(qqc.1 b2).1;have hkH:KpL [] H H1:=KpL.app.trans hk1;by_cases hv0:p.vars=[]
   . have hng:NG p=[]:=by
      have h1:=qeS hsv.vp;rw[hsp,hv0]at h1;have h2:∀ g∈NG p,g≠[]:=fun g hg=>by
       obtain⟨g',hg',rfl⟩:=qqG.1 hg;have:=(jN (hsp▸hsv.vp)).1 g' hg';simpa using this
      cases hN:NG p with
      | nil=>rfl
      | cons g t=>
       rw[hN]at h1 h2;have:=h2 g (by simp);simp at h1;exact absurd h1.1 this
     have hgr:p.groups=[]:=(by simpa[NG] using hng);rw[hng,hv0];have hq:∀ T',SlvQ ([],r,0) H (.tup [.sl 1 [] .tight,.agg [.int .u64 r.1,.int .u64 r.2],.int .i64 0]) ⟨H1.set (H.length+2) (.cells [.int .u64 r.1,.int .u64 r.2]),T'⟩:=fun T'=>⟨hkH.setF (by omega),_,H.length,rfl,.inl ⟨rfl,_,_,rfl⟩,qqn _⟩
     simp[-getElem?_pos,bx,hv0,hgr,qx,mkX];refine qX.gen (fun m ev U=>ev 2=.ptr H.length 0/\ev 3=.ptr (H.length+1) 0/\ev 5=.ptr (H.length+2) 0/\ev 9=.sl 1 [] .tight/\ev 31=.int .i64 0/\ev 32=.int .i64 0/\∃ T',U=⟨H1,T'⟩) 0 ?_ ?_
     . exact⟨by simp,by simp,by simp,by simp,by simp,by simp,_,rfl⟩
     rintro m ev U R0 hR0 ⟨e2,e3,e5,e9,e31,e32,T2,rfl⟩;simp[-getElem?_pos,e2,e31,e32,bx,hv0,hgr];refine qX.gen (fun m ev U=>ev 3=.ptr (H.length+1) 0/\ev 5=.ptr (H.length+2) 0/\ev 9=.sl 1 [] .tight/\ev 48=.int .i64 0/\ev 49=.int .i64 0/\U=⟨H1,T2⟩) 0 ?_ ?_
     . exact⟨by simp[e3],by simp[e5],by simp[e9],by simp,by simp,rfl⟩
     rintro m ev U R1 hR1 ⟨e3,e5,e9,e48,e49,rfl⟩;simp[-getElem?_pos,e48,e49];rw[qG rfl];simp[-getElem?_pos,qN,e3,e5,e9,b1,b2,b2l];exact hq _
   . obtain⟨n,hn⟩:∃ n,n=p.vars.length:=⟨_,rfl⟩;have hnp:0<n:=(by rw[hn];exact qqt.2 hv0);have hn0:¬ (n:Int)=0:=(by omega);have hn0':n≠0:=(by omega);have hn1:(n:Int)<=549755813888:=(by omega);have hbx:=qa bx [.cells (List.replicate n (.int .i64 0))];have hvl:=hsv.vq.vars;rw[hsp,<- hn]at hvl;have hz:List.replicate n (AV.int .i64 0)=zI (qP []++List.replicate n 0):=(by simp[zI,qP]);rw[hz]at hbx;simp[-getElem?_pos,bx,<- hn,hn0',hn1,qx,mkX,hz,hbx];refine qX.listR p.vars (fun dn ev U=>ev 2=.ptr H.length 0/\ev 3=.ptr (H.length+1) 0/\ev 5=.ptr (H.length+2) 0/\ev 7=.ptr s.S 0/\ev 9=.ms H1.length 0 n 1/\ev 30=.sl 4 (p.vars.map qA) .none/\ev 31=.int .i64 n/\ev 32=.int .i64 dn.length/\KpL [] H1 U.H/\U.H[H1.length]?=some (.cells (zI (qP dn++List.replicate (n-dn.length) 0)))) ?_ ?_ ?_
     . exact⟨by simp,by simp,by simp,by simp,by simp,by simp,by simp,by simp,KpL.app,by simp[qP]⟩
     . rintro dn v rest ev ⟨H2,T2⟩ R0 hR0 hd0 hx hlt ⟨e2,e3,e5,e7,e9,e30,e31,e32,hk2,hrow⟩;dsimp only at hk2 hrow;rw[<- hn]at hlt;have hlt':(dn.length:Int)<n:=(by omega);have hlt1:dn.length+1<=n:=(by omega);have hwl:=wr (n:=(dn.length:Int)+1) (by omega) (by omega);have hrl:(qP dn++List.replicate (n-dn.length) 0).length=n:=(by simp[kZ];omega);have hrow2:∀ w,(H2++w)[H1.length]?=_:=fun w=>qa hrow w
       obtain⟨j,hj⟩:∃ j,n-dn.length=j+1:=⟨n-dn.length-1,by omega⟩;have hst:∀ x,(qP dn++List.replicate (n-dn.length) 0).set dn.length x=qP dn++[x]++List.replicate (n-(dn++[v]).length) 0:=fun x=>by
        rw[qrh _ _ (by rw[kZ];exact qqn _),kZ,qro,hj];simp[qrY];have:n-(dn.length+1)=j:=by omega
        rw[this]
       have hst0:qP dn++List.replicate (n-dn.length) 0=qP dn++[0]++List.replicate (n-(dn++[v]).length) 0:=by
        rw[hj];have:n-(dn++[v]).length=j:=by simp;omega
        rw[this];simp[qrY]
       have h1l:=(qqc.1 hrow).1;by_cases hm:v.mode=0
       . simp[-getElem?_pos,e9,e30,e31,e32,hlt',hx,qA,hm,hwl,hrow2,hlt1,za,hrl,yz];refine hR0 _ _ ⟨by simp[e2],by simp[e3],by simp[e5],by simp[e7],by simp[e9],by simp[e30],by simp[e31],by simp,(hk2.trans KpL.app).setF (qqn _),?_⟩;dsimp only;rw[qqh (by simp;omega),Yb,if_pos hm,hst]
       . simp[-getElem?_pos,e9,e30,e31,e32,hlt',hx,qA,hm,hwl,hrow2,hlt1,za,hrl,yz];refine hR0 _ _ ⟨by simp[e2],by simp[e3],by simp[e5],by simp[e7],by simp[e9],by simp[e30],by simp[e31],by simp,hk2.trans KpL.app,?_⟩;dsimp only;rw[hrow2,Yb,if_neg hm,hst0]
     . rintro ev ⟨H2,T2⟩ ⟨e2,e3,e5,e7,e9,e30,e31,e32,hk2,hrow⟩;dsimp only at hk2 hrow;rw[<- hn]at e32;have hrow':H2[H1.length]?=some (.cells (zI (qP p.vars))):=(by rw[hrow];simp[<- hn]);have bx2:=hk2.2 _ _ bx (by simp);simp[-getElem?_pos,e2,e31,e32,bx2];have b12:=hk2.2 _ _ b1 (by simp);have b22:=hk2.2 _ _ b2 (by simp);have hkH2:=hkH.trans hk2;have hlen1:=hk1.1;simp only[qqg,qqs,qq0]at hlen1;have hS2:=hso.keep hk2 (by simp) (by simp) (by simp);have hSS:=(qqc.1 hS2.c).1;obtain⟨m,hm⟩:∃ m,m=(NG p).length:=⟨_,rfl⟩;have hml:p.groups.length=m:=(by rw[hm];simp[NG]);have hm1:m<=1000:=by
        have:=(VV (hsp▸hsv.vp) (by rw[<- hn];exact hvl)).2;omega
       obtain⟨RES,hRES⟩:∃ RES,RES=qcO p (List.range m) (qP p.vars) r:=⟨_,rfl⟩;rw[<- hm,<- hRES];refine qX.gen (fun k ev U=>ev 3=.ptr (H.length+1) 0/\ev 5=.ptr (H.length+2) 0/\ev 7=.ptr s.S 0/\ev 48=.int .i64 m /\
        ∃ (i N:Nat) (a:List Int) (rr:Rng),k=m-i/\i<=m/\ev 49=.int .i64 i/\ev 9=.ms N 0 n 1/\a.length=n/\H1.length<=N/\U.H[N]?=some (.cells (zI a))/\KpL [] H U.H/\U.H[H.length+1]?=some (.cells (wW rr))/\U.H[H.length+2]?=some (.cells (wW (0,0)))/\SpOk s U.H/\qcO p (List.range' i (m-i)) a rr=RES) m ?_ ?_
       . exact⟨by simp[e3],by simp[e5],by simp[e7],by simp[hml],0,H1.length,qP p.vars,r,rfl,by omega,by simp,by simp[e9],by rw[kZ,hn],qqn _,hrow',hkH2,b12,b22,hS2,by rw[hRES,qrr];rfl⟩
       . rintro k ev ⟨H3,T3⟩ R1 hR1 ⟨e3,e5,e7,e48,i,N,a,rr,rfl,him,e49,e9,hal,hN1,hN,hk3,b13,b23,hS3,hres⟩;dsimp only at hN hk3 b13 b23 hS3;have b2l3:=(qqc.1 b23).1;have haR:AsR (.ms N 0 n 1) a H3:=.inr ⟨N,by rw[hal],hN⟩;by_cases hi:i<m
         . have hi':(i:Int)<m:=(by omega);have hwi:=wr (n:=(i:Int)+1) (by omega) (by omega);obtain⟨j,hj⟩:∃ j,m-i=j+1:=⟨m-i-1,by omega⟩;rw[hj,qrt,qcO]at hres;have ht:=WR hsv (i:Int) hS3 haR T3;rw[hR.tot]at ht;have hgi:i<(NG p).length:=(by omega);simp[-getElem?_pos,e7,e9,e48,e49,hi'];refine qc.acall ht ?_;rintro v ⟨H4,T4⟩ ⟨rfl,hk4⟩;dsimp only at hk4;have b14:=hk4.2 _ _ b13 (by simp);have b24:=hk4.2 _ _ b23 (by simp);have b2l4:=(qqc.1 b24).1;have hS4:=hS3.keep hk4 (by simp) (by simp) (by simp);have haR4:=haR.keep hk4 (by simp);have hkk4:=hk3.trans hk4;have herr:∀ (er:Int) (T':List (Option Nat)) (X:List Blk),(∀ (j:Nat) (y:Blk),H4[j]?=some y->X[j]?=some y)->H4.length<=X.length->SlvQ ([],(0,0),er) H (.tup [.sl 0 [] .nil,.agg [.int .u64 0,.int .u64 0],.int .i64 er]) ⟨X.set (H.length+2) (.cells [.int .u64 0,.int .u64 0]),T'⟩:=fun er T' X hX hXl=>
            ⟨KpL.setF (hkk4.trans ⟨hXl,fun j y hj _=>hX j y hj⟩) (by omega),_,H.length,rfl,.inl ⟨rfl,_,_,rfl⟩,qqn _⟩
           simp only[wW]at b14 b24;obtain⟨t,er,hte⟩:∃ t er,kI p (i:Int) a=(t,er):=⟨_,_,rfl⟩;rw[hte]at hres ⊢;dsimp only at hres ⊢;by_cases her:er=0
           . subst her;rw[if_neg (by simp)]at hres;have htp:qH p.vars a=true/\1<=t/\t<lim:=by
              have h0:=hte;unfold kI at h0;split at h0
              . simp at h0
              . rename_i hn';split at h0
                . simp at h0
                . split at h0
                  . simp at h0
                  . have hle:VY p (fun _=>none) a (i:Int).toNat<=lim:=by
                     cases hA:qH p.vars a with
                     | false=>exact absurd (.inr (.inr hA)) hn'
                     | true=>rw[<- hR.sum hA (by simpa using hgi) _ (fun i x hx=>by cases hx)];exact qcl _ _ _ _ _
                    refine⟨?_,?_⟩
                    . cases hA:qH p.vars a with
                      | false=>exact absurd (.inr (.inr hA)) hn'
                      | true=>rfl
                    . have:t=(VY p (fun _=>none) a (i:Int).toNat:Nat):=by
                       have:=congrArg Prod.fst h0;exact this.symm
                      omega
             obtain⟨hA,ht1,ht2⟩:=htp;have hlim:lim=1099511627777:=rfl;have hbr:j4 t rr=((kH t rr).1,(kH t rr).2,0):=if_neg (by omega);have hB:=qqa t rr;rw[hbr]at hres hB;simp only[tupB,wW]at hB;dsimp only at hres;rw[if_neg (by simp)]at hres;obtain⟨hx0,hx1⟩:=vN ht1 rr;generalize kH t rr=q at *;have b14l:=(qqc.1 b14).1;simp[-getElem?_pos,e3,b14];refine qc.call hB (by simp) ?_;simp[-getElem?_pos,e3,e7,e9,b14];have hsub:KpL [H.length+1] H4 (H4.set (H.length+1) (.cells [.int .u64 q.2.1,.int .u64 q.2.2])):=⟨by simp,fun k x hk hn=>by rw[qqf (by simp at hn;omega)];exact hk⟩;simp only[qqg,qqs,qq0]at hS hL hLL;have hS5:=hS4.keep hsub (by simp;omega) (by simp;omega) (by simp;omega);have haR5:=haR4.keep hsub (by rintro N' o n' z e;cases e;simp;omega);have hch:=qeK hsv (hsp▸hl12 (hsp▸hsv.vp)) (gi:=i) (by rw[hsp];exact hgi) (wO hsv.vp (by rw[hsp];exact hA)) (by rw[hsp,<- hn];exact hal) hS5 haR5 T4 hx0 (by omega);rw[hR.ch hA hgi]at hch;obtain⟨out,hout⟩:∃ out,out=jn p i a q.1:=⟨_,rfl⟩;rw[<- hout]at hch hres;refine qc.acall hch ?_;rintro v ⟨H6,T6⟩ ⟨hk6,N',rfl,hN',hN6⟩;dsimp only at hk6 hN6;have hkk5:KpL [] H (H4.set (H.length+1) (.cells [.int .u64 q.2.1,.int .u64 q.2.2])):=hkk4.setF (by omega);have b15:(H4.set (H.length+1) (.cells [.int .u64 q.2.1,.int .u64 q.2.2]))[H.length+1]?=some (.cells [.int .u64 q.2.1,.int .u64 q.2.2]):=qqh b14l;have b25:(H4.set (H.length+1) (.cells [.int .u64 q.2.1,.int .u64 q.2.2]))[H.length+2]?=some (.cells [.int .u64 0,.int .u64 0]):=(by rw[qqf (by omega)];exact b24);have hol:out.length=n:=by
              rw[hout,QA,hal]
             simp[-getElem?_pos,e49,hwi];refine hR1 (m-(i+1)) _ _ (by omega) ⟨by simp[e3],by simp[e5],by simp[e7],by simp[e48],i+1,N',out,q.2,rfl,by omega,by simp,by simp[hol],hol,?_,hN6,hkk5.trans hk6,hk6.2 _ _ b15 (by simp),hk6.2 _ _ b25 (by simp),hS5.keep hk6 (by simp) (by simp) (by simp),?_⟩
             . have:=hk4.1;have:=(qqc.1 hN).1;simp at hN';omega
             . rw[<- hres];have:m-(i+1)=j:=by omega
               rw[this]
           . rw[if_pos her]at hres;rw[<- hres];simp[-getElem?_pos,e3,e5,her,b24,b2l4];exact herr er _ H4 (fun _ _ h=>h) (qqn _)
         . have hi':¬ (i:Int)<m:=(by omega);have hj:m-i=0:=(by omega);rw[hj]at hres;have hres':RES=(a,rr,0):=hres.symm;rw[hres'];simp only[wW]at b13 b23;simp[-getElem?_pos,e48,e49,hi'];rw[qG rfl];simp[-getElem?_pos,qN,e3,e5,e9,b13,b23,b2l3];refine⟨hk3.setF (by omega),_,N,rfl,.inr ⟨fun e=>by dsimp only at e;rw[e]at hal;simp at hal;omega,by dsimp only;rw[hal],?_⟩,by omega⟩;dsimp only;rw[qqf (by omega)];exact hN
noncomputable def ji (p:Problem)(R:List Ex)(fx:Nat->Option Nat):List Nat->List (Nat×Nat)->Nat
 | [],c=>if okC p R c=true then 1 else 0
 | i::r,c=>wT (fun v=>wtP p i v*ji p R fx r (c++[(i,v)])) (kR (z0 p i) (fx i))
theorem qoJ {p:Problem}{R:List Ex}{c d:List (Nat×Nat)}(h:okC p R (c++d)=true):okC p R c=true:=by
 unfold okC at h⊢;obtain⟨a,ha,hs⟩:=qqF.1 h;rw[qqi,qrM,qqi]at hs;exact qqF.2 ⟨a,ha,by rw[qqi];exact⟨hs.1,hs.2.1⟩⟩
theorem KN {p:Problem}{R:List Ex}{fx:Nat->Option Nat}:∀ (g:List Nat) (c:List (Nat×Nat)),okC p R c≠true->ji p R fx g c=0
 | [],c,h=>if_neg h
 | i::r,c,h=>by
  unfold ji;refine Ya fun v _=>?_
  rw[KN r _ (fun h'=>h (qoJ h')),qtW]
theorem sat_wt (w t:Nat)(h:w<=lim):sat (w*sat t)=sat (w*t):=by
 have:=qoh w t;have e:sat w=w:=qrF h
 rwa[e]at this
theorem qez {α:Type}(w t:α->Nat)(hw:∀ x,w x<=lim):∀ (l:List α) (s:Nat),l.foldl (fun s v=>sat (s+sat (w v*sat (t v)))) (sat s)=sat (s+wT (fun v=>w v*t v) l)
 | [],s=>by simp[wT]
 | x::l,s=>by
  rw[qqR,sat_wt _ _ (hw x),qoi,qez w t hw l];simp only[wT];rw[qsb]
theorem qar {p:Problem}{R:List Ex}{fx:Nat->Option Nat}:∀ (g:List Nat) (c:List (Nat×Nat)),V0 p R fx g c=sat (ji p R fx g c)
 | [],c=>by
  unfold V0 ji;split<;>rfl
 | i::r,c=>by
  by_cases h:okC p R c=true
  . unfold V0 ji;rw[if_pos h];have e:(fun s v=>sat (s+sat (wtP p i v*V0 p R fx r (c++[(i,v)]))))=(fun s v=>sat (s+sat (wtP p i v*sat (ji p R fx r (c++[(i,v)]))))):=by
     funext s v;rw[qar r]
    rw[e];have:=qez (fun v=>wtP p i v) (fun v=>ji p R fx r (c++[(i,v)])) (fun v=>qdo p i v) (kR (z0 p i) (fx i)) 0;rw[qrL]at this;exact this
  . rw[KN _ _ h];unfold V0;rw[if_neg h];rfl
theorem qaq {α β:Type}(F:α->β->Nat):∀ (l:List α) (m:List β),wT (fun v=>wT (fun x=>F v x) m) l=wT (fun x=>wT (fun v=>F v x) l) m
 | [],m=>by simp only[wT];exact (Ya fun _ _=>rfl).symm
 | a::l,m=>by
  simp only[wT];rw[qaq F l m]
  induction m with
  | nil=>rfl
  | cons x m ih=>simp only[wT];omega
theorem J6 {p:Problem}{R:List Ex}{fx gx:Nat->Option Nat}:∀ (g:List Nat) (c:List (Nat×Nat)),(∀ i∈g,fx i=gx i)->ji p R fx g c=ji p R gx g c
 | [],_,_=>rfl
 | i::r,c,h=>by
  unfold ji;rw[h i (by simp)];refine kW fun v _=>?_
  rw[J6 r _ fun k hk=>h k (by simp[hk])]
theorem WP {fx:Nat->Option Nat}{i k x:Nat}(h:k≠i):yB fx i x k=fx k:=if_neg h
theorem qgN {fx:Nat->Option Nat}{i x:Nat}:yB fx i x i=some x:=if_pos rfl
theorem J4 {p:Problem}{R:List Ex}{fx:Nat->Option Nat}{i:Nat}(hf:fx i=none):∀ (g:List Nat) (c:List (Nat×Nat)),g.Nodup->i∈g->ji p R fx g c=wT (fun x=>ji p R (yB fx i x) g c) (List.range (2 ^ z0 p i))
 | j::r,c,hn,hi=>by
  rw[qrX]at hn;by_cases hj:j=i
  . subst hj;unfold ji;rw[hf];show wT _ (List.range _)=_;refine kW fun x _=>?_
    rw[qgN];show _=wT _ [x];simp only[wT,qrl];rw[J6 r _ fun k hk=>(WP (fx:=fx) (x:=x) (i:=j) (by rintro rfl;exact hn.1 hk)).symm]
  . have hi':i∈r:=(qqE.1 hi).resolve_left (Ne.symm hj);unfold ji;have e:∀ x,kR (z0 p j) (yB fx i x j)=kR (z0 p j) (fx j):=fun x=>by rw[WP hj]
    simp only[e];rw[<- qaq];refine kW fun v _=>?_
    rw[J4 hf r _ hn.2 hi',<- qdE]
noncomputable def vA (p:Problem)(val:Nat->Nat):List Nat->Nat
 | []=>1
 | i::r=>wtP p i (val i)*vA p val r
theorem J5 {p:Problem}{R:List Ex}{fx:Nat->Option Nat}{val:Nat->Nat}:∀ (g:List Nat) (c:List (Nat×Nat)),(∀ i∈g,fx i=some (val i))->ji p R fx g c=vA p val g*if okC p R (c++g.map fun i=>(i,val i))=true then 1 else 0
 | [],c,_=>by
  unfold ji vA;simp
 | i::r,c,h=>by
  unfold ji vA;rw[h i (by simp)];show wT _ [val i]=_;simp only[wT,qrl];rw[J5 r _ fun k hk=>h k (by simp[hk])];rw[qqI,qtk];rfl
theorem qaH {p:Problem}{val:Nat->Nat}:∀ {g:List Nat},0<vA p val g->∀ i∈g,0<wtP p i (val i)
 | [],_,_,hi=>by cases hi
 | j::r,h,i,hi=>by
  unfold vA at h;have h1:0<wtP p j (val j):=qsy fun e=>by rw[e,qrK]at h;omega
  have h2:0<vA p val r:=qsy fun e=>by rw[e,qtW]at h;omega
  rcases qqE.1 hi with rfl|hi
  . exact h1
  . exact qaH h2 i hi
theorem Wa (F:Nat->Nat):∀ (n x:Nat) (idx:Int),0<=idx->idx<(wT F (List.range' x n):Nat) ->
 (x<=(jU F n x idx).1/\(jU F n x idx).1<x+n)/\0<=(jU F n x idx).2/\(jU F n x idx).2<(F (jU F n x idx).1:Nat)/\idx=(wT F (List.range' x ((jU F n x idx).1-x)):Nat)+(jU F n x idx).2
 | 0,x,idx,h0,h=>by simp[wT]at h;omega
 | n+1,x,idx,h0,h=>by
  rw[qrt]at h;simp only[wT]at h;unfold jU;by_cases h1:idx<(F x:Nat)
  . rw[if_pos h1];refine⟨⟨qqn _,by omega⟩,h0,h1,?_⟩;simp[wT]
  . rw[if_neg h1];by_cases hn:n=0
    . subst hn;simp[wT]at h;omega
    . rw[if_neg hn];have ih:=Wa F n (x+1) (idx-(F x:Nat)) (by omega) (by omega);obtain⟨⟨a1,a2⟩,a3,a4,a5⟩:=ih;generalize jU F n (x+1) (idx-(F x:Nat))=q at *;refine⟨⟨by omega,by omega⟩,a3,a4,?_⟩;have e:q.1-x=(q.1-(x+1))+1:=(by omega);rw[e,qrt];simp only[wT];omega
theorem J9 (p:Problem)(fx:Nat->Option Nat)(a:List Int)(gi:Nat):VY p fx a gi=sat (ji p (qq p).1 fx ((NG p).getD gi []) (((NG p).take gi).flatten.map fun i=>(i,aN a i))):=qar _ _
theorem qmc {p:Problem}{a:List Int}{gi:Nat}{g:List Nat}(hg:(NG p).getD gi []=g)(hn:g.Nodup):∀ (l:List Nat) (fx:Nat->Option Nat) (idx:Int) (out:List Int),l.Nodup->(∀ i∈l,fx i=none/\i∈g/\i<out.length) ->
 0<=idx->idx<(ji p (qq p).1 fx g (((NG p).take gi).flatten.map fun i=>(i,aN a i)):Nat)->ji p (qq p).1 fx g (((NG p).take gi).flatten.map fun i=>(i,aN a i))<lim ->
 ∃ fx':Nat->Option Nat,(∀ i∈l,∃ x:Nat,fx' i=some x/\x<2 ^ z0 p i/\(chP p a gi l fx idx out)[i]?=some (x:Int))/\(∀ k,k∉l->fx' k=fx k/\(chP p a gi l fx idx out)[k]?=out[k]?)/\0<ji p (qq p).1 fx' g (((NG p).take gi).flatten.map fun i=>(i,aN a i)):=by
 generalize hc:(((NG p).take gi).flatten.map fun i=>(i,aN a i))=c;intro l
 induction l with
 | nil=>
  intro fx idx out _ _ h0 h1 _;exact⟨fx,fun i hi=>(by cases hi),fun k _=>⟨rfl,rfl⟩,by omega⟩
 | cons i r ih=>
  intro fx idx out hl hm h0 h1 h2;rw[qrX]at hl;obtain⟨hfi,hig,hio⟩:=hm i (by simp);have hsp:=J4 (p:=p) (R:=(qq p).1) hfi g c hn hig;have hle:∀ x,x<2 ^ z0 p i->ji p (qq p).1 (yB fx i x) g c<=ji p (qq p).1 fx g c:=fun x hx=>by
   rw[hsp];exact qgV (f:=fun x=>ji p (qq p).1 (yB fx i x) g c) (qri.2 hx)
  have hF:∀ x,x<2 ^ z0 p i->VY p (yB fx i x) a gi=ji p (qq p).1 (yB fx i x) g c:=fun x hx=>by
   rw[J9,hg,hc];have:=hle x hx;exact qrF (by omega)
  have hw:wdN p i=z0 p i:=qds p i;have hsum:wT (fun x=>VY p (yB fx i x) a gi) (List.range' 0 (2 ^ wdN p i))=ji p (qq p).1 fx g c:=by
   rw[hsp,hw,<- qrr];exact kW fun x hx=>hF x (qri.1 hx)
  obtain⟨⟨_,q1⟩,q2,q3,_⟩:=Wa (fun x=>VY p (yB fx i x) a gi) (2 ^ wdN p i) 0 idx h0 (by rw[hsum];exact h1);unfold chP;dsimp only;generalize jU (fun x=>VY p (yB fx i x) a gi) (2 ^ wdN p i) 0 idx=q at *;have hq1:q.1<2 ^ z0 p i:=by rw[<- hw];omega
  rw[hF _ hq1]at q3;obtain⟨fx',f1,f2,f3⟩:=ih (yB fx i q.1) q.2 (out.set i q.1) hl.2 (fun k hk=>by
   obtain⟨a1,a2,a3⟩:=hm k (by simp[hk]);exact⟨by rw[WP (by rintro rfl;exact hl.1 hk)];exact a1,a2,by simpa using a3⟩) q2 q3 (by have:=hle _ hq1;omega)
  refine⟨fx',fun k hk=>?_,fun k hk=>?_,f3⟩
  . rcases qqE.1 hk with rfl|hk
    . obtain⟨b1,b2⟩:=f2 k hl.1;exact⟨q.1,by rw[b1,qgN],hq1,by rw[b2,qqh hio]⟩
    . exact f1 k hk
  . have hki:k≠i:=fun e=>hk (by simp[e])
    obtain⟨b1,b2⟩:=f2 k (fun h=>hk (by simp[h]));exact⟨by rw[b1,WP hki],by rw[b2,qqf (Ne.symm hki)]⟩
theorem qaU {α:Type}[DecidableEq α]:∀ {a b:List α},a.Nodup->(∀ x∈a,x∈b)->a.length<=b.length
 | [],_,_,_=>by simp
 | x::a,b,hn,hs=>by
  rw[qrX]at hn;have hx:=hs x (by simp);have h1:a.length<=(b.erase x).length:=qaU hn.2 fun y hy=>by
   have hne:y≠x:=(by rintro rfl;exact hn.1 hy);exact (List.mem_erase_of_ne hne).2 (hs y (by simp[hy]))
  rw[qtx hx]at h1;have:=qtK hx;simp only[qqs];omega
theorem Wf {α:Type}[DecidableEq α]:∀ {b a:List α},a.Nodup->(∀ x∈a,x∈b)->b.length<=a.length->b.Nodup
 | [],_,_,_,_=>List.nodup_nil
 | x::b,a,hn,hs,hl=>by
  have hx:x∉b:=fun hx=>by
   have:=qaU hn (b:=b) fun y hy=>by
    rcases qqE.1 (hs y hy) with rfl|h
    . exact hx
    . exact h
   simp at hl;omega
  refine qrX.2 ⟨hx,Wf (hn.erase x) (fun y hy=>?_) ?_⟩
  . rw[hn.mem_erase_iff]at hy;exact (qqE.1 (hs y hy.2)).resolve_left hy.1
  . have:=List.length_erase (a:=x) (l:=a);simp only[qqs]at hl;split at this<;>omega
theorem qcp {g:List Nat}(h:g.Nodup):(yj g).Nodup:=Wf h (fun x hx=>Yc.2 hx) (by rw[qau];exact qqn _)
structure GoodA (p:Problem)(a:List Int):Prop where
 len:a.length=p.vars.length
 st:∀ (i:Nat) (v:Var),p.vars[i]?=some v->v.mode=0->a[i]?=some v.value
 nn:∀ (i:Nat) (v:Var) (x:Int),p.vars[i]?=some v->v.mode≠0->a[i]?=some x->0<=x
theorem Wo (p:Problem):GoodA p (qP p.vars):=by
 refine⟨kZ _,fun i v hi hm=>?_,fun i v x hi hm hx=>?_⟩
 . unfold qP;rw[qqB,hi];simp[hm]
 . unfold qP at hx;rw[qqB,hi]at hx;simp[hm]at hx;omega
def yq (p:Problem)(a:List Int)(gi:Nat):List (Nat×Nat):=((NG p).take gi).flatten.map fun i=>(i,aN a i)
theorem qbG {p:Problem}(hv:qj p=0){gi:Nat}(hgi:gi<(NG p).length){a:List Int}(ha:GoodA p a){idx:Int}(h0:0<=idx)(h1:idx<(ji p (qq p).1 (fun _=>none) ((NG p).getD gi []) (yq p a gi):Nat))(h2:ji p (qq p).1 (fun _=>none) ((NG p).getD gi []) (yq p a gi)<lim) :
 GoodA p (jn p gi a idx)/\okC p (qq p).1 (yq p (jn p gi a idx) (gi+1))=true/\(∀ i,i∉(NG p).getD gi []->(jn p gi a idx)[i]?=a[i]?)/\∀ i∈(NG p).getD gi [],0<wtP p i (aN (jn p gi a idx) i)/\aN (jn p gi a idx) i<2 ^ z0 p i:=by
 have hgg:=qqe hgi;obtain⟨g,hg⟩:∃ g,(NG p).getD gi []=g:=⟨_,rfl⟩;have hgs:(NG p)[gi]?=some g:=by rw[qqm,hgg]at hg;rw[hgg];exact congrArg some hg
 have hnf:=JV hv;obtain⟨post,hpost⟩:=JU hgs;have hgn:g.Nodup:=by
  rw[hpost]at hnf;exact (qq9.1 (qq9.1 hnf).1).2.1
 have hdis:∀ i∈g,i∉((NG p).take gi).flatten:=fun i hi hi2=>by
  rw[hpost]at hnf;exact (qq9.1 (qq9.1 hnf).1).2.2 i hi2 i hi rfl
 have hgm:∀ i∈g,i∈(NG p).flatten:=fun i hi=>by rw[hpost];simp[hi]
 have hs1:∀ i,i∈yj g↔i∈g:=fun i=>Yc
 have hs2:g.Nodup->(yj g).Nodup:=qcp;rw[hg]at h1 h2 ⊢;obtain⟨fx',f1,f2,f3⟩:=qmc hg hgn (yj g) (fun _=>none) idx a (hs2 hgn) (fun i hi=>by
  obtain⟨v,hv',_⟩:=yx hv (hgm i ((hs1 i).1 hi));have:=(qqc.1 hv').1;exact⟨rfl,(hs1 i).1 hi,by rw[ha.len];exact this⟩) h0 h1 h2
 have hce:jn p gi a idx=chP p a gi (yj g) (fun _=>none) idx a:=by unfold jn;rw[hg]
 have hlen:=QA p gi a idx;rw[<- hce]at f1 f2;generalize jn p gi a idx=b at *;have hout:∀ i,i∉g->b[i]?=a[i]? := fun i hi=>(f2 i fun h=>hi ((hs1 i).1 h)).2
 have hin:∀ i∈g,fx' i=some (aN b i)/\aN b i<2 ^ z0 p i/\b[i]?=some (aN b i:Int):=fun i hi=>by
  obtain⟨x,x1,x2,x3⟩:=f1 i ((hs1 i).2 hi);have:aN b i=x:=by unfold aN;rw[qqm,x3];simp
  rw[this];exact⟨x1,x2,x3⟩
 have hpre:((NG p).take gi).flatten.map (fun i=>(i,aN b i))=yq p a gi:=by
  unfold yq;apply qrk;intro i hi;have:aN b i=aN a i:=by unfold aN;rw[qqm,qqm,hout i fun h=>hdis i h hi]
  rw[this]
 have hfix:=J5 (p:=p) (R:=(qq p).1) (fx:=fx') (val:=aN b) g (yq p a gi) (fun i hi=>(hin i hi).1);have f3':0<ji p (qq p).1 fx' g (yq p a gi):=f3;rw[hfix]at f3';have hok:okC p (qq p).1 (yq p a gi++g.map fun i=>(i,aN b i))=true:=by
  apply Classical.byContradiction;intro h;rw[if_neg h,qtW]at f3';omega
 have hpw:0<vA p (aN b) g:=qsy fun e=>by rw[e,qrK]at f3';omega
 refine⟨⟨by rw[hlen];exact ha.len,fun i v hi hm=>?_,fun i v x hi hm hx=>?_⟩,?_,hout,fun i hi=>⟨qaH hpw i hi,(hin i hi).2.1⟩⟩
 . rw[hout i fun h=>?_]
   . exact ha.st i v hi hm
   . obtain⟨v',hv',hm'⟩:=yx hv (hgm i h);rw[hi]at hv';cases hv';exact hm' hm
 . by_cases h:i∈g
   . have:=(hin i h).2.2;rw[hx]at this;have:x=(aN b i:Int):=Option.some.inj this;omega
   . rw[hout i h]at hx;exact ha.nn i v x hi hm hx
 . have e:yq p b (gi+1)=yq p a gi++g.map fun i=>(i,aN b i):=by
    rw[<- hpre];unfold yq;rw[qqH,hgs];simp
   rw[e];exact hok
theorem qgQ {p:Problem}{gi:Nat}{a:List Int}(h:(kI p gi a).2=0):gi<(NG p).length/\qH p.vars a=true/\(kI p gi a).1=(ji p (qq p).1 (fun _=>none) ((NG p).getD gi []) (yq p a gi):Nat)/\0<ji p (qq p).1 (fun _=>none) ((NG p).getD gi []) (yq p a gi)/\ji p (qq p).1 (fun _=>none) ((NG p).getD gi []) (yq p a gi)<lim:=by
 unfold kI at h⊢;split at h
 . cases h
 . rename_i hn;split at h
   . cases h
   . rename_i h1;split at h
     . cases h
     . rename_i h2;rw[if_neg hn,if_neg h1,if_neg h2];have hg:gi<(NG p).length:=by
        have:¬ ((NG p).length:Int)<=gi:=fun e=>hn (.inr (.inl e))
        omega
       have ha:qH p.vars a=true:=by
        cases hA:qH p.vars a with
        | true=>rfl
        | false=>exact absurd (.inr (.inr hA)) hn
       have e:VY p (fun _=>none) a (gi:Int).toNat=sat (ji p (qq p).1 (fun _=>none) ((NG p).getD gi []) (yq p a gi)):=J9 _ _ _ _;rw[e]at h1 h2 ⊢;have h3:=sat_lt h2;rw[h3]at h1 ⊢;refine⟨hg,ha,rfl,qsy h1,?_⟩;have:=Yf (ji p (qq p).1 (fun _=>none) ((NG p).getD gi []) (yq p a gi));omega
structure EndA (p:Problem)(a:List Int)(gi:Nat):Prop where
 good:GoodA p a
 ok:okC p (qq p).1 (yq p a gi)=true
 pos:∀ i∈((NG p).take gi).flatten,0<wtP p i (aN a i)/\aN a i<2 ^ z0 p i
theorem qid {p:Problem}(hv:qj p=0):∀ (k gi:Nat) (a:List Int) (r:Rng),gi+k=(NG p).length->EndA p a gi->(qcO p (List.range' gi k) a r).2.2=0->EndA p (qcO p (List.range' gi k) a r).1 (NG p).length
 | 0,gi,a,r,hk,h,_=>by
  have:gi=(NG p).length:=by omega
  subst this;exact h
 | k+1,gi,a,r,hk,h,he=>by
  rw[qrt]at he ⊢;unfold qcO at he ⊢;split at he
  . exact absurd he (by assumption)
  . rename_i h1;rw[if_neg h1];split at he
    . exact absurd he (by assumption)
    . rename_i h2;rw[if_neg h2];obtain⟨t1,t2,t3,t4,t5⟩:=qgQ (qqY.1 h1);have hb:0<=(j4 (kI p gi a).1 r).1/\(j4 (kI p gi a).1 r).1<(kI p gi a).1:=by
       unfold j4 at h2 ⊢;split at h2
       . exact absurd (show ((1:Int))≠0 by decide) h2
       . rename_i hc;rw[if_neg hc];exact vN (by rw[t3];omega) r
      rw[t3]at hb;obtain⟨c1,c2,c3,c4⟩:=qbG hv t1 h.good (idx:=(j4 (kI p gi a).1 r).1) (by rw[t3];exact hb.1) (by rw[t3];exact hb.2) t5;refine qid hv k (gi+1) _ _ (by omega) ⟨c1,c2,fun i hi=>?_⟩ he;obtain⟨g,hg⟩:∃ g,(NG p)[gi]?=some g:=⟨_,qqe t1⟩;have hgd:(NG p).getD gi []=g:=(by rw[qqm,hg];rfl);rw[qqH,hg]at hi;simp only[Option.toList,qrC,qqA]at hi;rcases hi with hi|hi
      . have hni:i∉(NG p).getD gi []:=fun h'=>by
         rw[hgd]at h';have hnf:=JV hv;obtain⟨post,hpost⟩:=JU hg;rw[hpost]at hnf;exact (qq9.1 (qq9.1 hnf).1).2.2 i hi i h' rfl
        have e:aN (jn p gi a (j4 (kI p gi a).1 r).1) i=aN a i:=by
         unfold aN;rw[qqm,qqm,c3 i hni]
        rw[e];exact h.pos i hi
      . rw[hgd]at c4;exact c4 i (by simpa using hi)
theorem qpw {p:Problem}(hv:qj p=0){a:List Int}(h:EndA p a (NG p).length):a∈yl p.vars/\wu p.vars (qq p).1 a=true:=by
 obtain⟨hg,hok,hpos⟩:=h;have htk:(NG p).take (NG p).length=NG p:=qqk (qqn _);unfold yq at hok;rw[htk]at hok hpos;unfold okC at hok;obtain⟨b,hb,hs⟩:=qqF.1 hok;rw[qqi]at hs;have hbo:=wY.1 hb;have hab:a=b:=by
  apply qq3;intro i
  cases hi:p.vars[i]? with
  | none=>
   have hl:=qtq.1 hi;rw[qqC (by rw[hg.len];exact hl),qqC (by rw[hbo.len];exact hl)]
  | some v=>
   by_cases hm:v.mode=0
   . obtain⟨x,hx,hc⟩:=wE hbo hi;rw[if_pos hm]at hc;rw[hg.st i v hi hm,hx,hc]
   . have hiF:=JD hv hi hm;have h1:=qqo.1 hs.2 (i,aN a i) (qqG.2 ⟨i,hiF,rfl⟩);have h2:b[i]?=some (aN a i:Int):=of_decide_eq_true h1;have hil:=(qqc.1 hi).1;obtain⟨x,h3⟩:∃ x,a[i]?=some x:=⟨_,qqe (by rw[hg.len];exact hil)⟩;have h4:=hg.nn i v _ hi hm h3;rw[h2,h3];congr 1;unfold aN;rw[qqm,h3];show x=(x.toNat:Int);omega
 rw[hab];exact⟨hb,hs.1⟩
theorem qg4 {vs:List Var}{l m:List Ex}(h:∀ e,e∈l↔e∈m):jO vs l=jO vs m:=by
 have:∀ a,wu vs l a=wu vs m a:=fun a=>by
  unfold wu;rw[qq4,qqo,qqo];exact⟨fun h1 e he=>h1 e ((h e).2 he),fun h1 e he=>h1 e ((h e).1 he)⟩
 unfold jO;congr 1;funext a;exact this a
theorem YK (vs:List Var):∀ (L:List (Int×Ex)) (R:List Ex),jO vs R=true->jO vs (R++(kK vs R L).map (·.2))=true
 | [],R,h=>by simpa[kK] using h
 | x::r,R,h=>by
  unfold kK;split
  . rename_i h1;have:=YK vs r (R++[x.2]) h1;simpa using this
  . exact YK vs r R h
theorem Zo {p:Problem}(h:(qq p).2=0):qj p=0/\jO p.vars (zM p)=true/\jO p.vars (qq p).1=true/\∀ e∈zM p,e∈(qq p).1:=by
 rw[vR]at h;obtain⟨h1,h2,h3,_⟩:=QN h;refine⟨h1,h2,?_,fun e he=>?_⟩
 . rw[h3];have:=YK p.vars (Jq p.soft) (zM p) h2;rw[<- this];refine qg4 fun e=>?_
   have hn:qcG p=zM p:=by
    unfold qcG zM;have:yn p=vt p:=if_pos h1;rw[this]
   unfold Zt;rw[hn];simp
 . rw[h3];exact qq5 _ he
theorem qhz (p:Problem)(R:List Ex):okC p R []=jO p.vars R:=by
 unfold okC jO;congr 1;funext a;simp
theorem qkd {p:Problem}{r:Rng}(h:(ya p r).2.2=0):qj p=0/\(qq p).2=0/\EndA p (ya p r).1 (NG p).length/\(ya p r).1∈yl p.vars/\wu p.vars (qq p).1 (ya p r).1=true:=by
 unfold ya at h⊢;split at h
 . exact absurd h (by assumption)
 . rename_i h1;rw[if_neg h1];have h0:=qqY.1 h1;obtain⟨hv,_,hs,_⟩:=Zo h0;rw[qrr]at h ⊢;have he:=qid hv (NG p).length 0 (qP p.vars) r (by omega) ⟨Wo p,by
    have:yq p (qP p.vars) 0=[]:=by simp[yq]
    rw[this,qhz];exact hs,fun i hi=>by simp at hi⟩ h
   exact⟨hv,h0,he,qpw hv he⟩
noncomputable def qj7 (p:Problem)(R:List Ex)(fx:Nat->Option Nat)(a:List Int)(gi:Nat):Nat:=V0 p R fx ((NG p).getD gi []) (((NG p).take gi).flatten.map fun i=>(i,aN a i))
noncomputable def Jh (p:Problem)(R:List Ex)(gi:Int)(a:List Int):Int×Int :=
 if gi<0\/((NG p).length:Int)<=gi\/qH p.vars a=false then (0,1)
 else if qj7 p R (fun _=>none) a gi.toNat=0 then (0,11) else if qj7 p R (fun _=>none) a gi.toNat=lim then (0,3) else (qj7 p R (fun _=>none) a gi.toNat,0)
noncomputable def chPR (p:Problem)(R:List Ex)(a:List Int)(gi:Nat):List Nat->(Nat->Option Nat)->Int->List Int->List Int
 | [],_,_,out=>out
 | i::r,fx,idx,out=>
  let q:=jU (fun x=>qj7 p R (yB fx i x) a gi) (2 ^ wdN p i) 0 idx
  chPR p R a gi r (yB fx i q.1) q.2 (out.set i q.1)
noncomputable def ql9 (p:Problem)(R:List Ex)(gi:Nat)(a:List Int)(idx:Int):List Int:=chPR p R a gi (yj ((NG p).getD gi [])) (fun _=>none) idx a
theorem chP_R (p:Problem)(a:List Int)(gi:Nat):∀ (l:List Nat) (fx:Nat->Option Nat) (idx:Int) (out:List Int),chP p a gi l fx idx out=chPR p (qq p).1 a gi l fx idx out
 | [],_,_,_=>rfl
 | i::r,fx,idx,out=>by
  unfold chP chPR;exact chP_R p a gi r _ _ _
theorem qmG (p:Problem)(gi:Int)(a:List Int):kI p gi a=Jh p (qq p).1 gi a:=rfl
theorem qi0 (p:Problem)(gi:Nat)(a:List Int)(idx:Int):jn p gi a idx=ql9 p (qq p).1 gi a idx:=chP_R _ _ _ _ _ _ _
theorem qft {p:Problem}(hv:qj p=0)(hs:p.soft=[])(hd:p.dists=[])(h:jO p.vars p.hard=true):qq p=(p.hard,0):=by
 have hn:zM p=p.hard:=by
  unfold zM yn vt;rw[if_pos hv,hd];simp
 have hns:qcG p=p.hard:=by
  unfold qcG vt;rw[hd];simp
 unfold qq;rw[if_pos hv,hn,if_pos h];unfold qhf Zt;rw[hns,hs];simp[Jq,kK]
def p1:Problem:={ vars:=[⟨[97],1,2,0⟩],hard:=[],soft:=[],dists:=[],groups:=[[0]] }
end Go.Proofs.YtkpkjbchlabaaaaGreatDoor
end
section
namespace Go.Abs
open Go Go.RowKit
theorem Pure.ofA {P:Program}{G:Nat->AV}{f:FuncId}{args:List AV}{r:AV}{Q:AV->St->Prop}(h:qf P (Jn G) f args ⟨[],[]⟩ Q)(hq:∀ v U',Q v U'->qR (frz U'.H 8 v)=true/\Leq (frz U'.H 8 v) r):Pure P G f args r:=by
 refine⟨h.1,?_⟩;intro w0 ro vs hg hro hvs;have hw:WRel (Jn G) w0 ro (K0 ro) ⟨[],[]⟩ w0:=⟨Below.refl _ _,hg,hro,fun b o v e _=>e,by simp,fun _ _ _ e=>by simp[K0]at e,fun _ _ e=>by simp[K0]at e,by simp,fun _ _ e=>by simp[K0]at e,
  fun _ _ _ _ e=>by simp[K0]at e,rfl,fun _ _ _ _ _ e=>by simp[K0]at e,fun _ _ e=>by simp[K0]at e,fun _ _ e=>by simp[K0]at e⟩
 refine (h.2 w0 ro (K0 ro) w0 vs hw hvs).mono ?_;rintro e w' (⟨v',v,U',K',rfl,h1,h2,hv,hQ⟩|⟨c,U',K',rfl,h1,h2,hX⟩)
 . obtain⟨q1,q2⟩:=h2.end_ro;obtain⟨g1,g2⟩:=hq v U' hQ;exact⟨v',w6 w0 w' K'.ro,rfl,h2.below,fun b o v e=>JC _ _ _ _ _ _ (h1.ro b o v e),q1,q2,Leq.rel _ _ g2 (qim h2 8 hv)⟩
 . exact hX.elim
end Go.Abs
namespace Go.Proofs.YtkpkjbchlabaaaaGreatDoor
open Go Go.Abs
theorem qgl.frz {b:Nat}{H:List Blk}{v:AV}{a:List Int}(h:qgl b H v a)(n:Nat):qR (Abs.frz H (n+1) v)=true/\Leq (Abs.frz H (n+1) v) (.sl 1 (a.map qt) .none)/\(qR v=true->Leq v (.sl 1 (a.map qt) .none)):=by
 rcases h with ⟨rfl,sz,tok,rfl⟩|⟨h0,rfl,hb⟩
 . have h1:∀ t,Leq (.sl sz [] t) (.sl 1 (([]:List Int).map qt) .none):=fun t=>by simp[Leq]
   refine⟨?_,?_,fun _=>h1 _⟩
   . unfold Abs.frz;split
     . assumption
     . simp
   . unfold Abs.frz;split
     . exact h1 _
     . simp
 . have ho:js b 1 qt H (.ms b 0 a.length 1) a:=.inr ⟨h0,rfl,by rw[hb,wm]⟩;exact⟨ho.frzNo (fun _=>rfl) (fun _=>rfl) (fun _=>rfl) n,ho.frz (fun _=>rfl) (fun _=>rfl) (fun _=>rfl) n,fun h=>by simp[qR]at h⟩
theorem qlA {H:List Blk}{n:Nat}{v x y:AV}(hx:qR x=true)(hy:qR y=true){w:AV}(h1:qR (Abs.frz H n v)=true)(h2:Leq (Abs.frz H n v) w)(h3:qR v=true->Leq v w)(hX:∀ X:AV,Leq X X) :
 qR (Abs.frz H (n+1) (.tup [v,x,y]))=true/\Leq (Abs.frz H (n+1) (.tup [v,x,y])) (.tup [w,x,y]):=by
 by_cases hv:qR v=true
 . have hn:qR (.tup [v,x,y])=true:=(by simp[qR,qv,hv,hx,hy]);rw[qI hn];exact⟨hn,by simp[Leq,zu,h3 hv,Leq.refl]⟩
 . have hn:qR (.tup [v,x,y])=false:=(by simp[qR,qv,hv]);have e:Abs.frz H (n+1) (.tup [v,x,y])=.tup [Abs.frz H n v,x,y]:=by
    rw[Abs.frz,if_neg (by simp[hv])];simp[qI hx,qI hy]
   rw[e];exact⟨by simp[qR,qv,h1,hx,hy],by simp[Leq,zu,h2,Leq.refl]⟩
noncomputable def slvV (q:List Int×Rng×Int):AV:=.tup [.sl 1 (q.1.map qt) .none,.agg (wW q.2.1),.int .i64 q.2.2]
theorem qp7 (p:Problem)(h:VQ p)(hv20:p.vars.length<=20)(hl12:qj p=0->(NG p).flatten.length<=12)(hb:yP p.vars (qz p)<=18)(hd:p.dists.length<=10000)(hs5:p.soft.length<=10000)(hws:∀ d∈p.dists,d.weights.length<=1000)(r:Rng) :
 Pure Tryz.prog GG 16 [.agg (qE p),.agg (wW r)] (slvV (ya p r)):=by
 refine Pure.ofA (qmy p h hv20 hl12 hb hd hs5 hws r [] []) ?_;rintro v U' ⟨_,w,b,rfl,hr,_⟩;obtain⟨h1,h2,h3⟩:=hr.frz 6;exact qlA (by simp[qR,qv,wW]) (by simp[qR]) h1 h2 h3 (fun _=>Leq.refl _)
end Go.Proofs.YtkpkjbchlabaaaaGreatDoor
end
section
namespace Go.Proofs.YtkpkjbchlabaaaaGreatDoor
open Go Go.Abs
theorem qlL {env:List Signal}{e:Ex}(h:yD env e≠0):KB env e=0/\vd env e≠0:=by
 unfold yD at h;split at h
 . rename_i hc;refine⟨?_,h⟩;unfold KB;rw[if_neg (by simp[hc.1]),if_pos hc.2]
 . exact absurd rfl h
theorem qfa {v:Var}(h:jH v=0):0<=v.value/\v.value<(2:Int) ^ v.width.toNat:=by
 unfold jH at h;split at h
 . cases h
 . split at h
   . cases h
   . rename_i hc;omega
def v1:Var:=⟨[97],1,2,0⟩
end Go.Proofs.YtkpkjbchlabaaaaGreatDoor
end
