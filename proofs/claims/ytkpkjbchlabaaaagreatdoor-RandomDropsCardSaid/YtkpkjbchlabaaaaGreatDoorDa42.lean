/- A part of the proof. -/
import Derived.Test.YtkpkjbchlabaaaaGreatDoorDa41
import Derived.KernelRfl
set_option maxHeartbeats 16000000
set_option linter.unusedVariables false
set_option linter.unusedSimpArgs false
set_option maxRecDepth 100000
set_option linter.defProp false
section
namespace Go.Proofs.YtkpkjbchlabaaaaGreatDoor
open Go Go.Abs
theorem qiX (vs:List Var)(d:Dist)(h:d.weights=[]):YW vs d=jL 0:=by
 unfold YW;split
 . rename_i v _;have:qbt v d.weights=[]:=by
    unfold qbt;rw[h];have:(qc0 [])=fun _=>false:=by funext n;rfl
    rw[this];simp
   rw[this];rfl
 . rfl
theorem qm3 (vs:List Var)(l:List Ex)(a:List Int)(h:jL 0∈l):v8 vs l a=false:=by
 have h0:yn (kx vs a) (jL 0)=0:=by
  unfold yn;split
  . rw[wR];simp[jL,Wx,Ex.op,Ex.n]
  . rfl
 unfold v8;rw[qrW];exact⟨_,h,by simp[h0]⟩
theorem qbA {p:Problem}(h:VQ p)(hd:p.dists.length<=10000)(hs5:p.soft.length<=10000)(he:(qZ p).2=0) :
 qk p=0/\(∀ e∈(qZ p).1,zc p.vars e=0/\JA e)/\(qZ p).1.length<=50000/\∀ d∈p.dists,d.weights≠[]:=by
 obtain⟨hv,hsat,hR,_⟩:=JS (by rw[<- Q6];exact he);have hnk:=QC h hv;have hsl:j9 p=vN p:=by unfold j9;rw[if_pos hv]
 rw[hR];refine⟨hv,fun e hm=>?_,?_,fun d hdm hw=>?_⟩
 . have hmm:e∈zH p++p.soft:=by
    rcases qpg.1 hm with hm|hm
    . exact qpg.2 (.inl hm)
    . obtain⟨q,hq,rfl⟩:=qpi.1 hm;obtain⟨k,_,hk⟩:=qgV hq;exact qpg.2 (.inr (qoR hk))
   have:=hnk e hmm;exact⟨by simpa[wo] using this.1,this.2⟩
 . have h1:=qdm p;have h2:=h.hard;have h3:(vN p).length=p.dists.length:=(by simp[vN]);simp only[qoV,qpv,zH,hsl];omega
 . have hin:jL 0∈zH p:=by
    unfold zH;rw[hsl];exact qpg.2 (.inr (qpi.2 ⟨d,hdm,qiX _ _ hw⟩))
   unfold yd at hsat;obtain⟨a,_,ha⟩:=qpk.1 hsat;rw[qm3 _ _ _ hin]at ha;cases ha
def qne:List (Nat×Sch×List Nat):=[(4,.step 1 [8,7,6] (.step 2 [8,7,6,5,3] (.step 3 [8,7,6,5] (.step 4 [8,7,6,5] (.fork (.cons 0 (.step 5 [8,7,6] (.step 6 [8,7] (.step 7 [8] (.step 8 [] (.done))))) (.cons 5 (.step 0 [8,7,6] (.step 6 [8,7] (.step 7 [8] (.step 8 [] (.done))))) (.nil))))))),[5])]
def OpQ (p:Problem)(H:List Blk)(r:AV)(U':St):Prop :=
 KpL [] H U'.H/\(((qZ p).2≠0/\r=.tup [.nilp,.int .i64 (qZ p).2]) \/
  ((qZ p).2=0/\∃ s d,r=.tup [.ptr s.S 0,.int .i64 0]/\H.length<=s.S/\H.length<=s.L/\H.length<=s.LL/\s.p=p/\s.R=(qZ p).1/\SpOk s U'.H/\SpV s d /\
    (s.small=true->∀ b,evD d b s.root=v8 p.vars (qZ p).1 (vI p.vars (qz p) b))))
theorem qc9 (p:Problem)(h:VQ p)(hv20:p.vars.length<=20)(hb:yW p.vars (qx p)<=18)(hd:p.dists.length<=10000)(hs5:p.soft.length<=10000)(hws:∀ d∈p.dists,d.weights.length<=1000)(H:List Blk)(T:List (Option Nat)) :
 qf Tryz.prog GG 22 [.agg (qG p)] ⟨H,T⟩ (OpQ p H):=by
 refine qf.kO ⟨false,qne,[],[]⟩ qe Tryz.func22 rfl (by kernel_rfl) ?_;by_cases he:(qZ p).2=0
 case neg=>
  have hr:=qim p h hv20 hb hd hs5;simp[-getElem?_pos];refine qc.call hr (by simp) ?_;have hq:∀ u T',OpQ p H (.tup [.nilp,.int .i64 (qZ p).2]) ⟨H++u,T'⟩:=fun u T'=>⟨KpL.app,.inl ⟨he,rfl⟩⟩
  generalize (qZ p).2=er at *;simp[-getElem?_pos,he];exact hq _ _
 case pos=>
  obtain⟨hv,hk,hl,hwn⟩:=qbA h hd hs5 he;have hlv:=qa8 p h hv;simp[-getElem?_pos];refine qc.acall (qll p h hv20 hb hd hs5 he _ _) ?_;rintro r ⟨H1,T1⟩ ⟨tok,rfl,htok,hk1⟩;dsimp only at hk1;have bx:=hk1.2 _ _ lk0 (by simp);have hkH:KpL [] H H1:=KpL.app.trans hk1;have hlen1:=hk1.1;simp only[qoV,qo7,qpG]at hlen1;obtain⟨R,hR⟩:∃ R,R=(qZ p).1:=⟨_,rfl⟩;rw[<- hR]at htok hk hl ⊢;simp[-getElem?_pos];rw[qH rfl];simp only[qG]at hlv;simp[-getElem?_pos,qL,bx];refine qc.call hlv (by simp) ?_;simp[-getElem?_pos,qL,bx];have hwg:=qiG p h hv H1 T1;simp only[qG]at hwg;refine⟨qc.acall hwg ?_,qc.acall hwg ?_⟩
  all_goals
   rintro r ⟨H2,T2⟩ ⟨hk2,L,LL,rfl,hL1,hL2,hwf⟩;dsimp only at hk2 hwf;have bx2:=hk2.2 _ _ bx (by simp);have hkH2:=hkH.trans hk2;have hlen2:=hk2.1;have hLlt:L<H2.length:=(by obtain⟨c,hc,_⟩:=hwf;exact (qoQ.1 hc).1);obtain⟨LL',hLL',hLL1,hwf'⟩:∃ LL',LL' < H2.length/\H.length<=LL'/\WFn p L LL' H2:=by
    obtain⟨c,hc,hc2⟩:=hwf;by_cases hpv:p.vars=[]
    . exact⟨L,hLlt,by omega,c,hc,fun hn=>absurd hpv hn⟩
    . exact⟨LL,(qoQ.1 (hc2 hpv).2).1,by omega,c,hc,hc2⟩
   simp[-getElem?_pos,qL,bx2,qa bx2,zn,zU,qD];refine qc.acall ((All135 p h hv R (by omega) hk _ _).leq (by simp[qG])) ?_;rintro r ⟨H3,T3⟩ ⟨hk3,hr⟩;dsimp only at hk3;have bS:=hk3.2 _ _ lk0 (by simp);have hSl:=(qoQ.1 bS).1;have hkH3:KpL [] H H3:=hkH2.trans (KpL.app.trans hk3);have hwf3:WFn p L LL' H3:=by
    obtain⟨c,hL,hc⟩:=hwf';have hk':=KpL.app.trans hk3;exact⟨c,hk'.2 _ _ hL (by simp),fun hn=>⟨(hc hn).1,hk'.2 _ _ (hc hn).2 (by simp)⟩⟩
   have hws':∀ (i:Nat) (w:List Weight),(jx p.vars.length p.dists)[i]?=some (some w)->w≠[]/\w.length<=1000:=fun i w hi=>by
    obtain⟨d,hd,rfl⟩:=qeR (qoR hi);exact⟨hwn d hd,hws d hd⟩
   have fin:∀ (dv:AV) (root:Nat) (small:Bool) (d:List Nd) (T':List (Option Nat)),(small=true->DagOk d/\(∃ tok,dv=.sl 3 (d.map qt) tok)/\root<d.length)->(small=true->∀ b,evD d b root=v8 p.vars R (vI p.vars (qz p) b)) ->
    OpQ p H (.tup [.ptr H2.length 0,.int .i64 0]) ⟨H3.set H2.length (.cells (qG p++[.sl 4 (R.map qq) tok,.sl 1 ((qz p).map qu) .none,dv,.int .i64 root,.bool small,.fn 98 [] [.ptr L 0]])),T'⟩:=by
    intro dv root small d T' hdag hroot;refine⟨hkH3.setF (by have:=hkH2.1;omega),.inr ⟨he,⟨H2.length,L,LL',p,R,tok,qz p,dv,root,small⟩,d,rfl,hkH2.1,by dsimp only;omega,hLL1,rfl,hR,⟨?_,?_,?_⟩,⟨h,hv,hv20,hb,hk,hl,htok,rfl,hdag,hws'⟩,by rw[<- hR];exact hroot⟩⟩
    . exact qoX hSl
    . obtain⟨c,hL,hc⟩:=hwf3;exact⟨c,by dsimp only;rw[qoT (by omega)];exact hL,fun hn=>⟨(hc hn).1,by dsimp only;rw[qoT (by omega)];exact (hc hn).2⟩⟩
    . dsimp only;rw[qp8];omega
   rcases hr with rfl|⟨d,t,tk,rfl,hdk,ht,hev⟩
   . simp[-getElem?_pos,bS,hSl];exact fin (.sl 0 [] .nil) 0 false [] T3 (by simp) (by simp)
   . simp[-getElem?_pos,bS,hSl];exact fin (.sl 3 (d.map qt) tk) t true d T3 (fun _=>⟨hdk,⟨tk,rfl⟩,ht⟩) (fun _=>hev)
theorem QA:∀ {vs:List Var} {a:List Int},okA vs a->∀ {i:Nat} {v:Var},vs[i]?=some v->∃ x,a[i]?=some x/\(if v.mode=0 then x=v.value else 0<=x/\x<(jz v:Nat))
 | [],_,_,i,v,hv=>by simp at hv
 | w::vs,[],h,i,v,hv=>h.elim
 | w::vs,y::a,h,0,v,hv=>by
  simp at hv;subst hv;exact⟨y,rfl,h.1⟩
 | w::vs,y::a,h,i+1,v,hv=>by
  obtain⟨x,h1,h2⟩:=QA (vs:=vs) (a:=a) h.2 (i:=i) (v:=v) (by simpa using hv);exact⟨x,by simpa using h1,h2⟩
def eqP (p:Problem)(q:Nat×Nat):Ex:=eqE (Z9 p q.1) (q.2:Int)
theorem eq_sat {p:Problem}(hv:qk p=0){a:List Int}(ha:a∈yD p.vars){i:Nat}{v:Var}(hi:p.vars[i]?=some v){n:Nat}(hn:n<=65535) :
 decide (yn (kx p.vars a) (eqP p (i,n))≠0)=decide (a[i]?=some (n:Int)):=by
 have hok:=Q1.1 ha;obtain⟨x,hx,hxr⟩:=QA hok hi;have hm:=qoR hi;have hve:=ze (js hv v hm);have hvv:=Wa (js hv v hm);have hx2:0<=x/\x<=65535:=by
  split at hxr
  . omega
  . have h3:2 ^ v.width.toNat<=2 ^ 8:=qpl (by omega) (by omega);unfold jz at hxr;omega
 have hf:=QO (yM hv) hi hx;rw[Jg hx2.1 hx2.2]at hf;have hen:kx p.vars a=(p.vars.zip a).map fun q=>⟨q.1.name,q.2⟩:=by unfold kx;rw[if_pos hok.len]
 have hnm:Z9 p i=v.name:=by simp[Z9,hi]
 have ho:=qmc hve.1 (n:=(n:Int)) (by omega) (by omega);have hex:zc p.vars (eqE v.name (n:Int))=0:=ho.valid (by omega) (by omega) (by unfold ve;rw[qpk];exact⟨v,hm,by simp⟩);have hval:zf (eqE v.name (n:Int))=0:=by
  by_cases h0:zf (eqE v.name (n:Int))=0
  . exact h0
  . unfold zc at hex;rw[if_pos h0]at hex;exact absurd hex h0
 have hkn:kH (kx p.vars a) (eqE v.name (n:Int))=true:=by
  unfold kH;rw[qbH,hen];simp[askV,eqE,wL,jL,Ex.op,Ex.name,hf]
 have hev:yn (kx p.vars a) (eqE v.name (n:Int))=b2i (decide (x=(n:Int))):=by
  unfold yn;rw[if_pos ⟨hval,hkn⟩,wR,hen];simp[eqE,wL,jL,Ex.op,Ex.name,Ex.args,Ex.n,Wx,wR,hf,opW,yx,b2i]
 show decide (yn _ (eqE (Z9 p i) (n:Int))≠0)=_;rw[hnm,hev,hx];by_cases hxn:x=(n:Int)<;>simp[b2i,hxn]
noncomputable def okC (p:Problem)(R:List Ex)(c:List (Nat×Nat)):Bool:=(yD p.vars).any fun a=>v8 p.vars R a&&c.all fun q=>decide (a[q.1]?=some (q.2:Int))
noncomputable def qel (p:Problem)(R:List Ex)(fx:Nat->Option Nat):List Nat->List (Nat×Nat)->Nat
 | [],c=>if okC p R c=true then 1 else 0
 | i::r,c=>if okC p R c=true then (vM (jG p i) (fx i)).foldl (fun s v=>sat (s+sat (wtP p i v*qel p R fx r (c++[(i,v)])))) 0 else 0
def qlp (p:Problem)(c:List (Nat×Nat)):Prop:=∀ q∈c,(∃ v,p.vars[q.1]?=some v/\v.mode≠0)/\q.2<2 ^ jG p q.1
theorem wid8 {p:Problem}(hv:qk p=0){i:Nat}{v:Var}(hi:p.vars[i]?=some v):jG p i=v.width.toNat/\v.width.toNat<=8:=by
 have hve:=ze (js hv v (qoR hi));exact⟨by unfold jG zE;rw[hi],by omega⟩
theorem qlp.lt {p:Problem}(hv:qk p=0){c:List (Nat×Nat)}(h:qlp p c){q:Nat×Nat}(hq:q∈c):q.2<=65535:=by
 obtain⟨⟨v,hi,_⟩,hlt⟩:=h q hq;obtain⟨h1,h2⟩:=wid8 hv hi;rw[h1]at hlt;have h3:2 ^ v.width.toNat<=2 ^ 8:=qpl (by omega) (by omega);omega
theorem qcO {p:Problem}(hv:qk p=0)(R:List Ex){c:List (Nat×Nat)}(hc:qlp p c):yd p.vars (R++c.map (eqP p))=okC p R c:=by
 unfold yd okC;apply qpF.2;simp only[qpk];have key:∀ a∈yD p.vars,v8 p.vars (R++c.map (eqP p)) a=(v8 p.vars R a&&c.all fun q=>decide (a[q.1]?=some (q.2:Int))):=fun a ha=>by
  unfold v8;rw[qqj,qr4];congr 1;apply qpF.2;simp only[qo1];refine forall_congr' fun q=>forall_congr' fun hq=>?_
  obtain⟨⟨v,hi,_⟩,_⟩:=hc q hq;have:=eq_sat hv ha hi (hc.lt hv hq);simp only[Function.comp];rw[<- this]
 constructor
 . rintro⟨a,ha,h⟩;exact⟨a,ha,by rw[<- key a ha];exact h⟩
 . rintro⟨a,ha,h⟩;exact⟨a,ha,by rw[key a ha];exact h⟩
def qiC (p:Problem)(fx:Nat->Option Nat):Prop:=∀ i x,fx i=some x->x<2 ^ jG p i
theorem qfI {p:Problem}{fx:Nat->Option Nat}(hf:qiC p fx){i v:Nat}(h:v∈vM (jG p i) (fx i)):v<2 ^ jG p i:=by
 unfold vM at h;split at h
 . exact qpZ.1 h
 . rename_i x hx;have:=qpt.1 h;subst this;exact hf i _ hx
theorem yT {α:Type}{f g:Nat->α->Nat}:∀ {l:List α} {s:Nat},(∀ s,∀ v∈l,f s v=g s v)->l.foldl f s=l.foldl g s
 | [],s,h=>rfl
 | a::r,s,h=>by
  rw[qpA,qpA,h s a (by simp)];exact yT fun s v hv=>h s v (by simp[hv])
theorem qfT {p:Problem}(hv:qk p=0)(R:List Ex){fx:Nat->Option Nat}(hf:qiC p fx):∀ (g:List Nat) (c:List (Nat×Nat)),(∀ i∈g,∃ v,p.vars[i]?=some v/\v.mode≠0)->qlp p c ->
 qbv p fx g (R++c.map (eqP p))=qel p R fx g c:=by
 intro g
 induction g with
 | nil=>intro c _ hc;unfold qbv qel;rw[qcO hv R hc]
 | cons i r ih=>
  intro c hg hc;unfold qbv qel;rw[qcO hv R hc];split
  . refine yT fun s v hvm=>?_
    have hc':qlp p (c++[(i,v)]):=fun q hq=>by
     rcases qpg.1 hq with hq|hq
     . exact hc q hq
     . have:=qpt.1 hq;subst this;exact⟨hg i (by simp),qfI hf hvm⟩
    have:=ih (c++[(i,v)]) (fun j hj=>hg j (by simp[hj])) hc';rw[qpP,<- qpm]at this;rw[<- this];rfl
  . rfl
def LW (p:Problem)(l:List Nat):Nat:=(l.map (jG p)).sum
theorem qdT (p:Problem)(l m:List Nat):LW p (l++m)=LW p l+LW p m:=by simp[LW]
theorem Vd {p:Problem}(hv:qk p=0):∀ l:List Nat,yy p.vars (l.map fun n:Nat=>(n:Int))=(LW p l:Int)
 | []=>rfl
 | i::r=>by
  have ih:=Vd hv r;have h0:=Q3 (vt hv) i;have e1:yy p.vars ((i::r).map fun n:Nat=>(n:Int))=zE p.vars i+yy p.vars (r.map fun n:Nat=>(n:Int)):=by simp[yy]
  have e2:LW p (i::r)=jG p i+LW p r:=by simp[LW]
  rw[e1,e2,ih];unfold jG;omega
theorem qae {p:Problem}(hv:qk p=0){k i:Nat}(hk:(NG p).flatten[k]?=some i):Za (qz p) i=LW p ((NG p).flatten.take k):=by
 have hk':p.groups.flatten[k]?=some (i:Int):=by rw[Ql hv,qpe,hk];rfl
 have h1:=Yf hv hk';rw[Ql hv,<- List.map_take,Vd hv]at h1;unfold Za;rw[qo5,h1];simp
theorem qis {p:Problem}(hv:qk p=0):LW p (NG p).flatten<=20:=by
 have:=Yr hv;rw[Ql hv,Vd hv]at this;omega
theorem qhA {d:List Nd}(h:DagOk d){node l w v:Nat}(hn:node<d.length)(hl:l<=lvD d node)(hlw:l+w<=20):∀ k,k<=w ->
 wz d l w v node k<d.length/\l+k<=lvD d (wz d l w v node k)/\∀ b,(∀ j,j<k->b (l+j)=v.testBit (w-1-j))->evD d b node=evD d b (wz d l w v node k):=by
 intro k
 induction k with
 | zero=>intro _;exact⟨hn,hl,fun b _=>rfl⟩
 | succ k ih=>
  intro hk;obtain⟨h1,h2,h3⟩:=ih (by omega);rw[Zr];obtain⟨g1,g2,g3⟩:=ym h h1 (L:=l+k) (by omega) h2 (v.testBit (w-1-k));refine⟨g1,by omega,fun b hb=>?_⟩;rw[h3 b fun j hj=>hb j (by omega),g3 b (hb k (by omega))]
def Ji (p:Problem)(b:Nat->Bool)(i:Nat):Nat:=zg (fun k=>b (Za (qz p) i+jG p i-1-k)) (jG p i)
theorem JJ {p:Problem}{b:Nat->Bool}{i v:Nat}(h:Ji p b i=v){j:Nat}(hj:j<jG p i):b (Za (qz p) i+j)=v.testBit (jG p i-1-j):=by
 rw[<- h];unfold Ji;rw[qO];have h1:jG p i-1-j<jG p i:=by omega
 have h2:Za (qz p) i+jG p i-1-(jG p i-1-j)=Za (qz p) i+j:=by omega
 simp[h1,h2]
def qh1:List (Nat×Nat)->Nat->Bool
 | [],_=>false
 | (w,v)::r,l=>if l<w then v.testBit (w-1-l) else qh1 r (l-w)
theorem qdN:∀ (l:List (Nat×Nat)) (k w v j:Nat),l[k]?=some (w,v)->j<w->qh1 l (((l.take k).map (·.1)).sum+j)=v.testBit (w-1-j)
 | [],k,w,v,j,h,_=>by simp at h
 | (w',v')::r,0,w,v,j,h,hj=>by
  simp at h;obtain⟨rfl,rfl⟩:=h;simp[qh1,hj]
 | (w',v')::r,k+1,w,v,j,h,hj=>by
  have ih:=qdN r k w v j (by simpa using h) hj;have e:((((w',v')::r).take (k+1)).map (·.1)).sum+j=w'+(((r.take k).map (·.1)).sum+j):=by simp;omega
  rw[e,qh1,if_neg (by omega),qpD,ih]
theorem qdM {p:Problem}(hv:qk p=0)(val:Nat->Nat):∃ b,∀ i∈(NG p).flatten,Ji p b i=val i % 2 ^ jG p i:=by
 refine⟨qh1 ((NG p).flatten.map fun i=>(jG p i,val i)),fun i hi=>?_⟩;obtain⟨k,hk⟩:=qpx hi;have hl:=qae hv hk;rw[<- ZF];unfold Ji;apply zh;intro j hj;have h:=qdN ((NG p).flatten.map fun i=>(jG p i,val i)) k (jG p i) (val i) (jG p i-1-j) (by rw[qpe,hk];rfl) (by omega);have e1:(((((NG p).flatten.map fun i=>(jG p i,val i)).take k).map (·.1)).sum)=LW p ((NG p).flatten.take k):=by
  unfold LW;rw[<- List.map_take,qp9];rfl
 rw[e1,<- hl]at h;have e2:Za (qz p) i+jG p i-1-j=Za (qz p) i+(jG p i-1-j):=by omega
 have e3:jG p i-1-(jG p i-1-j)=j:=by omega
 rw[e2,h,e3]
theorem qcU {p:Problem}(hv:qk p=0){i:Nat}{v:Var}(hi:p.vars[i]?=some v)(hm:v.mode≠0):i∈(NG p).flatten:=by
 obtain⟨k,hk⟩:=qgc hv hi hm;rw[Ql hv,qpe]at hk
 cases h:(NG p).flatten[k]? with
 | none=>rw[h]at hk;cases hk
 | some j=>
  rw[h]at hk;have:(j:Int)=i:=by simpa using hk
  have:j=i:=by omega
  exact this▸qoR h
theorem vC {p:Problem}(hv:qk p=0){i:Nat}(hi:i∈(NG p).flatten):∃ v,p.vars[i]?=some v/\v.mode≠0:=by
 obtain⟨k,hk⟩:=qio hv hi;obtain⟨n,v,hn,hv',hm⟩:=JU ((jP hv).2.1 _ (qoR hk));have:n=i:=by omega
 subst this;exact⟨v,hv',hm⟩
theorem wB {p:Problem}(hv:qk p=0)(b:Nat->Bool){i:Nat}{v:Var}(hi:p.vars[i]?=some v)(hm:v.mode≠0):(vI p.vars (qz p) b)[i]?=some (Ji p b i:Int):=by
 have hl:i<(qz p).length:=by rw[yI];exact (qoQ.1 hi).1
 have hli:=qoS hl;rw[qcn hi hli];unfold qfO Ji Za;rw[if_neg hm,(wid8 hv hi).1,qo5,hli];rfl
theorem W4 {p:Problem}(b:Nat->Bool){i:Nat}{v:Var}(hi:p.vars[i]?=some v)(hm:v.mode=0):(vI p.vars (qz p) b)[i]?=some v.value:=by
 have hl:i<(qz p).length:=by rw[yI];exact (qoQ.1 hi).1
 have hli:=qoS hl;rw[qcn hi hli];unfold qfO;rw[if_pos hm]
theorem qlN:∀ {vs:List Var} {a:List Int},a.length=vs.length->(∀ (i:Nat) (v:Var),vs[i]?=some v->∃ x,a[i]?=some x/\(if v.mode=0 then x=v.value else 0<=x/\x<(jz v:Nat)))->okA vs a
 | [],[],_,_=>trivial
 | [],_::_,h,_=>by simp at h
 | _::_,[],h,_=>by simp at h
 | v::vs,x::a,h,hx=>by
  obtain⟨y,hy,hc⟩:=hx 0 v rfl;simp at hy;subst hy;exact⟨hc,qlN (by simpa using h) fun i w hw=>by
   obtain⟨y,hy,hc⟩:=hx (i+1) w (by simpa using hw);exact⟨y,by simpa using hy,hc⟩⟩
theorem qmP (p:Problem)(b:Nat->Bool)(i:Nat):Ji p b i<2 ^ jG p i:=yO _ _
theorem W5 {p:Problem}(hv:qk p=0)(b:Nat->Bool):vI p.vars (qz p) b∈yD p.vars:=by
 refine Q1.2 (qlN (Jy (yI p) b) fun i v hi=>?_);by_cases hm:v.mode=0
 . exact⟨_,W4 b hi hm,by rw[if_pos hm]⟩
 . refine⟨_,wB hv b hi hm,?_⟩;rw[if_neg hm];have:=qmP p b i;rw[(wid8 hv hi).1]at this;unfold jz;omega
theorem qaY {p:Problem}(hv:qk p=0){a:List Int}(ha:a∈yD p.vars):∃ b,vI p.vars (qz p) b=a/\∀ i∈(NG p).flatten,a[i]?=some (Ji p b i:Int):=by
 have hok:=Q1.1 ha;obtain⟨b,hb⟩:=qdM hv (fun i=>(a.getD i 0).toNat);have hr:∀ i∈(NG p).flatten,a[i]?=some (Ji p b i:Int):=fun i hi=>by
  obtain⟨v,hv',hm⟩:=vC hv hi;obtain⟨x,hx,hc⟩:=QA hok hv';rw[if_neg hm]at hc;have:=hb i hi;rw[qo5,hx]at this;unfold jz at hc;rw[(wid8 hv hv').1]at this;dsimp only[Option.getD]at this;have hlt:x.toNat<2 ^ v.width.toNat:=by omega
  rw[qqJ hlt]at this;rw[hx,this];congr 1;omega
 refine⟨b,?_,hr⟩;apply qpJ;intro i
 cases hi:p.vars[i]? with
 | none=>
  have hl:=List.getElem?_eq_none_iff.1 hi;rw[qph (by rw[Jy (yI p)];exact hl),qph (by rw[hok.len];exact hl)]
 | some v=>
  by_cases hm:v.mode=0
  . obtain⟨x,hx,hc⟩:=QA hok hi;rw[if_pos hm]at hc;rw[W4 b hi hm,hx,hc]
  . rw[wB hv b hi hm,hr i (qcU hv hi hm)]
structure Inv (p:Problem)(d:List Nd)(root:Nat)(c:List (Nat×Nat))(node:Nat):Prop where
 lt:node<d.length
 lv:LW p (c.map (·.1))<=lvD d node
 pre:∃ post,(NG p).flatten=c.map (·.1)++post
 ev:∀ b,(∀ q∈c,Ji p b q.1=q.2)->evD d b root=evD d b node
theorem qdo {p:Problem}(hv:qk p=0){d:List Nd}(hd:DagOk d){root:Nat}{c:List (Nat×Nat)}{node:Nat}(h:Inv p d root c node){i v:Nat}(hi:∃ post,(NG p).flatten=c.map (·.1)++i::post) :
 Inv p d root (c++[(i,v)]) (wz d (Za (qz p) i) (jG p i) v node (jG p i)):=by
 obtain⟨post,hpost⟩:=hi;have hk:(NG p).flatten[(c.map (·.1)).length]?=some i:=by rw[hpost,qoY (qo0 _),qp1];rfl
 have htk:(NG p).flatten.take (c.map (·.1)).length=c.map (·.1):=by rw[hpost,List.take_left]
 have hlv:=qae hv hk;rw[htk]at hlv;have hle:LW p (c.map (·.1))+jG p i<=20:=by
  have h1:=qis hv;rw[hpost,qdT]at h1;have:LW p (i::post)=jG p i+LW p post:=by simp[LW]
  omega
 obtain⟨h1,h2,h3⟩:=qhA hd (w:=jG p i) (v:=v) h.lt (l:=Za (qz p) i) (by rw[hlv];exact h.lv) (by omega) (jG p i) (qo0 _);refine⟨h1,?_,⟨post,by rw[hpost];simp⟩,fun b hb=>?_⟩
 . rw[qpP,qdT];have:LW p (([(i,v)]:List (Nat×Nat)).map (·.1))=jG p i:=by simp[LW]
   omega
 . rw[h.ev b fun q hq=>hb q (by simp[hq])];exact h3 b fun j hj=>JJ (hb (i,v) (by simp)) hj
theorem Ke {p:Problem}{b b':Nat->Bool}{i:Nat}(h:∀ j,j<jG p i->b (Za (qz p) i+j)=b' (Za (qz p) i+j)):Ji p b i=Ji p b' i:=by
 unfold Ji;apply zh;intro k hk;have e:Za (qz p) i+jG p i-1-k=Za (qz p) i+(jG p i-1-k):=by omega
 rw[e];exact h _ (by omega)
theorem qdD {q:Nat×Nat}:∀ {c:List (Nat×Nat)},(c.map (·.1)).Nodup->q∈c->c.find? (fun q'=>q'.1==q.1)=some q
 | [],_,h=>by simp at h
 | x::r,hn,h=>by
  rw[qo2,qrm]at hn;rcases qpj.1 h with rfl|h
  . simp
  . have hne:¬ x.1=q.1:=fun e=>hn.1 (qpi.2 ⟨q,h,e.symm⟩)
    have:(x.1==q.1)=false:=by simpa using hne
    rw[qro,this];exact qdD hn.2 h
theorem qdn {p:Problem}(hv:qk p=0){R:List Ex}{d:List Nd}(hd:DagOk d){root:Nat}(hroot:∀ b,evD d b root=v8 p.vars R (vI p.vars (qz p) b)){c:List (Nat×Nat)}(hc:qlp p c)(hnd:(NG p).flatten.Nodup){node:Nat}(h:Inv p d root c node) :
 okC p R c = !decide (node=0):=by
 obtain⟨post,hpost⟩:=h.pre;have hmem:∀ q∈c,q.1∈(NG p).flatten:=fun q hq=>by rw[hpost];exact qpg.2 (.inl (qpi.2 ⟨q,hq,rfl⟩))
 by_cases h0:node=0
 . have:okC p R c=false:=by
    rw[qpY];intro hok;unfold okC at hok;obtain⟨a,ha,hs⟩:=qpk.1 hok;rw[qoW]at hs;obtain⟨b,hb,hbv⟩:=qaY hv ha;have hf:∀ q∈c,Ji p b q.1=q.2:=fun q hq=>by
     have h1:=hbv _ (hmem q hq);have h2:=of_decide_eq_true (qo1.1 hs.2 q hq);rw[h1]at h2;have:(Ji p b q.1:Int)=(q.2:Int):=by simpa using h2
     omega
    have h1:=h.ev b hf;rw[hroot,hb,h0,Jc hd]at h1;rw[h1]at hs;cases hs.1
   rw[this,h0];rfl
 . have:okC p R c=true:=by
    obtain⟨b,hb⟩:=qom hd node node h.lt (qo0 _) h0;obtain⟨b0,hb0⟩:=qdM hv (fun i=>match c.find? (fun q=>q.1==i) with|some q=>q.2|none=>0);obtain⟨b',hb'⟩:∃ b':Nat->Bool,b'=fun l=>if l<LW p (c.map (·.1)) then b0 l else b l:=⟨_,rfl⟩
    have hnode:evD d b' node=true:=by
     rw[<- hb];apply YA hd h.lt;intro l hl;have:=h.lv;rw[hb'];dsimp only;rw[if_neg (by omega)]
    have hcn:(c.map (·.1)).Nodup:=by
     rw[hpost]at hnd;exact (qqi.1 hnd).1
    have hf:∀ q∈c,Ji p b' q.1=q.2:=fun q hq=>by
     obtain⟨k,hk⟩:=qpx hq;have hkl:=(qoQ.1 hk).1;have hkF:(NG p).flatten[k]?=some q.1:=(by rw[hpost,qo3 (by simpa using hkl),qpe,hk];rfl);have hlv:=qae hv hkF;have htk:(NG p).flatten.take k=(c.map (·.1)).take k:=(by rw[hpost,qpN (by simp;omega)]);have hw:Za (qz p) q.1+jG p q.1<=LW p (c.map (·.1)):=by
      rw[hlv,htk];have h1:(c.map (·.1))=(c.map (·.1)).take k++q.1::(c.map (·.1)).drop (k+1):=by
       have h2:(c.map (·.1)).drop k=q.1::(c.map (·.1)).drop (k+1):=by
        have h3:(c.map (·.1))[k]?=some q.1:=(by rw[qpe,hk];rfl);obtain⟨h4,h5⟩:=qoQ.1 h3;rw[qo9 h4,h5]
       rw[<- h2,qpI]
      have h2:=congrArg (LW p) h1;rw[qdT]at h2;have h3:LW p (q.1::(c.map (·.1)).drop (k+1))=jG p q.1+LW p ((c.map (·.1)).drop (k+1)):=(by simp[LW]);omega
     have e1:Ji p b' q.1=Ji p b0 q.1:=Ke fun j hj=>by
      rw[hb'];dsimp only;rw[if_pos (by omega)]
     rw[e1,hb0 _ (hmem q hq)];have hfind:=qdD hcn hq;rw[hfind];exact qqJ (hc q hq).2
    have hr:=h.ev b' hf;rw[hnode,hroot]at hr;unfold okC;refine qpk.2 ⟨_,W5 hv b',?_⟩;rw[hr,qpT,qo1];intro q hq;obtain⟨⟨v,hi,hm⟩,_⟩:=hc q hq;rw[wB hv b' hi hm,hf q hq];simp
   rw[this];simp[h0]
theorem qfW {p:Problem}(hv:qk p=0){R:List Ex}{d:List Nd}(hd:DagOk d){root:Nat}(hroot:∀ b,evD d b root=v8 p.vars R (vI p.vars (qz p) b))(hnd:(NG p).flatten.Nodup){fx:Nat->Option Nat}(hf:qiC p fx) :
 ∀ (g:List Nat) (c:List (Nat×Nat)) (node:Nat),(∃ post,(NG p).flatten=c.map (·.1)++g++post)->qlp p c->Inv p d root c node->Vf p (qz p) d fx g node=qel p R fx g c:=by
 intro g
 induction g with
 | nil=>
  intro c node hg hc h;unfold Vf qel;rw[qdn hv hd hroot hc hnd h];by_cases h0:node=0<;>simp[h0]
 | cons i r ih=>
  intro c node hg hc h;obtain⟨post,hpost⟩:=hg;unfold Vf qel;rw[qdn hv hd hroot hc hnd h];by_cases h0:node=0
  . simp[h0]
  . simp only[h0,if_false,decide_false,qsi,if_true];refine yT fun s v hvm=>?_
    have hiF:i∈(NG p).flatten:=(by rw[hpost];simp);have hc':qlp p (c++[(i,v)]):=fun q hq=>by
     rcases qpg.1 hq with hq|hq
     . exact hc q hq
     . have:=qpt.1 hq;subst this;exact⟨vC hv hiF,qfI hf hvm⟩
    rw[ih (c++[(i,v)]) _ ⟨post,by rw[hpost];simp⟩ hc' (qdo hv hd h ⟨r++post,by rw[hpost];simp⟩)]
theorem qnS {p:Problem}{d:List Nd}{root:Nat}(h:root<d.length):Inv p d root [] root:=⟨h,by simp[LW],⟨_,rfl⟩,fun b _=>rfl⟩
theorem qka {p:Problem}(hv:qk p=0){d:List Nd}(hd:DagOk d){root:Nat}(val:Nat->Nat):∀ (l:List Nat) (c:List (Nat×Nat)) (node:Nat),Inv p d root c node->(∃ post,(NG p).flatten=c.map (·.1)++l++post) ->
 Inv p d root (c++l.map fun i=>(i,val i)) (l.foldl (fun node i=>wz d (Za (qz p) i) (jG p i) (val i) node (jG p i)) node):=by
 intro l
 induction l with
 | nil=>intro c node h _;simpa using h
 | cons i r ih=>
  intro c node h ⟨post,hpost⟩;have h1:=qdo hv hd h (i:=i) (v:=val i) ⟨r++post,by rw[hpost];simp⟩;have h2:=ih _ _ h1 ⟨post,by rw[hpost];simp⟩;rw[qpA,qo2];simpa using h2
theorem qlm {p:Problem}{gi:Nat}{g:List Nat}(h:(NG p)[gi]?=some g):∃ post,(NG p).flatten=((NG p).take gi).flatten++g++post:=by
 have h1:=qpI gi (NG p);obtain⟨h2,h3⟩:=qoQ.1 h;have h4:(NG p).drop gi=g::(NG p).drop (gi+1):=by rw[qo9 h2,h3]
 refine⟨((NG p).drop (gi+1)).flatten,?_⟩
 conv=>lhs;rw[<- h1,h4]
 simp
theorem qln {p:Problem}(hv:qk p=0):(NG p).flatten.Nodup:=by
 have h:=(jP hv).2.2.1;rw[Ql hv]at h;exact (qrB.1 h).imp fun hne e=>hne (by rw[e])
theorem qmR {s:Spc}{d:List Nd}(h:SpV s d)(hroot:s.small=true->∀ b,evD d b s.root=v8 s.p.vars s.R (vI s.p.vars (qz s.p) b)){fx:Nat->Option Nat}(hf:qiC s.p fx){a:List Int}(ha:∀ i∈(NG s.p).flatten,aN a i<2 ^ jG s.p i){gi:Nat}(hgi:gi<(NG s.p).length) :
 Wh s d fx a gi=qel s.p s.R fx ((NG s.p).getD gi []) (((NG s.p).take gi).flatten.map fun i=>(i,aN a i)):=by
 obtain⟨g,hg⟩:∃ g,(NG s.p)[gi]?=some g:=⟨_,qoS hgi⟩;have hgd:(NG s.p).getD gi []=g:=by simp[qo5,hg]
 obtain⟨post,hpost⟩:=qlm hg;have hin:∀ i∈((NG s.p).take gi).flatten,i∈(NG s.p).flatten:=fun i hi=>by rw[hpost];simp[hi]
 have hc:qlp s.p (((NG s.p).take gi).flatten.map fun i=>(i,aN a i)):=fun q hq=>by
  obtain⟨i,hi,rfl⟩:=qpi.1 hq;exact⟨vC h.vp (hin i hi),ha i (hin i hi)⟩
 have hmm:(((NG s.p).take gi).flatten.map fun i=>(i,aN a i)).map (·.1)=((NG s.p).take gi).flatten:=by
  rw[qp9];exact List.map_id _
 unfold Wh;rw[hgd];by_cases hsm:s.small=true
 . rw[if_pos hsm];obtain⟨hd,_,hr⟩:=h.dag hsm;have hi:=qka h.vp hd (aN a) ((NG s.p).take gi).flatten [] s.root (qnS hr) ⟨g++post,by rw[hpost];simp⟩;rw[h.lv];have:=qfW h.vp hd (hroot hsm) (qln h.vp) hf g _ _ ⟨post,by rw[qpa,hmm];exact hpost⟩ (by rw[qpa];exact hc) hi;rw[qpa]at this;rw[<- this];unfold QB;rw[h.lv]
 . rw[if_neg hsm];have:=qfT h.vp s.R hf g _ (fun i hi=>vC h.vp (by rw[hpost];simp[hi])) hc;rw[<- this];unfold Ks;rw[qp9];rfl
noncomputable def qiZ (p:Problem)(fx:Nat->Option Nat)(a:List Int)(gi:Nat):Nat:=qel p (qZ p).1 fx ((NG p).getD gi []) (((NG p).take gi).flatten.map fun i=>(i,aN a i))
noncomputable def We (p:Problem)(gi:Int)(a:List Int):Int×Int :=
 if gi<0\/((NG p).length:Int)<=gi\/qM p.vars a=false then (0,1)
 else if qiZ p (fun _=>none) a gi.toNat=0 then (0,11) else if qiZ p (fun _=>none) a gi.toNat=lim then (0,3) else (qiZ p (fun _=>none) a gi.toNat,0)
noncomputable def chP (p:Problem)(a:List Int)(gi:Nat):List Nat->(Nat->Option Nat)->Int->List Int->List Int
 | [],_,_,out=>out
 | i::r,fx,idx,out=>
  let q:=ku (fun x=>qiZ p (kz fx i x) a gi) (2 ^ wdN p i) 0 idx
  chP p a gi r (kz fx i q.1) q.2 (out.set i q.1)
noncomputable def Zu (p:Problem)(gi:Nat)(a:List Int)(idx:Int):List Int:=chP p a gi (yP ((NG p).getD gi [])) (fun _=>none) idx a
theorem qfw (p:Problem)(i:Nat):wdN p i=jG p i:=by
 unfold wdN jG zE;split<;>rename_i h<;>simp[h]
theorem qc6 (F:Nat->Nat):∀ (n x:Nat) (idx:Int),0<n->x<=(ku F n x idx).1/\(ku F n x idx).1<x+n
 | 0,x,idx,h=>absurd h (by omega)
 | n+1,x,idx,_=>by
  unfold ku;split
  . exact⟨qo0 _,by simp⟩
  . split
    . exact⟨qo0 _,by simp⟩
    . have:=qc6 F n (x+1) (idx-F x) (by omega);omega
theorem J2 {F G:Nat->Nat}:∀ (n x:Nat) (idx:Int),(∀ y,x<=y->y<x+n->F y=G y)->ku F n x idx=ku G n x idx
 | 0,x,idx,h=>rfl
 | n+1,x,idx,h=>by
  unfold ku;rw[h x (qo0 _) (by omega),J2 n (x+1) _ fun y h1 h2=>h y (by omega) (by omega)]
theorem qiC.upd {p:Problem}{fx:Nat->Option Nat}(h:qiC p fx){i x:Nat}(hx:x<2 ^ jG p i):qiC p (kz fx i x):=fun k y hy=>by
 unfold kz at hy;split at hy
 . rename_i e;subst e;have:x=y:=by simpa using hy
   omega
 . exact h k y hy
theorem chS_eq {s:Spc}{d:List Nd}{p:Problem}{a:List Int}{gi:Nat}(hp:s.p=p)(hs:∀ fx,qiC p fx->Wh s d fx a gi=qiZ p fx a gi):∀ (l:List Nat) (fx:Nat->Option Nat) (idx:Int) (out:List Int),qiC p fx->chS s d a gi l fx idx out=chP p a gi l fx idx out:=by
 intro l
 induction l with
 | nil=>intro fx idx out _;rfl
 | cons i r ih=>
  intro fx idx out hf;have hpos:0<2 ^ jG p i:=qq6 _;have hpk:ku (fun x=>Wh s d (kz fx i x) a gi) (2 ^ wdN s.p i) 0 idx=ku (fun x=>qiZ p (kz fx i x) a gi) (2 ^ wdN p i) 0 idx:=by
   rw[hp];refine J2 _ _ _ fun y _ hy=>hs _ (hf.upd ?_)
   rw[qfw]at hy;omega
  have hlt:=qc6 (fun x=>qiZ p (kz fx i x) a gi) (2 ^ wdN p i) 0 idx (qq6 _);rw[qfw]at hlt;unfold chS chP;dsimp only;rw[hpk];rw[qfw]at *;exact ih _ _ _ (hf.upd (by omega))
theorem Zz {p:Problem}(h:qk p=0){a:List Int}(ha:qM p.vars a=true):a.length=p.vars.length/\∀ i∈(NG p).flatten,aN a i<2 ^ jG p i:=by
 unfold qM at ha;simp only[qoW,decide_eq_true_eq]at ha;refine⟨ha.1,fun i hi=>?_⟩;obtain⟨v,hv,hm⟩:=vC h hi;have hil:=(qoQ.1 hv).1;obtain⟨x,hx⟩:∃ x,a[i]?=some x:=⟨_,qoS (by omega)⟩;have hz:(v,x)∈p.vars.zip a:=qoR (i:=i) (qql.2 ⟨hv,hx⟩);have h1:=qo1.1 ha.2 _ hz;unfold z5 at h1;simp only[qoW,decide_eq_true_eq]at h1;have h3:((2 ^ v.width.toNat:Nat):Int)=(2:Int) ^ v.width.toNat:=by simp
 unfold aN;rw[qo5,hx,(wid8 h hv).1];dsimp only[Option.getD];omega
structure SpR (p:Problem)(s:Spc)(d:List Nd):Prop where
 pe:s.p=p
 R:s.R=(qZ p).1
 v:SpV s d
 root:s.small=true->∀ b,evD d b s.root=v8 p.vars (qZ p).1 (vI p.vars (qz p) b)
theorem SpR.sum {p:Problem}{s:Spc}{d:List Nd}(h:SpR p s d){a:List Int}(ha:qM p.vars a=true){gi:Nat}(hgi:gi<(NG p).length)(fx:Nat->Option Nat)(hf:qiC p fx):Wh s d fx a gi=qiZ p fx a gi:=by
 obtain⟨hp,hR,hv,hr⟩:=h;subst hp;have:=qmR hv (by rw[hR];exact hr) hf (Zz hv.vp ha).2 hgi;rw[this,hR];rfl
theorem SpR.tot {p:Problem}{s:Spc}{d:List Nd}(h:SpR p s d)(gi:Int)(a:List Int):Kh s d gi a=We p gi a:=by
 unfold Kh We;rw[h.pe];split
 . rfl
 . rename_i hn;have h1:qM p.vars a=true:=by
    cases hA:qM p.vars a with
    | true=>rfl
    | false=>exact absurd (.inr (.inr hA)) hn
   have h2:gi.toNat<(NG p).length:=by
    have:¬ gi<0:=fun e=>hn (.inl e)
    have:¬ ((NG p).length:Int)<=gi:=fun e=>hn (.inr (.inl e))
    omega
   rw[h.sum h1 h2 _ (fun i x hx=>by cases hx)]
theorem SpR.ch {p:Problem}{s:Spc}{d:List Nd}(h:SpR p s d){a:List Int}(ha:qM p.vars a=true){gi:Nat}(hgi:gi<(NG p).length)(idx:Int):WY s d gi a idx=Zu p gi a idx:=by
 unfold WY Zu;rw[chS_eq h.pe (fun fx hf=>h.sum ha hgi fx hf) _ _ _ _ (fun i x hx=>by cases hx),h.pe]
theorem qhV (p:Problem)(a:List Int)(gi:Nat):∀ (l:List Nat) (fx:Nat->Option Nat) (idx:Int) (out:List Int),(chP p a gi l fx idx out).length=out.length
 | [],_,_,_=>rfl
 | i::r,fx,idx,out=>by
  unfold chP;dsimp only;rw[qhV p a gi r];simp
theorem qch (p:Problem)(gi:Nat)(a:List Int)(idx:Int):(Zu p gi a idx).length=a.length:=qhV _ _ _ _ _ _ _
noncomputable def qiY (p:Problem)(R:List Ex)(fx:Nat->Option Nat)(a:List Int)(gi:Nat):Nat:=qel p R fx ((NG p).getD gi []) (((NG p).take gi).flatten.map fun i=>(i,aN a i))
noncomputable def ZY (p:Problem)(R:List Ex)(gi:Int)(a:List Int):Int×Int :=
 if gi<0\/((NG p).length:Int)<=gi\/qM p.vars a=false then (0,1)
 else if qiY p R (fun _=>none) a gi.toNat=0 then (0,11) else if qiY p R (fun _=>none) a gi.toNat=lim then (0,3) else (qiY p R (fun _=>none) a gi.toNat,0)
noncomputable def chPR (p:Problem)(R:List Ex)(a:List Int)(gi:Nat):List Nat->(Nat->Option Nat)->Int->List Int->List Int
 | [],_,_,out=>out
 | i::r,fx,idx,out=>
  let q:=ku (fun x=>qiY p R (kz fx i x) a gi) (2 ^ wdN p i) 0 idx
  chPR p R a gi r (kz fx i q.1) q.2 (out.set i q.1)
noncomputable def qkW (p:Problem)(R:List Ex)(gi:Nat)(a:List Int)(idx:Int):List Int:=chPR p R a gi (yP ((NG p).getD gi [])) (fun _=>none) idx a
theorem chP_R (p:Problem)(a:List Int)(gi:Nat):∀ (l:List Nat) (fx:Nat->Option Nat) (idx:Int) (out:List Int),chP p a gi l fx idx out=chPR p (qZ p).1 a gi l fx idx out
 | [],_,_,_=>rfl
 | i::r,fx,idx,out=>by
  unfold chP chPR;exact chP_R p a gi r _ _ _
theorem qlt (p:Problem)(gi:Int)(a:List Int):We p gi a=ZY p (qZ p).1 gi a:=rfl
theorem qhQ (p:Problem)(gi:Nat)(a:List Int)(idx:Int):Zu p gi a idx=qkW p (qZ p).1 gi a idx:=chP_R _ _ _ _ _ _ _
theorem qes {p:Problem}(hv:qk p=0)(hs:p.soft=[])(hd:p.dists=[])(h:yd p.vars p.hard=true):qZ p=(p.hard,0):=by
 have hn:zH p=p.hard:=by
  unfold zH j9 vN;rw[if_pos hv,hd];simp
 have hns:Y3 p=p.hard:=by
  unfold Y3 vN;rw[hd];simp
 unfold qZ;rw[if_pos hv,hn,if_pos h];unfold ZI QH;rw[hns,hs];simp[Z8,wu]
def p1:Problem:={ vars:=[⟨[97],1,2,0⟩],hard:=[],soft:=[],dists:=[],groups:=[[0]] }
end Go.Proofs.YtkpkjbchlabaaaaGreatDoor
end
section
namespace Go.Abs
open Go Go.RowKit
theorem Pure.ofA {P:Program}{G:Nat->AV}{f:FuncId}{args:List AV}{r:AV}{Q:AV->St->Prop}(h:qf P (Z6 G) f args ⟨[],[]⟩ Q)(hq:∀ v U',Q v U'->q9 (frz U'.H 8 v)=true/\Leq (frz U'.H 8 v) r):Pure P G f args r:=by
 refine⟨h.1,?_⟩;intro w0 ro vs hg hro hvs;have hw:WRel (Z6 G) w0 ro (K0 ro) ⟨[],[]⟩ w0:=⟨Below.refl _ _,hg,hro,fun b o v e _=>e,by simp,fun _ _ _ e=>by simp[K0]at e,fun _ _ e=>by simp[K0]at e,by simp,fun _ _ e=>by simp[K0]at e,
  fun _ _ _ _ e=>by simp[K0]at e,rfl,fun _ _ _ _ _ e=>by simp[K0]at e,fun _ _ e=>by simp[K0]at e,fun _ _ e=>by simp[K0]at e⟩
 refine (h.2 w0 ro (K0 ro) w0 vs hw hvs).mono ?_;rintro e w' (⟨v',v,U',K',rfl,h1,h2,hv,hQ⟩|⟨c,U',K',rfl,h1,h2,hX⟩)
 . obtain⟨q1,q2⟩:=h2.end_ro;obtain⟨g1,g2⟩:=hq v U' hQ;exact⟨v',wJ w0 w' K'.ro,rfl,h2.below,fun b o v e=>Jk _ _ _ _ _ _ (h1.ro b o v e),q1,q2,Leq.rel _ _ g2 (qhc h2 8 hv)⟩
 . exact hX.elim
end Go.Abs
namespace Go.Proofs.YtkpkjbchlabaaaaGreatDoor
open Go Go.Abs
theorem qfn.frz {b:Nat}{H:List Blk}{v:AV}{a:List Int}(h:qfn b H v a)(n:Nat):q9 (Abs.frz H (n+1) v)=true/\Leq (Abs.frz H (n+1) v) (.sl 1 (a.map qu) .none)/\(q9 v=true->Leq v (.sl 1 (a.map qu) .none)):=by
 rcases h with ⟨rfl,sz,tok,rfl⟩|⟨h0,rfl,hb⟩
 . have h1:∀ t,Leq (.sl sz [] t) (.sl 1 (([]:List Int).map qu) .none):=fun t=>by simp[Leq]
   refine⟨?_,?_,fun _=>h1 _⟩
   . unfold Abs.frz;split
     . assumption
     . simp
   . unfold Abs.frz;split
     . exact h1 _
     . simp
 . have ho:jo b 1 qu H (.ms b 0 a.length 1) a:=.inr ⟨h0,rfl,by rw[hb,kR]⟩;exact⟨ho.frzNo (fun _=>rfl) (fun _=>rfl) (fun _=>rfl) n,ho.frz (fun _=>rfl) (fun _=>rfl) (fun _=>rfl) n,fun h=>by simp[q9]at h⟩
end Go.Proofs.YtkpkjbchlabaaaaGreatDoor
end
section
namespace Go.Proofs.YtkpkjbchlabaaaaGreatDoor
open Go Go.Abs
theorem qky {env:List Signal}{e:Ex}(h:yn env e≠0):Y6 env e=0/\wM env e≠0:=by
 unfold yn at h;split at h
 . rename_i hc;refine⟨?_,h⟩;unfold Y6;rw[if_neg (by simp[hc.1]),if_pos hc.2]
 . exact absurd rfl h
theorem qea {v:Var}(h:jF v=0):0<=v.value/\v.value<(2:Int) ^ v.width.toNat:=by
 unfold jF at h;split at h
 . cases h
 . split at h
   . cases h
   . rename_i hc;omega
def v1:Var:=⟨[97],1,2,0⟩
end Go.Proofs.YtkpkjbchlabaaaaGreatDoor
end
