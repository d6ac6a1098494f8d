/- A part of the proof. -/
import Derived.Test.YtkpkjbchlabaaaaGreatDoorEa41
import Derived.KernelRfl
set_option maxHeartbeats 16000000
set_option linter.unusedVariables false
set_option linter.unusedSimpArgs false
set_option maxRecDepth 100000
set_option linter.defProp false
section
namespace Go.Proofs.YtkpkjbchlabaaaaGreatDoor
open Go Go.Abs
theorem qkk (vs:List Var)(d:Dist)(h:d.weights=[]):JK vs d=jP 0:=by
 unfold JK;split
 . rename_i v _;have:qb9 v d.weights=[]:=by
    unfold qb9;rw[h];have:(qac [])=fun _=>false:=by funext n;rfl
    rw[this];simp
   rw[this];rfl
 . rfl
theorem qov (vs:List Var)(l:List Ex)(a:List Int)(h:jP 0∈l):w7 vs l a=false:=by
 have h0:yo (yY vs a) (jP 0)=0:=by
  unfold yo;split
  . rw[yF];simp[jP,QA,Ex.op,Ex.n]
  . rfl
 unfold w7;rw[qtG];exact⟨_,h,by simp[h0]⟩
theorem Qx {p:Problem}(h:VQ p)(hd:p.dists.length<=10000)(hs5:p.soft.length<=10000)(he:(qm p).2=0) :
 qk p=0/\(∀ e∈(qm p).1,zo p.vars e=0/\J2 e)/\(qm p).1.length<=50000/\∀ d∈p.dists,d.weights≠[]:=by
 obtain⟨hv,hsat,hR,_⟩:=QW (by rw[<- vP];exact he);have hnk:=Q7 h hv;have hsl:yn p=w6 p:=by unfold yn;rw[if_pos hv]
 rw[hR];refine⟨hv,fun e hm=>?_,?_,fun d hdm hw=>?_⟩
 . have hmm:e∈zM p++p.soft:=by
    rcases qqJ.1 hm with hm|hm
    . exact qqJ.2 (.inl hm)
    . obtain⟨q,hq,rfl⟩:=qqT.1 hm;obtain⟨k,_,hk⟩:=qic hq;exact qqJ.2 (.inr (qqq hk))
   have:=hnk e hmm;exact⟨by simpa[wI] using this.1,this.2⟩
 . have h1:=qeq p;have h2:=h.hard;have h3:(w6 p).length=p.dists.length:=(by simp[w6]);simp only[qqu,qq7,zM,hsl];omega
 . have hin:jP 0∈zM p:=by
    unfold zM;rw[hsl];exact qqJ.2 (.inr (qqT.2 ⟨d,hdm,qkk _ _ hw⟩))
   unfold jY at hsat;obtain⟨a,_,ha⟩:=qqR.1 hsat;rw[qov _ _ _ hin]at ha;cases ha
def qoI:List (Nat×Sch×List Nat):=[(4,.step 1 [8,7,6] (.step 2 [8,7,6,5,3] (.step 3 [8,7,6,5] (.step 4 [8,7,6,5] (.fork (.cons 0 (.step 5 [8,7,6] (.step 6 [8,7] (.step 7 [8] (.step 8 [] (.done))))) (.cons 5 (.step 0 [8,7,6] (.step 6 [8,7] (.step 7 [8] (.step 8 [] (.done))))) (.nil))))))),[5])]
def OpQ (p:Problem)(H:List Blk)(r:AV)(U':St):Prop :=
 KpL [] H U'.H/\(((qm p).2≠0/\r=.tup [.nilp,.int .i64 (qm p).2]) \/
  ((qm p).2=0/\∃ s d,r=.tup [.ptr s.S 0,.int .i64 0]/\H.length<=s.S/\H.length<=s.L/\H.length<=s.LL/\s.p=p/\s.R=(qm p).1/\SpOk s U'.H/\SpV s d /\
    (s.small=true->∀ b,evD d b s.root=w7 p.vars (qm p).1 (v8 p.vars (qE p) b))))
theorem qed (p:Problem)(h:VQ p)(hv20:p.vars.length<=20)(hb:kc p.vars (qC p)<=18)(hd:p.dists.length<=10000)(hs5:p.soft.length<=10000)(hws:∀ d∈p.dists,d.weights.length<=1000)(H:List Blk)(T:List (Option Nat)) :
 qf Tryz.prog GG 22 [.agg (qD p)] ⟨H,T⟩ (OpQ p H):=by
 refine qf.kO ⟨false,qoI,[],[]⟩ qe Tryz.func22 rfl (by kernel_rfl) ?_;by_cases he:(qm p).2=0
 case neg=>
  have hr:=qdv p h hv20 hb hd hs5;simp[-getElem?_pos];refine qc.call hr (by simp) ?_;have hq:∀ u T',OpQ p H (.tup [.nilp,.int .i64 (qm p).2]) ⟨H++u,T'⟩:=fun u T'=>⟨KpL.app,.inl ⟨he,rfl⟩⟩
  generalize (qm p).2=er at *;simp[-getElem?_pos,he];exact hq _ _
 case pos=>
  obtain⟨hv,hk,hl,hwn⟩:=Qx h hd hs5 he;have hlv:=qb8 p h hv;simp[-getElem?_pos];refine qc.acall (qmJ p h hv20 hb hd hs5 he _ _) ?_;rintro r ⟨H1,T1⟩ ⟨tok,rfl,htok,hk1⟩;dsimp only at hk1;have bx:=hk1.2 _ _ lk0 (by simp);have hkH:KpL [] H H1:=KpL.app.trans hk1;have hlen1:=hk1.1;simp only[qqu,qqH,qrn]at hlen1;obtain⟨R,hR⟩:∃ R,R=(qm p).1:=⟨_,rfl⟩;rw[<- hR]at htok hk hl ⊢;simp[-getElem?_pos];rw[qJ rfl];simp only[qD]at hlv;simp[-getElem?_pos,qP,bx];refine qc.call hlv (by simp) ?_;simp[-getElem?_pos,qP,bx];have hwg:=qj2 p h hv H1 T1;simp only[qD]at hwg;refine⟨qc.acall hwg ?_,qc.acall hwg ?_⟩
  all_goals
   rintro r ⟨H2,T2⟩ ⟨hk2,L,LL,rfl,hL1,hL2,hwf⟩;dsimp only at hk2 hwf;have bx2:=hk2.2 _ _ bx (by simp);have hkH2:=hkH.trans hk2;have hlen2:=hk2.1;have hLlt:L<H2.length:=(by obtain⟨c,hc,_⟩:=hwf;exact (qqp.1 hc).1);obtain⟨LL',hLL',hLL1,hwf'⟩:∃ LL',LL' < H2.length/\H.length<=LL'/\WFn p L LL' H2:=by
    obtain⟨c,hc,hc2⟩:=hwf;by_cases hpv:p.vars=[]
    . exact⟨L,hLlt,by omega,c,hc,fun hn=>absurd hpv hn⟩
    . exact⟨LL,(qqp.1 (hc2 hpv).2).1,by omega,c,hc,hc2⟩
   simp[-getElem?_pos,qP,bx2,qa bx2,zt,zX,qG];refine qc.acall ((All135 p h hv R (by omega) hk _ _).leq (by simp[qD])) ?_;rintro r ⟨H3,T3⟩ ⟨hk3,hr⟩;dsimp only at hk3;have bS:=hk3.2 _ _ lk0 (by simp);have hSl:=(qqp.1 bS).1;have hkH3:KpL [] H H3:=hkH2.trans (KpL.app.trans hk3);have hwf3:WFn p L LL' H3:=by
    obtain⟨c,hL,hc⟩:=hwf';have hk':=KpL.app.trans hk3;exact⟨c,hk'.2 _ _ hL (by simp),fun hn=>⟨(hc hn).1,hk'.2 _ _ (hc hn).2 (by simp)⟩⟩
   have hws':∀ (i:Nat) (w:List Weight),(zR p.vars.length p.dists)[i]?=some (some w)->w≠[]/\w.length<=1000:=fun i w hi=>by
    obtain⟨d,hd,rfl⟩:=qfZ (qqq hi);exact⟨hwn d hd,hws d hd⟩
   have fin:∀ (dv:AV) (root:Nat) (small:Bool) (d:List Nd) (T':List (Option Nat)),(small=true->DagOk d/\(∃ tok,dv=.sl 3 (d.map qw) tok)/\root<d.length)->(small=true->∀ b,evD d b root=w7 p.vars R (v8 p.vars (qE p) b)) ->
    OpQ p H (.tup [.ptr H2.length 0,.int .i64 0]) ⟨H3.set H2.length (.cells (qD p++[.sl 4 (R.map qr) tok,.sl 1 ((qE p).map qo) .none,dv,.int .i64 root,.bool small,.fn 98 [] [.ptr L 0]])),T'⟩:=by
    intro dv root small d T' hdag hroot;refine⟨hkH3.setF (by have:=hkH2.1;omega),.inr ⟨he,⟨H2.length,L,LL',p,R,tok,qE p,dv,root,small⟩,d,rfl,hkH2.1,by dsimp only;omega,hLL1,rfl,hR,⟨?_,?_,?_⟩,⟨h,hv,hv20,hb,hk,hl,htok,rfl,hdag,hws'⟩,by rw[<- hR];exact hroot⟩⟩
    . exact qqv hSl
    . obtain⟨c,hL,hc⟩:=hwf3;exact⟨c,by dsimp only;rw[qqs (by omega)];exact hL,fun hn=>⟨(hc hn).1,by dsimp only;rw[qqs (by omega)];exact (hc hn).2⟩⟩
    . dsimp only;rw[qrF];omega
   rcases hr with rfl|⟨d,t,tk,rfl,hdk,ht,hev⟩
   . simp[-getElem?_pos,bS,hSl];exact fin (.sl 0 [] .nil) 0 false [] T3 (by simp) (by simp)
   . simp[-getElem?_pos,bS,hSl];exact fin (.sl 3 (d.map qw) tk) t true d T3 (fun _=>⟨hdk,⟨tk,rfl⟩,ht⟩) (fun _=>hev)
theorem kF:∀ {vs:List Var} {a:List Int},okA vs a->∀ {i:Nat} {v:Var},vs[i]?=some v->∃ x,a[i]?=some x/\(if v.mode=0 then x=v.value else 0<=x/\x<(jr v:Nat))
 | [],_,_,i,v,hv=>by simp at hv
 | w::vs,[],h,i,v,hv=>h.elim
 | w::vs,y::a,h,0,v,hv=>by
  simp at hv;subst hv;exact⟨y,rfl,h.1⟩
 | w::vs,y::a,h,i+1,v,hv=>by
  obtain⟨x,h1,h2⟩:=kF (vs:=vs) (a:=a) h.2 (i:=i) (v:=v) (by simpa using hv);exact⟨x,by simpa using h1,h2⟩
def eqP (p:Problem)(q:Nat×Nat):Ex:=eqE (JC p q.1) (q.2:Int)
theorem eq_sat {p:Problem}(hv:qk p=0){a:List Int}(ha:a∈yC p.vars){i:Nat}{v:Var}(hi:p.vars[i]?=some v){n:Nat}(hn:n<=65535) :
 decide (yo (yY p.vars a) (eqP p (i,n))≠0)=decide (a[i]?=some (n:Int)):=by
 have hok:=wX.1 ha;obtain⟨x,hx,hxr⟩:=kF hok hi;have hm:=qqq hi;have hve:=za (jc hv v hm);have hvv:=WY (jc hv v hm);have hx2:0<=x/\x<=65535:=by
  split at hxr
  . omega
  . have h3:2 ^ v.width.toNat<=2 ^ 8:=qqY (by omega) (by omega);unfold jr at hxr;omega
 have hf:=vG (yr hv) hi hx;rw[QN hx2.1 hx2.2]at hf;have hen:yY p.vars a=(p.vars.zip a).map fun q=>⟨q.1.name,q.2⟩:=by unfold yY;rw[if_pos hok.len]
 have hnm:JC p i=v.name:=by simp[JC,hi]
 have ho:=qnA hve.1 (n:=(n:Int)) (by omega) (by omega);have hex:zo p.vars (eqE v.name (n:Int))=0:=ho.valid (by omega) (by omega) (by unfold vF;rw[qqR];exact⟨v,hm,by simp⟩);have hval:zl (eqE v.name (n:Int))=0:=by
  by_cases h0:zl (eqE v.name (n:Int))=0
  . exact h0
  . unfold zo at hex;rw[if_pos h0]at hex;exact absurd hex h0
 have hkn:wg (yY p.vars a) (eqE v.name (n:Int))=true:=by
  unfold wg;rw[qcI,hen];simp[askV,eqE,wR,jP,Ex.op,Ex.name,hf]
 have hev:yo (yY p.vars a) (eqE v.name (n:Int))=b2i (decide (x=(n:Int))):=by
  unfold yo;rw[if_pos ⟨hval,hkn⟩,yF,hen];simp[eqE,wR,jP,Ex.op,Ex.name,Ex.args,Ex.n,QA,yF,hf,opW,yL,b2i]
 show decide (yo _ (eqE (JC p i) (n:Int))≠0)=_;rw[hnm,hev,hx];by_cases hxn:x=(n:Int)<;>simp[b2i,hxn]
noncomputable def okC (p:Problem)(R:List Ex)(c:List (Nat×Nat)):Bool:=(yC p.vars).any fun a=>w7 p.vars R a&&c.all fun q=>decide (a[q.1]?=some (q.2:Int))
noncomputable def qaa (p:Problem)(R:List Ex)(fx:Nat->Option Nat):List Nat->List (Nat×Nat)->Nat
 | [],c=>if okC p R c=true then 1 else 0
 | i::r,c=>if okC p R c=true then (kZ (z5 p i) (fx i)).foldl (fun s v=>sat (s+sat (wtP p i v*qaa p R fx r (c++[(i,v)])))) 0 else 0
def qmL (p:Problem)(c:List (Nat×Nat)):Prop:=∀ q∈c,(∃ v,p.vars[q.1]?=some v/\v.mode≠0)/\q.2<2 ^ z5 p q.1
theorem qmM {p:Problem}(hv:qk p=0){i:Nat}{v:Var}(hi:p.vars[i]?=some v):z5 p i=v.width.toNat/\v.width.toNat<=8:=by
 have hve:=za (jc hv v (qqq hi));exact⟨by unfold z5 zL;rw[hi],by omega⟩
theorem qmL.lt {p:Problem}(hv:qk p=0){c:List (Nat×Nat)}(h:qmL p c){q:Nat×Nat}(hq:q∈c):q.2<=65535:=by
 obtain⟨⟨v,hi,_⟩,hlt⟩:=h q hq;obtain⟨h1,h2⟩:=qmM hv hi;rw[h1]at hlt;have h3:2 ^ v.width.toNat<=2 ^ 8:=qqY (by omega) (by omega);omega
theorem qdU {p:Problem}(hv:qk p=0)(R:List Ex){c:List (Nat×Nat)}(hc:qmL p c):jY p.vars (R++c.map (eqP p))=okC p R c:=by
 unfold jY okC;apply qre.2;simp only[qqR];have key:∀ a∈yC p.vars,w7 p.vars (R++c.map (eqP p)) a=(w7 p.vars R a&&c.all fun q=>decide (a[q.1]?=some (q.2:Int))):=fun a ha=>by
  unfold w7;rw[qrU,qtR];congr 1;apply qre.2;simp only[qqA];refine forall_congr' fun q=>forall_congr' fun hq=>?_
  obtain⟨⟨v,hi,_⟩,_⟩:=hc q hq;have:=eq_sat hv ha hi (hc.lt hv hq);simp only[Function.comp];rw[<- this]
 constructor
 . rintro⟨a,ha,h⟩;exact⟨a,ha,by rw[<- key a ha];exact h⟩
 . rintro⟨a,ha,h⟩;exact⟨a,ha,by rw[key a ha];exact h⟩
def qjY (p:Problem)(fx:Nat->Option Nat):Prop:=∀ i x,fx i=some x->x<2 ^ z5 p i
theorem qgR {p:Problem}{fx:Nat->Option Nat}(hf:qjY p fx){i v:Nat}(h:v∈kZ (z5 p i) (fx i)):v<2 ^ z5 p i:=by
 unfold kZ at h;split at h
 . exact qrr.1 h
 . rename_i x hx;have:=qqX.1 h;subst this;exact hf i _ hx
theorem kh {α:Type}{f g:Nat->α->Nat}:∀ {l:List α} {s:Nat},(∀ s,∀ v∈l,f s v=g s v)->l.foldl f s=l.foldl g s
 | [],s,h=>rfl
 | a::r,s,h=>by
  rw[qq5,qq5,h s a (by simp)];exact kh fun s v hv=>h s v (by simp[hv])
theorem qg6 {p:Problem}(hv:qk p=0)(R:List Ex){fx:Nat->Option Nat}(hf:qjY p fx):∀ (g:List Nat) (c:List (Nat×Nat)),(∀ i∈g,∃ v,p.vars[i]?=some v/\v.mode≠0)->qmL p c ->
 qcv p fx g (R++c.map (eqP p))=qaa p R fx g c:=by
 intro g
 induction g with
 | nil=>intro c _ hc;unfold qcv qaa;rw[qdU hv R hc]
 | cons i r ih=>
  intro c hg hc;unfold qcv qaa;rw[qdU hv R hc];split
  . refine kh fun s v hvm=>?_
    have hc':qmL p (c++[(i,v)]):=fun q hq=>by
     rcases qqJ.1 hq with hq|hq
     . exact hc q hq
     . have:=qqX.1 hq;subst this;exact⟨hg i (by simp),qgR hf hvm⟩
    have:=ih (c++[(i,v)]) (fun j hj=>hg j (by simp[hj])) hc';rw[qrj,<- qqW]at this;rw[<- this];rfl
  . rfl
def LW (p:Problem)(l:List Nat):Nat:=(l.map (z5 p)).sum
theorem qeZ (p:Problem)(l m:List Nat):LW p (l++m)=LW p l+LW p m:=by simp[LW]
theorem V6 {p:Problem}(hv:qk p=0):∀ l:List Nat,yP p.vars (l.map fun n:Nat=>(n:Int))=(LW p l:Int)
 | []=>rfl
 | i::r=>by
  have ih:=V6 hv r;have h0:=Zy (vN hv) i;have e1:yP p.vars ((i::r).map fun n:Nat=>(n:Int))=zL p.vars i+yP p.vars (r.map fun n:Nat=>(n:Int)):=by simp[yP]
  have e2:LW p (i::r)=z5 p i+LW p r:=by simp[LW]
  rw[e1,e2,ih];unfold z5;omega
theorem qbb {p:Problem}(hv:qk p=0){k i:Nat}(hk:(NG p).flatten[k]?=some i):ZH (qE p) i=LW p ((NG p).flatten.take k):=by
 have hk':p.groups.flatten[k]?=some (i:Int):=by rw[QK hv,qqO,hk];rfl
 have h1:=YQ hv hk';rw[QK hv,<- List.map_take,V6 hv]at h1;unfold ZH;rw[qqz,h1];simp
theorem qjP {p:Problem}(hv:qk p=0):LW p (NG p).flatten<=20:=by
 have:=Y5 hv;rw[QK hv,V6 hv]at this;omega
theorem qiT {d:List Nd}(h:DagOk d){node l w v:Nat}(hn:node<d.length)(hl:l<=lvD d node)(hlw:l+w<=20):∀ k,k<=w ->
 wN d l w v node k<d.length/\l+k<=lvD d (wN d l w v node k)/\∀ b,(∀ j,j<k->b (l+j)=v.testBit (w-1-j))->evD d b node=evD d b (wN d l w v node k):=by
 intro k
 induction k with
 | zero=>intro _;exact⟨hn,hl,fun b _=>rfl⟩
 | succ k ih=>
  intro hk;obtain⟨h1,h2,h3⟩:=ih (by omega);rw[ZZ];obtain⟨g1,g2,g3⟩:=yB h h1 (L:=l+k) (by omega) h2 (v.testBit (w-1-k));refine⟨g1,by omega,fun b hb=>?_⟩;rw[h3 b fun j hj=>hb j (by omega),g3 b (hb k (by omega))]
def JJ (p:Problem)(b:Nat->Bool)(i:Nat):Nat:=zm (fun k=>b (ZH (qE p) i+z5 p i-1-k)) (z5 p i)
theorem Yd {p:Problem}{b:Nat->Bool}{i v:Nat}(h:JJ p b i=v){j:Nat}(hj:j<z5 p i):b (ZH (qE p) i+j)=v.testBit (z5 p i-1-j):=by
 rw[<- h];unfold JJ;rw[qQ];have h1:z5 p i-1-j<z5 p i:=by omega
 have h2:ZH (qE p) i+z5 p i-1-(z5 p i-1-j)=ZH (qE p) i+j:=by omega
 simp[h1,h2]
def qjl:List (Nat×Nat)->Nat->Bool
 | [],_=>false
 | (w,v)::r,l=>if l<w then v.testBit (w-1-l) else qjl r (l-w)
theorem qeT:∀ (l:List (Nat×Nat)) (k w v j:Nat),l[k]?=some (w,v)->j<w->qjl l (((l.take k).map (·.1)).sum+j)=v.testBit (w-1-j)
 | [],k,w,v,j,h,_=>by simp at h
 | (w',v')::r,0,w,v,j,h,hj=>by
  simp at h;obtain⟨rfl,rfl⟩:=h;simp[qjl,hj]
 | (w',v')::r,k+1,w,v,j,h,hj=>by
  have ih:=qeT r k w v j (by simpa using h) hj;have e:((((w',v')::r).take (k+1)).map (·.1)).sum+j=w'+(((r.take k).map (·.1)).sum+j):=by simp;omega
  rw[e,qjl,if_neg (by omega),qrk,ih]
theorem qeS {p:Problem}(hv:qk p=0)(val:Nat->Nat):∃ b,∀ i∈(NG p).flatten,JJ p b i=val i % 2 ^ z5 p i:=by
 refine⟨qjl ((NG p).flatten.map fun i=>(z5 p i,val i)),fun i hi=>?_⟩;obtain⟨k,hk⟩:=qqZ hi;have hl:=qbb hv hk;rw[<- Je];unfold JJ;apply zn;intro j hj;have h:=qeT ((NG p).flatten.map fun i=>(z5 p i,val i)) k (z5 p i) (val i) (z5 p i-1-j) (by rw[qqO,hk];rfl) (by omega);have e1:(((((NG p).flatten.map fun i=>(z5 p i,val i)).take k).map (·.1)).sum)=LW p ((NG p).flatten.take k):=by
  unfold LW;rw[<- List.map_take,qrM];rfl
 rw[e1,<- hl]at h;have e2:ZH (qE p) i+z5 p i-1-j=ZH (qE p) i+(z5 p i-1-j):=by omega
 have e3:z5 p i-1-(z5 p i-1-j)=j:=by omega
 rw[e2,h,e3]
theorem QZ {p:Problem}(hv:qk p=0){i:Nat}{v:Var}(hi:p.vars[i]?=some v)(hm:v.mode≠0):i∈(NG p).flatten:=by
 obtain⟨k,hk⟩:=qhs hv hi hm;rw[QK hv,qqO]at hk
 cases h:(NG p).flatten[k]? with
 | none=>rw[h]at hk;cases hk
 | some j=>
  rw[h]at hk;have:(j:Int)=i:=by simpa using hk
  have:j=i:=by omega
  exact this▸qqq h
theorem jh {p:Problem}(hv:qk p=0){i:Nat}(hi:i∈(NG p).flatten):∃ v,p.vars[i]?=some v/\v.mode≠0:=by
 obtain⟨k,hk⟩:=qjK hv hi;obtain⟨n,v,hn,hv',hm⟩:=Yr ((jX hv).2.1 _ (qqq hk));have:n=i:=by omega
 subst this;exact⟨v,hv',hm⟩
theorem wP {p:Problem}(hv:qk p=0)(b:Nat->Bool){i:Nat}{v:Var}(hi:p.vars[i]?=some v)(hm:v.mode≠0):(v8 p.vars (qE p) b)[i]?=some (JJ p b i:Int):=by
 have hl:i<(qE p).length:=by rw[yX];exact (qqp.1 hi).1
 have hli:=qqr hl;rw[qdp hi hli];unfold qg0 JJ ZH;rw[if_neg hm,(qmM hv hi).1,qqz,hli];rfl
theorem VV {p:Problem}(b:Nat->Bool){i:Nat}{v:Var}(hi:p.vars[i]?=some v)(hm:v.mode=0):(v8 p.vars (qE p) b)[i]?=some v.value:=by
 have hl:i<(qE p).length:=by rw[yX];exact (qqp.1 hi).1
 have hli:=qqr hl;rw[qdp hi hli];unfold qg0;rw[if_pos hm]
theorem qna:∀ {vs:List Var} {a:List Int},a.length=vs.length->(∀ (i:Nat) (v:Var),vs[i]?=some v->∃ x,a[i]?=some x/\(if v.mode=0 then x=v.value else 0<=x/\x<(jr v:Nat)))->okA vs a
 | [],[],_,_=>trivial
 | [],_::_,h,_=>by simp at h
 | _::_,[],h,_=>by simp at h
 | v::vs,x::a,h,hx=>by
  obtain⟨y,hy,hc⟩:=hx 0 v rfl;simp at hy;subst hy;exact⟨hc,qna (by simpa using h) fun i w hw=>by
   obtain⟨y,hy,hc⟩:=hx (i+1) w (by simpa using hw);exact⟨y,by simpa using hy,hc⟩⟩
theorem qog (p:Problem)(b:Nat->Bool)(i:Nat):JJ p b i<2 ^ z5 p i:=ka _ _
theorem VW {p:Problem}(hv:qk p=0)(b:Nat->Bool):v8 p.vars (qE p) b∈yC p.vars:=by
 refine wX.2 (qna (J0 (yX p) b) fun i v hi=>?_);by_cases hm:v.mode=0
 . exact⟨_,VV b hi hm,by rw[if_pos hm]⟩
 . refine⟨_,wP hv b hi hm,?_⟩;rw[if_neg hm];have:=qog p b i;rw[(qmM hv hi).1]at this;unfold jr;omega
theorem qbY {p:Problem}(hv:qk p=0){a:List Int}(ha:a∈yC p.vars):∃ b,v8 p.vars (qE p) b=a/\∀ i∈(NG p).flatten,a[i]?=some (JJ p b i:Int):=by
 have hok:=wX.1 ha;obtain⟨b,hb⟩:=qeS hv (fun i=>(a.getD i 0).toNat);have hr:∀ i∈(NG p).flatten,a[i]?=some (JJ p b i:Int):=fun i hi=>by
  obtain⟨v,hv',hm⟩:=jh hv hi;obtain⟨x,hx,hc⟩:=kF hok hv';rw[if_neg hm]at hc;have:=hb i hi;rw[qqz,hx]at this;unfold jr at hc;rw[(qmM hv hv').1]at this;dsimp only[Option.getD]at this;have hlt:x.toNat<2 ^ v.width.toNat:=by omega
  rw[qsq hlt]at this;rw[hx,this];congr 1;omega
 refine⟨b,?_,hr⟩;apply qrm;intro i
 cases hi:p.vars[i]? with
 | none=>
  have hl:=qtL.1 hi;rw[qqS (by rw[J0 (yX p)];exact hl),qqS (by rw[hok.len];exact hl)]
 | some v=>
  by_cases hm:v.mode=0
  . obtain⟨x,hx,hc⟩:=kF hok hi;rw[if_pos hm]at hc;rw[VV b hi hm,hx,hc]
  . rw[wP hv b hi hm,hr i (QZ hv hi hm)]
structure Inv (p:Problem)(d:List Nd)(root:Nat)(c:List (Nat×Nat))(node:Nat):Prop where
 lt:node<d.length
 lv:LW p (c.map (·.1))<=lvD d node
 pre:∃ post,(NG p).flatten=c.map (·.1)++post
 ev:∀ b,(∀ q∈c,JJ p b q.1=q.2)->evD d b root=evD d b node
theorem qes {p:Problem}(hv:qk p=0){d:List Nd}(hd:DagOk d){root:Nat}{c:List (Nat×Nat)}{node:Nat}(h:Inv p d root c node){i v:Nat}(hi:∃ post,(NG p).flatten=c.map (·.1)++i::post) :
 Inv p d root (c++[(i,v)]) (wN d (ZH (qE p) i) (z5 p i) v node (z5 p i)):=by
 obtain⟨post,hpost⟩:=hi;have hk:(NG p).flatten[(c.map (·.1)).length]?=some i:=by rw[hpost,qqy (qqB _),qrH];rfl
 have htk:(NG p).flatten.take (c.map (·.1)).length=c.map (·.1):=by rw[hpost,List.take_left]
 have hlv:=qbb hv hk;rw[htk]at hlv;have hle:LW p (c.map (·.1))+z5 p i<=20:=by
  have h1:=qjP hv;rw[hpost,qeZ]at h1;have:LW p (i::post)=z5 p i+LW p post:=by simp[LW]
  omega
 obtain⟨h1,h2,h3⟩:=qiT hd (w:=z5 p i) (v:=v) h.lt (l:=ZH (qE p) i) (by rw[hlv];exact h.lv) (by omega) (z5 p i) (qqB _);refine⟨h1,?_,⟨post,by rw[hpost];simp⟩,fun b hb=>?_⟩
 . rw[qrj,qeZ];have:LW p (([(i,v)]:List (Nat×Nat)).map (·.1))=z5 p i:=by simp[LW]
   omega
 . rw[h.ev b fun q hq=>hb q (by simp[hq])];exact h3 b fun j hj=>Yd (hb (i,v) (by simp)) hj
theorem KY {p:Problem}{b b':Nat->Bool}{i:Nat}(h:∀ j,j<z5 p i->b (ZH (qE p) i+j)=b' (ZH (qE p) i+j)):JJ p b i=JJ p b' i:=by
 unfold JJ;apply zn;intro k hk;have e:ZH (qE p) i+z5 p i-1-k=ZH (qE p) i+(z5 p i-1-k):=by omega
 rw[e];exact h _ (by omega)
theorem qeJ {q:Nat×Nat}:∀ {c:List (Nat×Nat)},(c.map (·.1)).Nodup->q∈c->c.find? (fun q'=>q'.1==q.1)=some q
 | [],_,h=>by simp at h
 | x::r,hn,h=>by
  rw[qqC,qr4]at hn;rcases qqQ.1 h with rfl|h
  . simp
  . have hne:¬ x.1=q.1:=fun e=>hn.1 (qqT.2 ⟨q,h,e.symm⟩)
    have:(x.1==q.1)=false:=by simpa using hne
    rw[qs1,this];exact qeJ hn.2 h
theorem qer {p:Problem}(hv:qk p=0){R:List Ex}{d:List Nd}(hd:DagOk d){root:Nat}(hroot:∀ b,evD d b root=w7 p.vars R (v8 p.vars (qE p) b)){c:List (Nat×Nat)}(hc:qmL p c)(hnd:(NG p).flatten.Nodup){node:Nat}(h:Inv p d root c node) :
 okC p R c = !decide (node=0):=by
 obtain⟨post,hpost⟩:=h.pre;have hmem:∀ q∈c,q.1∈(NG p).flatten:=fun q hq=>by rw[hpost];exact qqJ.2 (.inl (qqT.2 ⟨q,hq,rfl⟩))
 by_cases h0:node=0
 . have:okC p R c=false:=by
    rw[qrC];intro hok;unfold okC at hok;obtain⟨a,ha,hs⟩:=qqR.1 hok;rw[qqt]at hs;obtain⟨b,hb,hbv⟩:=qbY hv ha;have hf:∀ q∈c,JJ p b q.1=q.2:=fun q hq=>by
     have h1:=hbv _ (hmem q hq);have h2:=of_decide_eq_true (qqA.1 hs.2 q hq);rw[h1]at h2;have:(JJ p b q.1:Int)=(q.2:Int):=by simpa using h2
     omega
    have h1:=h.ev b hf;rw[hroot,hb,h0,JE hd]at h1;rw[h1]at hs;cases hs.1
   rw[this,h0];rfl
 . have:okC p R c=true:=by
    obtain⟨b,hb⟩:=qpU hd node node h.lt (qqB _) h0;obtain⟨b0,hb0⟩:=qeS hv (fun i=>match c.find? (fun q=>q.1==i) with|some q=>q.2|none=>0);obtain⟨b',hb'⟩:∃ b':Nat->Bool,b'=fun l=>if l<LW p (c.map (·.1)) then b0 l else b l:=⟨_,rfl⟩
    have hnode:evD d b' node=true:=by
     rw[<- hb];apply Kf hd h.lt;intro l hl;have:=h.lv;rw[hb'];dsimp only;rw[if_neg (by omega)]
    have hcn:(c.map (·.1)).Nodup:=by
     rw[hpost]at hnd;exact (qra.1 hnd).1
    have hf:∀ q∈c,JJ p b' q.1=q.2:=fun q hq=>by
     obtain⟨k,hk⟩:=qqZ hq;have hkl:=(qqp.1 hk).1;have hkF:(NG p).flatten[k]?=some q.1:=(by rw[hpost,qqD (by simpa using hkl),qqO,hk];rfl);have hlv:=qbb hv hkF;have htk:(NG p).flatten.take k=(c.map (·.1)).take k:=(by rw[hpost,qrt (by simp;omega)]);have hw:ZH (qE p) q.1+z5 p q.1<=LW p (c.map (·.1)):=by
      rw[hlv,htk];have h1:(c.map (·.1))=(c.map (·.1)).take k++q.1::(c.map (·.1)).drop (k+1):=by
       have h2:(c.map (·.1)).drop k=q.1::(c.map (·.1)).drop (k+1):=by
        have h3:(c.map (·.1))[k]?=some q.1:=(by rw[qqO,hk];rfl);obtain⟨h4,h5⟩:=qqp.1 h3;rw[qqF h4,h5]
       rw[<- h2,qq4]
      have h2:=congrArg (LW p) h1;rw[qeZ]at h2;have h3:LW p (q.1::(c.map (·.1)).drop (k+1))=z5 p q.1+LW p ((c.map (·.1)).drop (k+1)):=(by simp[LW]);omega
     have e1:JJ p b' q.1=JJ p b0 q.1:=KY fun j hj=>by
      rw[hb'];dsimp only;rw[if_pos (by omega)]
     rw[e1,hb0 _ (hmem q hq)];have hfind:=qeJ hcn hq;rw[hfind];exact qsq (hc q hq).2
    have hr:=h.ev b' hf;rw[hnode,hroot]at hr;unfold okC;refine qqR.2 ⟨_,VW hv b',?_⟩;rw[hr,qrp,qqA];intro q hq;obtain⟨⟨v,hi,hm⟩,_⟩:=hc q hq;rw[wP hv b' hi hm,hf q hq];simp
   rw[this];simp[h0]
theorem qha {p:Problem}(hv:qk p=0){R:List Ex}{d:List Nd}(hd:DagOk d){root:Nat}(hroot:∀ b,evD d b root=w7 p.vars R (v8 p.vars (qE p) b))(hnd:(NG p).flatten.Nodup){fx:Nat->Option Nat}(hf:qjY p fx) :
 ∀ (g:List Nat) (c:List (Nat×Nat)) (node:Nat),(∃ post,(NG p).flatten=c.map (·.1)++g++post)->qmL p c->Inv p d root c node->V9 p (qE p) d fx g node=qaa p R fx g c:=by
 intro g
 induction g with
 | nil=>
  intro c node hg hc h;unfold V9 qaa;rw[qer hv hd hroot hc hnd h];by_cases h0:node=0<;>simp[h0]
 | cons i r ih=>
  intro c node hg hc h;obtain⟨post,hpost⟩:=hg;unfold V9 qaa;rw[qer hv hd hroot hc hnd h];by_cases h0:node=0
  . simp[h0]
  . simp only[h0,if_false,decide_false,qt9,if_true];refine kh fun s v hvm=>?_
    have hiF:i∈(NG p).flatten:=(by rw[hpost];simp);have hc':qmL p (c++[(i,v)]):=fun q hq=>by
     rcases qqJ.1 hq with hq|hq
     . exact hc q hq
     . have:=qqX.1 hq;subst this;exact⟨jh hv hiF,qgR hf hvm⟩
    rw[ih (c++[(i,v)]) _ ⟨post,by rw[hpost];simp⟩ hc' (qes hv hd h ⟨r++post,by rw[hpost];simp⟩)]
theorem qpp {p:Problem}{d:List Nd}{root:Nat}(h:root<d.length):Inv p d root [] root:=⟨h,by simp[LW],⟨_,rfl⟩,fun b _=>rfl⟩
theorem qlx {p:Problem}(hv:qk p=0){d:List Nd}(hd:DagOk d){root:Nat}(val:Nat->Nat):∀ (l:List Nat) (c:List (Nat×Nat)) (node:Nat),Inv p d root c node->(∃ post,(NG p).flatten=c.map (·.1)++l++post) ->
 Inv p d root (c++l.map fun i=>(i,val i)) (l.foldl (fun node i=>wN d (ZH (qE p) i) (z5 p i) (val i) node (z5 p i)) node):=by
 intro l
 induction l with
 | nil=>intro c node h _;simpa using h
 | cons i r ih=>
  intro c node h ⟨post,hpost⟩;have h1:=qes hv hd h (i:=i) (v:=val i) ⟨r++post,by rw[hpost];simp⟩;have h2:=ih _ _ h1 ⟨post,by rw[hpost];simp⟩;rw[qq5,qqC];simpa using h2
theorem Zu {p:Problem}{gi:Nat}{g:List Nat}(h:(NG p)[gi]?=some g):∃ post,(NG p).flatten=((NG p).take gi).flatten++g++post:=by
 have h1:=qq4 gi (NG p);obtain⟨h2,h3⟩:=qqp.1 h;have h4:(NG p).drop gi=g::(NG p).drop (gi+1):=by rw[qqF h2,h3]
 refine⟨((NG p).drop (gi+1)).flatten,?_⟩
 conv=>lhs;rw[<- h1,h4]
 simp
theorem J3 {p:Problem}(hv:qk p=0):(NG p).flatten.Nodup:=by
 have h:=(jX hv).2.2.1;rw[QK hv]at h;exact (qth.1 h).imp fun hne e=>hne (by rw[e])
theorem qoj {s:Spc}{d:List Nd}(h:SpV s d)(hroot:s.small=true->∀ b,evD d b s.root=w7 s.p.vars s.R (v8 s.p.vars (qE s.p) b)){fx:Nat->Option Nat}(hf:qjY s.p fx){a:List Int}(ha:∀ i∈(NG s.p).flatten,aN a i<2 ^ z5 s.p i){gi:Nat}(hgi:gi<(NG s.p).length) :
 W6 s d fx a gi=qaa s.p s.R fx ((NG s.p).getD gi []) (((NG s.p).take gi).flatten.map fun i=>(i,aN a i)):=by
 obtain⟨g,hg⟩:∃ g,(NG s.p)[gi]?=some g:=⟨_,qqr hgi⟩;have hgd:(NG s.p).getD gi []=g:=by simp[qqz,hg]
 obtain⟨post,hpost⟩:=Zu hg;have hin:∀ i∈((NG s.p).take gi).flatten,i∈(NG s.p).flatten:=fun i hi=>by rw[hpost];simp[hi]
 have hc:qmL s.p (((NG s.p).take gi).flatten.map fun i=>(i,aN a i)):=fun q hq=>by
  obtain⟨i,hi,rfl⟩:=qqT.1 hq;exact⟨jh h.vp (hin i hi),ha i (hin i hi)⟩
 have hmm:(((NG s.p).take gi).flatten.map fun i=>(i,aN a i)).map (·.1)=((NG s.p).take gi).flatten:=by
  rw[qrM];exact List.map_id _
 unfold W6;rw[hgd];by_cases hsm:s.small=true
 . rw[if_pos hsm];obtain⟨hd,_,hr⟩:=h.dag hsm;have hi:=qlx h.vp hd (aN a) ((NG s.p).take gi).flatten [] s.root (qpp hr) ⟨g++post,by rw[hpost];simp⟩;rw[h.lv];have:=qha h.vp hd (hroot hsm) (J3 h.vp) hf g _ _ ⟨post,by rw[qqL,hmm];exact hpost⟩ (by rw[qqL];exact hc) hi;rw[qqL]at this;rw[<- this];unfold Q6;rw[h.lv]
 . rw[if_neg hsm];have:=qg6 h.vp s.R hf g _ (fun i hi=>jh h.vp (by rw[hpost];simp[hi])) hc;rw[<- this];unfold Wi;rw[qrM];rfl
noncomputable def Zv (p:Problem)(fx:Nat->Option Nat)(a:List Int)(gi:Nat):Nat:=qaa p (qm p).1 fx ((NG p).getD gi []) (((NG p).take gi).flatten.map fun i=>(i,aN a i))
noncomputable def wY (p:Problem)(gi:Int)(a:List Int):Int×Int :=
 if gi<0\/((NG p).length:Int)<=gi\/qH p.vars a=false then (0,1)
 else if Zv p (fun _=>none) a gi.toNat=0 then (0,11) else if Zv p (fun _=>none) a gi.toNat=lim then (0,3) else (Zv p (fun _=>none) a gi.toNat,0)
noncomputable def chP (p:Problem)(a:List Int)(gi:Nat):List Nat->(Nat->Option Nat)->Int->List Int->List Int
 | [],_,_,out=>out
 | i::r,fx,idx,out=>
  let q:=jG (fun x=>Zv p (jJ fx i x) a gi) (2 ^ wdN p i) 0 idx
  chP p a gi r (jJ fx i q.1) q.2 (out.set i q.1)
noncomputable def qv (p:Problem)(gi:Nat)(a:List Int)(idx:Int):List Int:=chP p a gi (jR ((NG p).getD gi [])) (fun _=>none) idx a
theorem qak (p:Problem)(i:Nat):wdN p i=z5 p i:=by
 unfold wdN z5 zL;split<;>rename_i h<;>simp[h]
theorem qea (F:Nat->Nat):∀ (n x:Nat) (idx:Int),0<n->x<=(jG F n x idx).1/\(jG F n x idx).1<x+n
 | 0,x,idx,h=>absurd h (by omega)
 | n+1,x,idx,_=>by
  unfold jG;split
  . exact⟨qqB _,by simp⟩
  . split
    . exact⟨qqB _,by simp⟩
    . have:=qea F n (x+1) (idx-F x) (by omega);omega
theorem YA {F G:Nat->Nat}:∀ (n x:Nat) (idx:Int),(∀ y,x<=y->y<x+n->F y=G y)->jG F n x idx=jG G n x idx
 | 0,x,idx,h=>rfl
 | n+1,x,idx,h=>by
  unfold jG;rw[h x (qqB _) (by omega),YA n (x+1) _ fun y h1 h2=>h y (by omega) (by omega)]
theorem qjY.upd {p:Problem}{fx:Nat->Option Nat}(h:qjY p fx){i x:Nat}(hx:x<2 ^ z5 p i):qjY p (jJ fx i x):=fun k y hy=>by
 unfold jJ at hy;split at hy
 . rename_i e;subst e;have:x=y:=by simpa using hy
   omega
 . exact h k y hy
theorem chS_eq {s:Spc}{d:List Nd}{p:Problem}{a:List Int}{gi:Nat}(hp:s.p=p)(hs:∀ fx,qjY p fx->W6 s d fx a gi=Zv p fx a gi):∀ (l:List Nat) (fx:Nat->Option Nat) (idx:Int) (out:List Int),qjY p fx->chS s d a gi l fx idx out=chP p a gi l fx idx out:=by
 intro l
 induction l with
 | nil=>intro fx idx out _;rfl
 | cons i r ih=>
  intro fx idx out hf;have hpos:0<2 ^ z5 p i:=qsy _;have hpk:jG (fun x=>W6 s d (jJ fx i x) a gi) (2 ^ wdN s.p i) 0 idx=jG (fun x=>Zv p (jJ fx i x) a gi) (2 ^ wdN p i) 0 idx:=by
   rw[hp];refine YA _ _ _ fun y _ hy=>hs _ (hf.upd ?_)
   rw[qak]at hy;omega
  have hlt:=qea (fun x=>Zv p (jJ fx i x) a gi) (2 ^ wdN p i) 0 idx (qsy _);rw[qak]at hlt;unfold chS chP;dsimp only;rw[hpk];rw[qak]at *;exact ih _ _ _ (hf.upd (by omega))
theorem Z8 {p:Problem}(h:qk p=0){a:List Int}(ha:qH p.vars a=true):a.length=p.vars.length/\∀ i∈(NG p).flatten,aN a i<2 ^ z5 p i:=by
 unfold qH at ha;simp only[qqt,decide_eq_true_eq]at ha;refine⟨ha.1,fun i hi=>?_⟩;obtain⟨v,hv,hm⟩:=jh h hi;have hil:=(qqp.1 hv).1;obtain⟨x,hx⟩:∃ x,a[i]?=some x:=⟨_,qqr (by omega)⟩;have hz:(v,x)∈p.vars.zip a:=qqq (i:=i) (qrR.2 ⟨hv,hx⟩);have h1:=qqA.1 ha.2 _ hz;unfold z7 at h1;simp only[qqt,decide_eq_true_eq]at h1;have h3:((2 ^ v.width.toNat:Nat):Int)=(2:Int) ^ v.width.toNat:=by simp
 unfold aN;rw[qqz,hx,(qmM h hv).1];dsimp only[Option.getD];omega
structure SpR (p:Problem)(s:Spc)(d:List Nd):Prop where
 pe:s.p=p
 R:s.R=(qm p).1
 v:SpV s d
 root:s.small=true->∀ b,evD d b s.root=w7 p.vars (qm p).1 (v8 p.vars (qE p) b)
theorem SpR.sum {p:Problem}{s:Spc}{d:List Nd}(h:SpR p s d){a:List Int}(ha:qH p.vars a=true){gi:Nat}(hgi:gi<(NG p).length)(fx:Nat->Option Nat)(hf:qjY p fx):W6 s d fx a gi=Zv p fx a gi:=by
 obtain⟨hp,hR,hv,hr⟩:=h;subst hp;have:=qoj hv (by rw[hR];exact hr) hf (Z8 hv.vp ha).2 hgi;rw[this,hR];rfl
theorem SpR.tot {p:Problem}{s:Spc}{d:List Nd}(h:SpR p s d)(gi:Int)(a:List Int):K7 s d gi a=wY p gi a:=by
 unfold K7 wY;rw[h.pe];split
 . rfl
 . rename_i hn;have h1:qH p.vars a=true:=by
    cases hA:qH p.vars a with
    | true=>rfl
    | false=>exact absurd (.inr (.inr hA)) hn
   have h2:gi.toNat<(NG p).length:=by
    have:¬ gi<0:=fun e=>hn (.inl e)
    have:¬ ((NG p).length:Int)<=gi:=fun e=>hn (.inr (.inl e))
    omega
   rw[h.sum h1 h2 _ (fun i x hx=>by cases hx)]
theorem SpR.ch {p:Problem}{s:Spc}{d:List Nd}(h:SpR p s d){a:List Int}(ha:qH p.vars a=true){gi:Nat}(hgi:gi<(NG p).length)(idx:Int):VR s d gi a idx=qv p gi a idx:=by
 unfold VR qv;rw[chS_eq h.pe (fun fx hf=>h.sum ha hgi fx hf) _ _ _ _ (fun i x hx=>by cases hx),h.pe]
theorem qjf (p:Problem)(a:List Int)(gi:Nat):∀ (l:List Nat) (fx:Nat->Option Nat) (idx:Int) (out:List Int),(chP p a gi l fx idx out).length=out.length
 | [],_,_,_=>rfl
 | i::r,fx,idx,out=>by
  unfold chP;dsimp only;rw[qjf p a gi r];simp
theorem QF (p:Problem)(gi:Nat)(a:List Int)(idx:Int):(qv p gi a idx).length=a.length:=qjf _ _ _ _ _ _ _
theorem qfr (d:List Var):(zg d).length=d.length:=by simp[zg]
noncomputable def zD (p:Problem)(R:List Ex)(fx:Nat->Option Nat):List Nat->List (Nat×Nat)->Nat
 | [],c=>if okC p R c=true then 1 else 0
 | i::r,c=>yN (fun v=>wtP p i v*zD p R fx r (c++[(i,v)])) (kZ (z5 p i) (fx i))
theorem qoX {p:Problem}{R:List Ex}{c d:List (Nat×Nat)}(h:okC p R (c++d)=true):okC p R c=true:=by
 unfold okC at h⊢;obtain⟨a,ha,hs⟩:=qqR.1 h;rw[qqt,qrU,qqt]at hs;exact qqR.2 ⟨a,ha,by rw[qqt];exact⟨hs.1,hs.2.1⟩⟩
theorem K6 {p:Problem}{R:List Ex}{fx:Nat->Option Nat}:∀ (g:List Nat) (c:List (Nat×Nat)),okC p R c≠true->zD p R fx g c=0
 | [],c,h=>if_neg h
 | i::r,c,h=>by
  unfold zD;refine Yg fun v _=>?_
  rw[K6 r _ (fun h'=>h (qoX h')),qtT]
theorem sat_wt (w t:Nat)(h:w<=lim):sat (w*sat t)=sat (w*t):=by
 have:=qow w t;have e:sat w=w:=qrN h
 rwa[e]at this
theorem qeG {α:Type}(w t:α->Nat)(hw:∀ x,w x<=lim):∀ (l:List α) (s:Nat),l.foldl (fun s v=>sat (s+sat (w v*sat (t v)))) (sat s)=sat (s+yN (fun v=>w v*t v) l)
 | [],s=>by simp[yN]
 | x::l,s=>by
  rw[qq5,sat_wt _ _ (hw x),qox,qeG w t hw l];simp only[yN];rw[qso]
theorem qaD {p:Problem}{R:List Ex}{fx:Nat->Option Nat}:∀ (g:List Nat) (c:List (Nat×Nat)),qaa p R fx g c=sat (zD p R fx g c)
 | [],c=>by
  unfold qaa zD;split<;>rfl
 | i::r,c=>by
  by_cases h:okC p R c=true
  . unfold qaa zD;rw[if_pos h];have e:(fun s v=>sat (s+sat (wtP p i v*qaa p R fx r (c++[(i,v)]))))=(fun s v=>sat (s+sat (wtP p i v*sat (zD p R fx r (c++[(i,v)]))))):=by
     funext s v;rw[qaD r]
    rw[e];have:=qeG (fun v=>wtP p i v) (fun v=>zD p R fx r (c++[(i,v)])) (fun v=>qdx p i v) (kZ (z5 p i) (fx i)) 0;rw[qr2]at this;exact this
  . rw[K6 _ _ h];unfold qaa;rw[if_neg h];rfl
theorem qaC {α β:Type}(F:α->β->Nat):∀ (l:List α) (m:List β),yN (fun v=>yN (fun x=>F v x) m) l=yN (fun x=>yN (fun v=>F v x) l) m
 | [],m=>by simp only[yN];exact (Yg fun _ _=>rfl).symm
 | a::l,m=>by
  simp only[yN];rw[qaC F l m]
  induction m with
  | nil=>rfl
  | cons x m ih=>simp only[yN];omega
theorem Qq {p:Problem}{R:List Ex}{fx gx:Nat->Option Nat}:∀ (g:List Nat) (c:List (Nat×Nat)),(∀ i∈g,fx i=gx i)->zD p R fx g c=zD p R gx g c
 | [],_,_=>rfl
 | i::r,c,h=>by
  unfold zD;rw[h i (by simp)];refine yW fun v _=>?_
  rw[Qq r _ fun k hk=>h k (by simp[hk])]
theorem Zz {fx:Nat->Option Nat}{i k x:Nat}(h:k≠i):jJ fx i x k=fx k:=if_neg h
theorem qcq {fx:Nat->Option Nat}{i x:Nat}:jJ fx i x i=some x:=if_pos rfl
theorem Qo {p:Problem}{R:List Ex}{fx:Nat->Option Nat}{i:Nat}(hf:fx i=none):∀ (g:List Nat) (c:List (Nat×Nat)),g.Nodup->i∈g->zD p R fx g c=yN (fun x=>zD p R (jJ fx i x) g c) (List.range (2 ^ z5 p i))
 | j::r,c,hn,hi=>by
  rw[qr4]at hn;by_cases hj:j=i
  . subst hj;unfold zD;rw[hf];show yN _ (List.range _)=_;refine yW fun x _=>?_
    rw[qcq];show _=yN _ [x];simp only[yN,qrx];rw[Qq r _ fun k hk=>(Zz (fx:=fx) (x:=x) (i:=j) (by rintro rfl;exact hn.1 hk)).symm]
  . have hi':i∈r:=(qqQ.1 hi).resolve_left (Ne.symm hj);unfold zD;have e:∀ x,kZ (z5 p j) (jJ fx i x j)=kZ (z5 p j) (fx j):=fun x=>by rw[Zz hj]
    simp only[e];rw[<- qaC];refine yW fun v _=>?_
    rw[Qo hf r _ hn.2 hi',<- qdN]
noncomputable def zJ (p:Problem)(val:Nat->Nat):List Nat->Nat
 | []=>1
 | i::r=>wtP p i (val i)*zJ p val r
theorem Qp {p:Problem}{R:List Ex}{fx:Nat->Option Nat}{val:Nat->Nat}:∀ (g:List Nat) (c:List (Nat×Nat)),(∀ i∈g,fx i=some (val i))->zD p R fx g c=zJ p val g*if okC p R (c++g.map fun i=>(i,val i))=true then 1 else 0
 | [],c,_=>by
  unfold zD zJ;simp
 | i::r,c,h=>by
  unfold zD zJ;rw[h i (by simp)];show yN _ [val i]=_;simp only[yN,qrx];rw[Qp r _ fun k hk=>h k (by simp[hk])];rw[qqW,qtk];rfl
theorem qaT {p:Problem}{val:Nat->Nat}:∀ {g:List Nat},0<zJ p val g->∀ i∈g,0<wtP p i (val i)
 | [],_,_,hi=>by cases hi
 | j::r,h,i,hi=>by
  unfold zJ at h;have h1:0<wtP p j (val j):=qsN fun e=>by rw[e,qr1]at h;omega
  have h2:0<zJ p val r:=qsN fun e=>by rw[e,qtT]at h;omega
  rcases qqQ.1 hi with rfl|hi
  . exact h1
  . exact qaT h2 i hi
theorem ZD (F:Nat->Nat):∀ (n x:Nat) (idx:Int),0<=idx->idx<(yN F (List.range' x n):Nat) ->
 (x<=(jG F n x idx).1/\(jG F n x idx).1<x+n)/\0<=(jG F n x idx).2/\(jG F n x idx).2<(F (jG F n x idx).1:Nat)/\idx=(yN F (List.range' x ((jG F n x idx).1-x)):Nat)+(jG F n x idx).2
 | 0,x,idx,h0,h=>by simp[yN]at h;omega
 | n+1,x,idx,h0,h=>by
  rw[qr7]at h;simp only[yN]at h;unfold jG;by_cases h1:idx<(F x:Nat)
  . rw[if_pos h1];refine⟨⟨qqB _,by omega⟩,h0,h1,?_⟩;simp[yN]
  . rw[if_neg h1];by_cases hn:n=0
    . subst hn;simp[yN]at h;omega
    . rw[if_neg hn];have ih:=ZD F n (x+1) (idx-(F x:Nat)) (by omega) (by omega);obtain⟨⟨a1,a2⟩,a3,a4,a5⟩:=ih;generalize jG F n (x+1) (idx-(F x:Nat))=q at *;refine⟨⟨by omega,by omega⟩,a3,a4,?_⟩;have e:q.1-x=(q.1-(x+1))+1:=(by omega);rw[e,qr7];simp only[yN];omega
theorem vt (p:Problem)(fx:Nat->Option Nat)(a:List Int)(gi:Nat):Zv p fx a gi=sat (zD p (qm p).1 fx ((NG p).getD gi []) (((NG p).take gi).flatten.map fun i=>(i,aN a i))):=qaD _ _
theorem qmm {p:Problem}{a:List Int}{gi:Nat}{g:List Nat}(hg:(NG p).getD gi []=g)(hn:g.Nodup):∀ (l:List Nat) (fx:Nat->Option Nat) (idx:Int) (out:List Int),l.Nodup->(∀ i∈l,fx i=none/\i∈g/\i<out.length) ->
 0<=idx->idx<(zD p (qm p).1 fx g (((NG p).take gi).flatten.map fun i=>(i,aN a i)):Nat)->zD p (qm p).1 fx g (((NG p).take gi).flatten.map fun i=>(i,aN a i))<lim ->
 ∃ fx':Nat->Option Nat,(∀ i∈l,∃ x:Nat,fx' i=some x/\x<2 ^ z5 p i/\(chP p a gi l fx idx out)[i]?=some (x:Int))/\(∀ k,k∉l->fx' k=fx k/\(chP p a gi l fx idx out)[k]?=out[k]?)/\0<zD p (qm p).1 fx' g (((NG p).take gi).flatten.map fun i=>(i,aN a i)):=by
 generalize hc:(((NG p).take gi).flatten.map fun i=>(i,aN a i))=c;intro l
 induction l with
 | nil=>
  intro fx idx out _ _ h0 h1 _;exact⟨fx,fun i hi=>(by cases hi),fun k _=>⟨rfl,rfl⟩,by omega⟩
 | cons i r ih=>
  intro fx idx out hl hm h0 h1 h2;rw[qr4]at hl;obtain⟨hfi,hig,hio⟩:=hm i (by simp);have hsp:=Qo (p:=p) (R:=(qm p).1) hfi g c hn hig;have hle:∀ x,x<2 ^ z5 p i->zD p (qm p).1 (jJ fx i x) g c<=zD p (qm p).1 fx g c:=fun x hx=>by
   rw[hsp];exact qcw (f:=fun x=>zD p (qm p).1 (jJ fx i x) g c) (qrr.2 hx)
  have hF:∀ x,x<2 ^ z5 p i->Zv p (jJ fx i x) a gi=zD p (qm p).1 (jJ fx i x) g c:=fun x hx=>by
   rw[vt,hg,hc];have:=hle x hx;exact qrN (by omega)
  have hw:wdN p i=z5 p i:=qak p i;have hsum:yN (fun x=>Zv p (jJ fx i x) a gi) (List.range' 0 (2 ^ wdN p i))=zD p (qm p).1 fx g c:=by
   rw[hsp,hw,<- qrD];exact yW fun x hx=>hF x (qrr.1 hx)
  obtain⟨⟨_,q1⟩,q2,q3,_⟩:=ZD (fun x=>Zv p (jJ fx i x) a gi) (2 ^ wdN p i) 0 idx h0 (by rw[hsum];exact h1);unfold chP;dsimp only;generalize jG (fun x=>Zv p (jJ fx i x) a gi) (2 ^ wdN p i) 0 idx=q at *;have hq1:q.1<2 ^ z5 p i:=by rw[<- hw];omega
  rw[hF _ hq1]at q3;obtain⟨fx',f1,f2,f3⟩:=ih (jJ fx i q.1) q.2 (out.set i q.1) hl.2 (fun k hk=>by
   obtain⟨a1,a2,a3⟩:=hm k (by simp[hk]);exact⟨by rw[Zz (by rintro rfl;exact hl.1 hk)];exact a1,a2,by simpa using a3⟩) q2 q3 (by have:=hle _ hq1;omega)
  refine⟨fx',fun k hk=>?_,fun k hk=>?_,f3⟩
  . rcases qqQ.1 hk with rfl|hk
    . obtain⟨b1,b2⟩:=f2 k hl.1;exact⟨q.1,by rw[b1,qcq],hq1,by rw[b2,qqv hio]⟩
    . exact f1 k hk
  . have hki:k≠i:=fun e=>hk (by simp[e])
    obtain⟨b1,b2⟩:=f2 k (fun h=>hk (by simp[h]));exact⟨by rw[b1,Zz hki],by rw[b2,qqs (Ne.symm hki)]⟩
theorem qa3 {α:Type}[DecidableEq α]:∀ {a b:List α},a.Nodup->(∀ x∈a,x∈b)->a.length<=b.length
 | [],_,_,_=>by simp
 | x::a,b,hn,hs=>by
  rw[qr4]at hn;have hx:=hs x (by simp);have h1:a.length<=(b.erase x).length:=qa3 hn.2 fun y hy=>by
   have hne:y≠x:=(by rintro rfl;exact hn.1 hy);exact (List.mem_erase_of_ne hne).2 (hs y (by simp[hy]))
  rw[qtS hx]at h1;have:=qt5 hx;simp only[qqH];omega
theorem Ww {α:Type}[DecidableEq α]:∀ {b a:List α},a.Nodup->(∀ x∈a,x∈b)->b.length<=a.length->b.Nodup
 | [],_,_,_,_=>List.nodup_nil
 | x::b,a,hn,hs,hl=>by
  have hx:x∉b:=fun hx=>by
   have:=qa3 hn (b:=b) fun y hy=>by
    rcases qqQ.1 (hs y hy) with rfl|h
    . exact hx
    . exact h
   simp at hl;omega
  refine qr4.2 ⟨hx,Ww (hn.erase x) (fun y hy=>?_) ?_⟩
  . rw[hn.mem_erase_iff]at hy;exact (qqQ.1 (hs y hy.2)).resolve_left hy.1
  . have:=List.length_erase (a:=x) (l:=a);simp only[qqH]at hl;split at this<;>omega
theorem Yh {g:List Nat}(h:g.Nodup):(jR g).Nodup:=Ww h (fun x hx=>QR.2 hx) (by rw[qaG];exact qqB _)
structure GoodA (p:Problem)(a:List Int):Prop where
 len:a.length=p.vars.length
 st:∀ (i:Nat) (v:Var),p.vars[i]?=some v->v.mode=0->a[i]?=some v.value
 nn:∀ (i:Nat) (v:Var) (x:Int),p.vars[i]?=some v->v.mode≠0->a[i]?=some x->0<=x
theorem qf5 (p:Problem):GoodA p (zg p.vars):=by
 refine⟨qfr _,fun i v hi hm=>?_,fun i v x hi hm hx=>?_⟩
 . unfold zg;rw[qqO,hi];simp[hm]
 . unfold zg at hx;rw[qqO,hi]at hx;simp[hm]at hx;omega
def yh (p:Problem)(a:List Int)(gi:Nat):List (Nat×Nat):=((NG p).take gi).flatten.map fun i=>(i,aN a i)
theorem qi9 {p:Problem}(hv:qk p=0){gi:Nat}(hgi:gi<(NG p).length){a:List Int}(ha:GoodA p a){idx:Int}(h0:0<=idx)(h1:idx<(zD p (qm p).1 (fun _=>none) ((NG p).getD gi []) (yh p a gi):Nat))(h2:zD p (qm p).1 (fun _=>none) ((NG p).getD gi []) (yh p a gi)<lim) :
 GoodA p (qv p gi a idx)/\okC p (qm p).1 (yh p (qv p gi a idx) (gi+1))=true/\(∀ i,i∉(NG p).getD gi []->(qv p gi a idx)[i]?=a[i]?)/\∀ i∈(NG p).getD gi [],0<wtP p i (aN (qv p gi a idx) i)/\aN (qv p gi a idx) i<2 ^ z5 p i:=by
 have hgg:=qqr hgi;obtain⟨g,hg⟩:∃ g,(NG p).getD gi []=g:=⟨_,rfl⟩;have hgs:(NG p)[gi]?=some g:=by rw[qqz,hgg]at hg;rw[hgg];exact congrArg some hg
 have hnf:=J3 hv;obtain⟨post,hpost⟩:=Zu hgs;have hgn:g.Nodup:=by
  rw[hpost]at hnf;exact (qra.1 (qra.1 hnf).1).2.1
 have hdis:∀ i∈g,i∉((NG p).take gi).flatten:=fun i hi hi2=>by
  rw[hpost]at hnf;exact (qra.1 (qra.1 hnf).1).2.2 i hi2 i hi rfl
 have hgm:∀ i∈g,i∈(NG p).flatten:=fun i hi=>by rw[hpost];simp[hi]
 have hs1:∀ i,i∈jR g↔i∈g:=fun i=>QR
 have hs2:g.Nodup->(jR g).Nodup:=Yh;rw[hg]at h1 h2 ⊢;obtain⟨fx',f1,f2,f3⟩:=qmm hg hgn (jR g) (fun _=>none) idx a (hs2 hgn) (fun i hi=>by
  obtain⟨v,hv',_⟩:=jh hv (hgm i ((hs1 i).1 hi));have:=(qqp.1 hv').1;exact⟨rfl,(hs1 i).1 hi,by rw[ha.len];exact this⟩) h0 h1 h2
 have hce:qv p gi a idx=chP p a gi (jR g) (fun _=>none) idx a:=by unfold qv;rw[hg]
 have hlen:=QF p gi a idx;rw[<- hce]at f1 f2;generalize qv p gi a idx=b at *;have hout:∀ i,i∉g->b[i]?=a[i]? := fun i hi=>(f2 i fun h=>hi ((hs1 i).1 h)).2
 have hin:∀ i∈g,fx' i=some (aN b i)/\aN b i<2 ^ z5 p i/\b[i]?=some (aN b i:Int):=fun i hi=>by
  obtain⟨x,x1,x2,x3⟩:=f1 i ((hs1 i).2 hi);have:aN b i=x:=by unfold aN;rw[qqz,x3];simp
  rw[this];exact⟨x1,x2,x3⟩
 have hpre:((NG p).take gi).flatten.map (fun i=>(i,aN b i))=yh p a gi:=by
  unfold yh;apply qrz;intro i hi;have:aN b i=aN a i:=by unfold aN;rw[qqz,qqz,hout i fun h=>hdis i h hi]
  rw[this]
 have hfix:=Qp (p:=p) (R:=(qm p).1) (fx:=fx') (val:=aN b) g (yh p a gi) (fun i hi=>(hin i hi).1);have f3':0<zD p (qm p).1 fx' g (yh p a gi):=f3;rw[hfix]at f3';have hok:okC p (qm p).1 (yh p a gi++g.map fun i=>(i,aN b i))=true:=by
  apply Classical.byContradiction;intro h;rw[if_neg h,qtT]at f3';omega
 have hpw:0<zJ p (aN b) g:=qsN fun e=>by rw[e,qr1]at f3';omega
 refine⟨⟨by rw[hlen];exact ha.len,fun i v hi hm=>?_,fun i v x hi hm hx=>?_⟩,?_,hout,fun i hi=>⟨qaT hpw i hi,(hin i hi).2.1⟩⟩
 . rw[hout i fun h=>?_]
   . exact ha.st i v hi hm
   . obtain⟨v',hv',hm'⟩:=jh hv (hgm i h);rw[hi]at hv';cases hv';exact hm' hm
 . by_cases h:i∈g
   . have:=(hin i h).2.2;rw[hx]at this;have:x=(aN b i:Int):=Option.some.inj this;omega
   . rw[hout i h]at hx;exact ha.nn i v x hi hm hx
 . have e:yh p b (gi+1)=yh p a gi++g.map fun i=>(i,aN b i):=by
    rw[<- hpre];unfold yh;rw[qqU,hgs];simp
   rw[e];exact hok
theorem qoi {p:Problem}{gi:Nat}{a:List Int}(h:(wY p gi a).2=0):gi<(NG p).length/\qH p.vars a=true/\(wY p gi a).1=(zD p (qm p).1 (fun _=>none) ((NG p).getD gi []) (yh p a gi):Nat)/\0<zD p (qm p).1 (fun _=>none) ((NG p).getD gi []) (yh p a gi)/\zD p (qm p).1 (fun _=>none) ((NG p).getD gi []) (yh p a gi)<lim:=by
 unfold wY at h⊢;split at h
 . cases h
 . rename_i hn;split at h
   . cases h
   . rename_i h1;split at h
     . cases h
     . rename_i h2;rw[if_neg hn,if_neg h1,if_neg h2];have hg:gi<(NG p).length:=by
        have:¬ ((NG p).length:Int)<=gi:=fun e=>hn (.inr (.inl e))
        omega
       have ha:qH p.vars a=true:=by
        cases hA:qH p.vars a with
        | true=>rfl
        | false=>exact absurd (.inr (.inr hA)) hn
       have e:Zv p (fun _=>none) a (gi:Int).toNat=sat (zD p (qm p).1 (fun _=>none) ((NG p).getD gi []) (yh p a gi)):=vt _ _ _ _;rw[e]at h1 h2 ⊢;have h3:=sat_lt h2;rw[h3]at h1 ⊢;refine⟨hg,ha,rfl,qsN h1,?_⟩;have:=Yk (zD p (qm p).1 (fun _=>none) ((NG p).getD gi []) (yh p a gi));omega
structure EndA (p:Problem)(a:List Int)(gi:Nat):Prop where
 good:GoodA p a
 ok:okC p (qm p).1 (yh p a gi)=true
 pos:∀ i∈((NG p).take gi).flatten,0<wtP p i (aN a i)/\aN a i<2 ^ z5 p i
theorem qpL {p:Problem}(hv:qk p=0){a:List Int}(h:EndA p a (NG p).length):a∈yC p.vars/\w7 p.vars (qm p).1 a=true:=by
 obtain⟨hg,hok,hpos⟩:=h;have htk:(NG p).take (NG p).length=NG p:=qqx (qqB _);unfold yh at hok;rw[htk]at hok hpos;unfold okC at hok;obtain⟨b,hb,hs⟩:=qqR.1 hok;rw[qqt]at hs;have hbo:=wX.1 hb;have hab:a=b:=by
  apply qrm;intro i
  cases hi:p.vars[i]? with
  | none=>
   have hl:=qtL.1 hi;rw[qqS (by rw[hg.len];exact hl),qqS (by rw[hbo.len];exact hl)]
  | some v=>
   by_cases hm:v.mode=0
   . obtain⟨x,hx,hc⟩:=kF hbo hi;rw[if_pos hm]at hc;rw[hg.st i v hi hm,hx,hc]
   . have hiF:=QZ hv hi hm;have h1:=qqA.1 hs.2 (i,aN a i) (qqT.2 ⟨i,hiF,rfl⟩);have h2:b[i]?=some (aN a i:Int):=of_decide_eq_true h1;have hil:=(qqp.1 hi).1;obtain⟨x,h3⟩:∃ x,a[i]?=some x:=⟨_,qqr (by rw[hg.len];exact hil)⟩;have h4:=hg.nn i v _ hi hm h3;rw[h2,h3];congr 1;unfold aN;rw[qqz,h3];show x=(x.toNat:Int);omega
 rw[hab];exact⟨hb,hs.1⟩
theorem qhg {vs:List Var}{l m:List Ex}(h:∀ e,e∈l↔e∈m):jY vs l=jY vs m:=by
 have:∀ a,w7 vs l a=w7 vs m a:=fun a=>by
  unfold w7;rw[qre,qqA,qqA];exact⟨fun h1 e he=>h1 e ((h e).2 he),fun h1 e he=>h1 e ((h e).1 he)⟩
 unfold jY;congr 1;funext a;exact this a
theorem YT (vs:List Var):∀ (L:List (Int×Ex)) (R:List Ex),jY vs R=true->jY vs (R++(kW vs R L).map (·.2))=true
 | [],R,h=>by simpa[kW] using h
 | x::r,R,h=>by
  unfold kW;split
  . rename_i h1;have:=YT vs r (R++[x.2]) h1;simpa using this
  . exact YT vs r R h
theorem Wh {p:Problem}(h:(qm p).2=0):qk p=0/\jY p.vars (zM p)=true/\jY p.vars (qm p).1=true/\∀ e∈zM p,e∈(qm p).1:=by
 rw[vP]at h;obtain⟨h1,h2,h3,_⟩:=QW h;refine⟨h1,h2,?_,fun e he=>?_⟩
 . rw[h3];have:=YT p.vars (JB p.soft) (zM p) h2;rw[<- this];refine qhg fun e=>?_
   have hn:qcS p=zM p:=by
    unfold qcS zM;have:yn p=w6 p:=if_pos h1;rw[this]
   unfold ZI;rw[hn];simp
 . rw[h3];exact qri _ he
theorem qoY (p:Problem)(R:List Ex):okC p R []=jY p.vars R:=by
 unfold okC jY;congr 1;funext a;simp
noncomputable def qkl (p:Problem)(R:List Ex)(fx:Nat->Option Nat)(a:List Int)(gi:Nat):Nat:=qaa p R fx ((NG p).getD gi []) (((NG p).take gi).flatten.map fun i=>(i,aN a i))
noncomputable def Jt (p:Problem)(R:List Ex)(gi:Int)(a:List Int):Int×Int :=
 if gi<0\/((NG p).length:Int)<=gi\/qH p.vars a=false then (0,1)
 else if qkl p R (fun _=>none) a gi.toNat=0 then (0,11) else if qkl p R (fun _=>none) a gi.toNat=lim then (0,3) else (qkl p R (fun _=>none) a gi.toNat,0)
noncomputable def chPR (p:Problem)(R:List Ex)(a:List Int)(gi:Nat):List Nat->(Nat->Option Nat)->Int->List Int->List Int
 | [],_,_,out=>out
 | i::r,fx,idx,out=>
  let q:=jG (fun x=>qkl p R (jJ fx i x) a gi) (2 ^ wdN p i) 0 idx
  chPR p R a gi r (jJ fx i q.1) q.2 (out.set i q.1)
noncomputable def qmi (p:Problem)(R:List Ex)(gi:Nat)(a:List Int)(idx:Int):List Int:=chPR p R a gi (jR ((NG p).getD gi [])) (fun _=>none) idx a
theorem chP_R (p:Problem)(a:List Int)(gi:Nat):∀ (l:List Nat) (fx:Nat->Option Nat) (idx:Int) (out:List Int),chP p a gi l fx idx out=chPR p (qm p).1 a gi l fx idx out
 | [],_,_,_=>rfl
 | i::r,fx,idx,out=>by
  unfold chP chPR;exact chP_R p a gi r _ _ _
theorem qmP (p:Problem)(gi:Int)(a:List Int):wY p gi a=Jt p (qm p).1 gi a:=rfl
theorem qja (p:Problem)(gi:Nat)(a:List Int)(idx:Int):qv p gi a idx=qmi p (qm p).1 gi a idx:=chP_R _ _ _ _ _ _ _
theorem qfA {p:Problem}(hv:qk p=0)(hs:p.soft=[])(hd:p.dists=[])(h:jY p.vars p.hard=true):qm p=(p.hard,0):=by
 have hn:zM p=p.hard:=by
  unfold zM yn w6;rw[if_pos hv,hd];simp
 have hns:qcS p=p.hard:=by
  unfold qcS w6;rw[hd];simp
 unfold qm;rw[if_pos hv,hn,if_pos h];unfold qhr ZI;rw[hns,hs];simp[JB,kW]
def p1:Problem:={ vars:=[⟨[97],1,2,0⟩],hard:=[],soft:=[],dists:=[],groups:=[[0]] }
end Go.Proofs.YtkpkjbchlabaaaaGreatDoor
end
section
namespace Go.Abs
open Go Go.RowKit
theorem Pure.ofA {P:Program}{G:Nat->AV}{f:FuncId}{args:List AV}{r:AV}{Q:AV->St->Prop}(h:qf P (Jz G) f args ⟨[],[]⟩ Q)(hq:∀ v U',Q v U'->zb (frz U'.H 8 v)=true/\Leq (frz U'.H 8 v) r):Pure P G f args r:=by
 refine⟨h.1,?_⟩;intro w0 ro vs hg hro hvs;have hw:WRel (Jz G) w0 ro (K0 ro) ⟨[],[]⟩ w0:=⟨Below.refl _ _,hg,hro,fun b o v e _=>e,by simp,fun _ _ _ e=>by simp[K0]at e,fun _ _ e=>by simp[K0]at e,by simp,fun _ _ e=>by simp[K0]at e,
  fun _ _ _ _ e=>by simp[K0]at e,rfl,fun _ _ _ _ _ e=>by simp[K0]at e,fun _ _ e=>by simp[K0]at e,fun _ _ e=>by simp[K0]at e⟩
 refine (h.2 w0 ro (K0 ro) w0 vs hw hvs).mono ?_;rintro e w' (⟨v',v,U',K',rfl,h1,h2,hv,hQ⟩|⟨c,U',K',rfl,h1,h2,hX⟩)
 . obtain⟨q1,q2⟩:=h2.end_ro;obtain⟨g1,g2⟩:=hq v U' hQ;exact⟨v',w9 w0 w' K'.ro,rfl,h2.below,fun b o v e=>JM _ _ _ _ _ _ (h1.ro b o v e),q1,q2,Leq.rel _ _ g2 (qiu h2 8 hv)⟩
 . exact hX.elim
end Go.Abs
namespace Go.Proofs.YtkpkjbchlabaaaaGreatDoor
open Go Go.Abs
theorem qgy.frz {b:Nat}{H:List Blk}{v:AV}{a:List Int}(h:qgy b H v a)(n:Nat):zb (Abs.frz H (n+1) v)=true/\Leq (Abs.frz H (n+1) v) (.sl 1 (a.map qo) .none)/\(zb v=true->Leq v (.sl 1 (a.map qo) .none)):=by
 rcases h with ⟨rfl,sz,tok,rfl⟩|⟨h0,rfl,hb⟩
 . have h1:∀ t,Leq (.sl sz [] t) (.sl 1 (([]:List Int).map qo) .none):=fun t=>by simp[Leq]
   refine⟨?_,?_,fun _=>h1 _⟩
   . unfold Abs.frz;split
     . assumption
     . simp
   . unfold Abs.frz;split
     . exact h1 _
     . simp
 . have ho:jx b 1 qo H (.ms b 0 a.length 1) a:=.inr ⟨h0,rfl,by rw[hb,wo]⟩;exact⟨ho.frzNo (fun _=>rfl) (fun _=>rfl) (fun _=>rfl) n,ho.frz (fun _=>rfl) (fun _=>rfl) (fun _=>rfl) n,fun h=>by simp[zb]at h⟩
end Go.Proofs.YtkpkjbchlabaaaaGreatDoor
end
section
namespace Go.Proofs.YtkpkjbchlabaaaaGreatDoor
open Go Go.Abs
theorem qeN {env:List Signal}{e:Ex}(h:yo env e≠0):KO env e=0/\yD env e≠0:=by
 unfold yo at h;split at h
 . rename_i hc;refine⟨?_,h⟩;unfold KO;rw[if_neg (by simp[hc.1]),if_pos hc.2]
 . exact absurd rfl h
theorem qpC {p:Problem}(hv:qk p=0){a:List Int}(ha:a∈yC p.vars){i:Nat}{v:Var}{z:Int}(hi:p.vars[i]?=some v)(hz:a[i]?=some z):jI (yY p.vars a) v.name=some z/\0<=z/\z<(jr v:Nat)\/v.mode=0:=by
 by_cases hm:v.mode=0
 . exact .inr hm
 . left;have hok:=wX.1 ha;obtain⟨x,hx,hxr⟩:=kF hok hi;rw[hz]at hx;cases hx;rw[if_neg hm]at hxr;have hve:=za (jc hv v (qqq hi));have h3:2 ^ v.width.toNat<=2 ^ 8:=qqY (by omega) (by omega);have hsz:jr v=2 ^ v.width.toNat:=rfl;have hf:=vG (yr hv) hi hz;rw[QN hxr.1 (by omega)]at hf;have hen:yY p.vars a=(p.vars.zip a).map fun q=>⟨q.1.name,q.2⟩:=by unfold yY;rw[if_pos hok.len]
   rw[hen];exact⟨hf,hxr⟩
theorem KX {v:Var}(h:jO v=0):0<=v.value/\v.value<(2:Int) ^ v.width.toNat:=by
 unfold jO at h;split at h
 . cases h
 . split at h
   . cases h
   . rename_i hc;omega
def v1:Var:=⟨[97],1,2,0⟩
end Go.Proofs.YtkpkjbchlabaaaaGreatDoor
end
