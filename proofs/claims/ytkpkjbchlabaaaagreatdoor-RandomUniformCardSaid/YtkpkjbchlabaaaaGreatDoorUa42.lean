/- A part of the proof. -/
import Derived.Test.YtkpkjbchlabaaaaGreatDoorUa41
import Derived.KernelRfl
set_option maxHeartbeats 16000000
set_option linter.unusedVariables false
set_option linter.unusedSimpArgs false
set_option maxRecDepth 100000
set_option linter.defProp false
section
namespace Go.Proofs.YtkpkjbchlabaaaaGreatDoor
open Go Go.Abs
theorem qjE (vs:List Var)(d:Dist)(h:d.weights=[]):Kd vs d=jM 0:=by
 unfold Kd;split
 . rename_i v _;have:qbQ v d.weights=[]:=by
    unfold qbQ;rw[h];have:(qdo [])=fun _=>false:=by funext n;rfl
    rw[this];simp
   rw[this];rfl
 . rfl
theorem qnI (vs:List Var)(l:List Ex)(a:List Int)(h:jM 0∈l):vV vs l a=false:=by
 have h0:yp (ky vs a) (jM 0)=0:=by
  unfold yp;split
  . rw[wU];simp[jM,WO,Ex.op,Ex.n]
  . rfl
 unfold vV;rw[qsE];exact⟨_,h,by simp[h0]⟩
theorem Qe {p:Problem}(h:VQ p)(hd:p.dists.length<=10000)(hs5:p.soft.length<=10000)(he:(qx p).2=0) :
 qk p=0/\(∀ e∈(qx p).1,zh p.vars e=0/\JJ e)/\(qx p).1.length<=50000/\∀ d∈p.dists,d.weights≠[]:=by
 obtain⟨hv,hsat,hR,_⟩:=J3 (by rw[<- Zd];exact he);have hnk:=QH h hv;have hsl:ym p=vP p:=by unfold ym;rw[if_pos hv]
 rw[hR];refine⟨hv,fun e hm=>?_,?_,fun d hdm hw=>?_⟩
 . have hmm:e∈zX p++p.soft:=by
    rcases qpZ.1 hm with hm|hm
    . exact qpZ.2 (.inl hm)
    . obtain⟨q,hq,rfl⟩:=qp1.1 hm;obtain⟨k,_,hk⟩:=qhu hq;exact qpZ.2 (.inr (qpz hk))
   have:=hnk e hmm;exact⟨by simpa[wu] using this.1,this.2⟩
 . have h1:=qdK p;have h2:=h.hard;have h3:(vP p).length=p.dists.length:=(by simp[vP]);simp only[qpD,qqd,zX,hsl];omega
 . have hin:jM 0∈zX p:=by
    unfold zX;rw[hsl];exact qpZ.2 (.inr (qp1.2 ⟨d,hdm,qjE _ _ hw⟩))
   unfold yB at hsat;obtain⟨a,_,ha⟩:=qp0.1 hsat;rw[qnI _ _ _ hin]at ha;cases ha
def qnU:List (Nat×Sch×List Nat):=[(4,.step 1 [8,7,6] (.step 2 [8,7,6,5,3] (.step 3 [8,7,6,5] (.step 4 [8,7,6,5] (.fork (.cons 0 (.step 5 [8,7,6] (.step 6 [8,7] (.step 7 [8] (.step 8 [] (.done))))) (.cons 5 (.step 0 [8,7,6] (.step 6 [8,7] (.step 7 [8] (.step 8 [] (.done))))) (.nil))))))),[5])]
def OpQ (p:Problem)(H:List Blk)(r:AV)(U':St):Prop :=
 KpL [] H U'.H/\(((qx p).2≠0/\r=.tup [.nilp,.int .i64 (qx p).2]) \/
  ((qx p).2=0/\∃ s d,r=.tup [.ptr s.S 0,.int .i64 0]/\H.length<=s.S/\H.length<=s.L/\H.length<=s.LL/\s.p=p/\s.R=(qx p).1/\SpOk s U'.H/\SpV s d /\
    (s.small=true->∀ b,evD d b s.root=vV p.vars (qx p).1 (vL p.vars (qA p) b))))
theorem qdx (p:Problem)(h:VQ p)(hv20:p.vars.length<=20)(hb:yX p.vars (qz p)<=18)(hd:p.dists.length<=10000)(hs5:p.soft.length<=10000)(hws:∀ d∈p.dists,d.weights.length<=1000)(H:List Blk)(T:List (Option Nat)) :
 qf Tryz.prog GG 22 [.agg (qG p)] ⟨H,T⟩ (OpQ p H):=by
 refine qf.kO ⟨false,qnU,[],[]⟩ qe Tryz.func22 rfl (by kernel_rfl) ?_;by_cases he:(qx p).2=0
 case neg=>
  have hr:=qcQ p h hv20 hb hd hs5;simp[-getElem?_pos];refine qc.call hr (by simp) ?_;have hq:∀ u T',OpQ p H (.tup [.nilp,.int .i64 (qx p).2]) ⟨H++u,T'⟩:=fun u T'=>⟨KpL.app,.inl ⟨he,rfl⟩⟩
  generalize (qx p).2=er at *;simp[-getElem?_pos,he];exact hq _ _
 case pos=>
  obtain⟨hv,hk,hl,hwn⟩:=Qe h hd hs5 he;have hlv:=qbw p h hv;simp[-getElem?_pos];refine qc.acall (ql3 p h hv20 hb hd hs5 he _ _) ?_;rintro r ⟨H1,T1⟩ ⟨tok,rfl,htok,hk1⟩;dsimp only at hk1;have bx:=hk1.2 _ _ lk0 (by simp);have hkH:KpL [] H H1:=KpL.app.trans hk1;have hlen1:=hk1.1;simp only[qpD,qpQ,qqp]at hlen1;obtain⟨R,hR⟩:∃ R,R=(qx p).1:=⟨_,rfl⟩;rw[<- hR]at htok hk hl ⊢;simp[-getElem?_pos];rw[qI rfl];simp only[qG]at hlv;simp[-getElem?_pos,qO,bx];refine qc.call hlv (by simp) ?_;simp[-getElem?_pos,qO,bx];have hwg:=qjm p h hv H1 T1;simp only[qG]at hwg;refine⟨qc.acall hwg ?_,qc.acall hwg ?_⟩
  all_goals
   rintro r ⟨H2,T2⟩ ⟨hk2,L,LL,rfl,hL1,hL2,hwf⟩;dsimp only at hk2 hwf;have bx2:=hk2.2 _ _ bx (by simp);have hkH2:=hkH.trans hk2;have hlen2:=hk2.1;have hLlt:L<H2.length:=(by obtain⟨c,hc,_⟩:=hwf;exact (qpy.1 hc).1);obtain⟨LL',hLL',hLL1,hwf'⟩:∃ LL',LL' < H2.length/\H.length<=LL'/\WFn p L LL' H2:=by
    obtain⟨c,hc,hc2⟩:=hwf;by_cases hpv:p.vars=[]
    . exact⟨L,hLlt,by omega,c,hc,fun hn=>absurd hpv hn⟩
    . exact⟨LL,(qpy.1 (hc2 hpv).2).1,by omega,c,hc,hc2⟩
   simp[-getElem?_pos,qO,bx2,qa bx2,zn,zS,qF];refine qc.acall ((All135 p h hv R (by omega) hk _ _).leq (by simp[qG])) ?_;rintro r ⟨H3,T3⟩ ⟨hk3,hr⟩;dsimp only at hk3;have bS:=hk3.2 _ _ lk0 (by simp);have hSl:=(qpy.1 bS).1;have hkH3:KpL [] H H3:=hkH2.trans (KpL.app.trans hk3);have hwf3:WFn p L LL' H3:=by
    obtain⟨c,hL,hc⟩:=hwf';have hk':=KpL.app.trans hk3;exact⟨c,hk'.2 _ _ hL (by simp),fun hn=>⟨(hc hn).1,hk'.2 _ _ (hc hn).2 (by simp)⟩⟩
   have hws':∀ (i:Nat) (w:List Weight),(ji p.vars.length p.dists)[i]?=some (some w)->w≠[]/\w.length<=1000:=fun i w hi=>by
    obtain⟨d,hd,rfl⟩:=qff (qpz hi);exact⟨hwn d hd,hws d hd⟩
   have fin:∀ (dv:AV) (root:Nat) (small:Bool) (d:List Nd) (T':List (Option Nat)),(small=true->DagOk d/\(∃ tok,dv=.sl 3 (d.map qu) tok)/\root<d.length)->(small=true->∀ b,evD d b root=vV p.vars R (vL p.vars (qA p) b)) ->
    OpQ p H (.tup [.ptr H2.length 0,.int .i64 0]) ⟨H3.set H2.length (.cells (qG p++[.sl 4 (R.map qq) tok,.sl 1 ((qA p).map qr) .none,dv,.int .i64 root,.bool small,.fn 98 [] [.ptr L 0]])),T'⟩:=by
    intro dv root small d T' hdag hroot;refine⟨hkH3.setF (by have:=hkH2.1;omega),.inr ⟨he,⟨H2.length,L,LL',p,R,tok,qA p,dv,root,small⟩,d,rfl,hkH2.1,by dsimp only;omega,hLL1,rfl,hR,⟨?_,?_,?_⟩,⟨h,hv,hv20,hb,hk,hl,htok,rfl,hdag,hws'⟩,by rw[<- hR];exact hroot⟩⟩
    . exact qpF hSl
    . obtain⟨c,hL,hc⟩:=hwf3;exact⟨c,by dsimp only;rw[qpB (by omega)];exact hL,fun hn=>⟨(hc hn).1,by dsimp only;rw[qpB (by omega)];exact (hc hn).2⟩⟩
    . dsimp only;rw[qqR];omega
   rcases hr with rfl|⟨d,t,tk,rfl,hdk,ht,hev⟩
   . simp[-getElem?_pos,bS,hSl];exact fin (.sl 0 [] .nil) 0 false [] T3 (by simp) (by simp)
   . simp[-getElem?_pos,bS,hSl];exact fin (.sl 3 (d.map qu) tk) t true d T3 (fun _=>⟨hdk,⟨tk,rfl⟩,ht⟩) (fun _=>hev)
theorem kh:∀ {vs:List Var} {a:List Int},okA vs a->∀ {i:Nat} {v:Var},vs[i]?=some v->∃ x,a[i]?=some x/\(if v.mode=0 then x=v.value else 0<=x/\x<(jm v:Nat))
 | [],_,_,i,v,hv=>by simp at hv
 | w::vs,[],h,i,v,hv=>h.elim
 | w::vs,y::a,h,0,v,hv=>by
  simp at hv;subst hv;exact⟨y,rfl,h.1⟩
 | w::vs,y::a,h,i+1,v,hv=>by
  obtain⟨x,h1,h2⟩:=kh (vs:=vs) (a:=a) h.2 (i:=i) (v:=v) (by simpa using hv);exact⟨x,by simpa using h1,h2⟩
def eqP (p:Problem)(q:Nat×Nat):Ex:=eqE (Jh p q.1) (q.2:Int)
theorem eq_sat {p:Problem}(hv:qk p=0){a:List Int}(ha:a∈yg p.vars){i:Nat}{v:Var}(hi:p.vars[i]?=some v){n:Nat}(hn:n<=65535) :
 decide (yp (ky p.vars a) (eqP p (i,n))≠0)=decide (a[i]?=some (n:Int)):=by
 have hok:=k0.1 ha;obtain⟨x,hx,hxr⟩:=kh hok hi;have hm:=qpz hi;have hve:=zc (ju hv v hm);have hvv:=Wt (ju hv v hm);have hx2:0<=x/\x<=65535:=by
  split at hxr
  . omega
  . have h3:2 ^ v.width.toNat<=2 ^ 8:=qp3 (by omega) (by omega);unfold jm at hxr;omega
 have hf:=QT (yN hv) hi hx;rw[Jp hx2.1 hx2.2]at hf;have hen:ky p.vars a=(p.vars.zip a).map fun q=>⟨q.1.name,q.2⟩:=by unfold ky;rw[if_pos hok.len]
 have hnm:Jh p i=v.name:=by simp[Jh,hi]
 have ho:=qmS hve.1 (n:=(n:Int)) (by omega) (by omega);have hex:zh p.vars (eqE v.name (n:Int))=0:=ho.valid (by omega) (by omega) (by unfold vm;rw[qp0];exact⟨v,hm,by simp⟩);have hval:ze (eqE v.name (n:Int))=0:=by
  by_cases h0:ze (eqE v.name (n:Int))=0
  . exact h0
  . unfold zh at hex;rw[if_pos h0]at hex;exact absurd hex h0
 have hkn:kI (ky p.vars a) (eqE v.name (n:Int))=true:=by
  unfold kI;rw[qb3,hen];simp[askV,eqE,wO,jM,Ex.op,Ex.name,hf]
 have hev:yp (ky p.vars a) (eqE v.name (n:Int))=b2i (decide (x=(n:Int))):=by
  unfold yp;rw[if_pos ⟨hval,hkn⟩,wU,hen];simp[eqE,wO,jM,Ex.op,Ex.name,Ex.args,Ex.n,WO,wU,hf,opW,yz,b2i]
 show decide (yp _ (eqE (Jh p i) (n:Int))≠0)=_;rw[hnm,hev,hx];by_cases hxn:x=(n:Int)<;>simp[b2i,hxn]
noncomputable def okC (p:Problem)(R:List Ex)(c:List (Nat×Nat)):Bool:=(yg p.vars).any fun a=>vV p.vars R a&&c.all fun q=>decide (a[q.1]?=some (q.2:Int))
noncomputable def Vy (p:Problem)(R:List Ex)(fx:Nat->Option Nat):List Nat->List (Nat×Nat)->Nat
 | [],c=>if okC p R c=true then 1 else 0
 | i::r,c=>if okC p R c=true then (wJ (jx p i) (fx i)).foldl (fun s v=>sat (s+sat (wtP p i v*Vy p R fx r (c++[(i,v)])))) 0 else 0
def ql7 (p:Problem)(c:List (Nat×Nat)):Prop:=∀ q∈c,(∃ v,p.vars[q.1]?=some v/\v.mode≠0)/\q.2<2 ^ jx p q.1
theorem wid8 {p:Problem}(hv:qk p=0){i:Nat}{v:Var}(hi:p.vars[i]?=some v):jx p i=v.width.toNat/\v.width.toNat<=8:=by
 have hve:=zc (ju hv v (qpz hi));exact⟨by unfold jx zF;rw[hi],by omega⟩
theorem ql7.lt {p:Problem}(hv:qk p=0){c:List (Nat×Nat)}(h:ql7 p c){q:Nat×Nat}(hq:q∈c):q.2<=65535:=by
 obtain⟨⟨v,hi,_⟩,hlt⟩:=h q hq;obtain⟨h1,h2⟩:=wid8 hv hi;rw[h1]at hlt;have h3:2 ^ v.width.toNat<=2 ^ 8:=qp3 (by omega) (by omega);omega
theorem qdc {p:Problem}(hv:qk p=0)(R:List Ex){c:List (Nat×Nat)}(hc:ql7 p c):yB p.vars (R++c.map (eqP p))=okC p R c:=by
 unfold yB okC;apply qqo.2;simp only[qp0];have key:∀ a∈yg p.vars,vV p.vars (R++c.map (eqP p)) a=(vV p.vars R a&&c.all fun q=>decide (a[q.1]?=some (q.2:Int))):=fun a ha=>by
  unfold vV;rw[qq0,qsM];congr 1;apply qqo.2;simp only[qpJ];refine forall_congr' fun q=>forall_congr' fun hq=>?_
  obtain⟨⟨v,hi,_⟩,_⟩:=hc q hq;have:=eq_sat hv ha hi (hc.lt hv hq);simp only[Function.comp];rw[<- this]
 constructor
 . rintro⟨a,ha,h⟩;exact⟨a,ha,by rw[<- key a ha];exact h⟩
 . rintro⟨a,ha,h⟩;exact⟨a,ha,by rw[key a ha];exact h⟩
def qji (p:Problem)(fx:Nat->Option Nat):Prop:=∀ i x,fx i=some x->x<2 ^ jx p i
theorem qf8 {p:Problem}{fx:Nat->Option Nat}(hf:qji p fx){i v:Nat}(h:v∈wJ (jx p i) (fx i)):v<2 ^ jx p i:=by
 unfold wJ at h;split at h
 . exact qqF.1 h
 . rename_i x hx;have:=qp8.1 h;subst this;exact hf i _ hx
theorem yU {α:Type}{f g:Nat->α->Nat}:∀ {l:List α} {s:Nat},(∀ s,∀ v∈l,f s v=g s v)->l.foldl f s=l.foldl g s
 | [],s,h=>rfl
 | a::r,s,h=>by
  rw[qqe,qqe,h s a (by simp)];exact yU fun s v hv=>h s v (by simp[hv])
theorem qgl {p:Problem}(hv:qk p=0)(R:List Ex){fx:Nat->Option Nat}(hf:qji p fx):∀ (g:List Nat) (c:List (Nat×Nat)),(∀ i∈g,∃ v,p.vars[i]?=some v/\v.mode≠0)->ql7 p c ->
 qbS p fx g (R++c.map (eqP p))=Vy p R fx g c:=by
 intro g
 induction g with
 | nil=>intro c _ hc;unfold qbS Vy;rw[qdc hv R hc]
 | cons i r ih=>
  intro c hg hc;unfold qbS Vy;rw[qdc hv R hc];split
  . refine yU fun s v hvm=>?_
    have hc':ql7 p (c++[(i,v)]):=fun q hq=>by
     rcases qpZ.1 hq with hq|hq
     . exact hc q hq
     . have:=qp8.1 hq;subst this;exact⟨hg i (by simp),qf8 hf hvm⟩
    have:=ih (c++[(i,v)]) (fun j hj=>hg j (by simp[hj])) hc';rw[qqz,<- qp6]at this;rw[<- this];rfl
  . rfl
def LW (p:Problem)(l:List Nat):Nat:=(l.map (jx p)).sum
theorem qej (p:Problem)(l m:List Nat):LW p (l++m)=LW p l+LW p m:=by simp[LW]
theorem Vv {p:Problem}(hv:qk p=0):∀ l:List Nat,yA p.vars (l.map fun n:Nat=>(n:Int))=(LW p l:Int)
 | []=>rfl
 | i::r=>by
  have ih:=Vv hv r;have h0:=Za (vz hv) i;have e1:yA p.vars ((i::r).map fun n:Nat=>(n:Int))=zF p.vars i+yA p.vars (r.map fun n:Nat=>(n:Int)):=by simp[yA]
  have e2:LW p (i::r)=jx p i+LW p r:=by simp[LW]
  rw[e1,e2,ih];unfold jx;omega
theorem qaz {p:Problem}(hv:qk p=0){k i:Nat}(hk:(NG p).flatten[k]?=some i):Zj (qA p) i=LW p ((NG p).flatten.take k):=by
 have hk':p.groups.flatten[k]?=some (i:Int):=by rw[Qq hv,qpX,hk];rfl
 have h1:=Yr hv hk';rw[Qq hv,<- List.map_take,Vv hv]at h1;unfold Zj;rw[qpM,h1];simp
theorem qi7 {p:Problem}(hv:qk p=0):LW p (NG p).flatten<=20:=by
 have:=YE hv;rw[Qq hv,Vv hv]at this;omega
theorem qic {d:List Nd}(h:DagOk d){node l w v:Nat}(hn:node<d.length)(hl:l<=lvD d node)(hlw:l+w<=20):∀ k,k<=w ->
 wA d l w v node k<d.length/\l+k<=lvD d (wA d l w v node k)/\∀ b,(∀ j,j<k->b (l+j)=v.testBit (w-1-j))->evD d b node=evD d b (wA d l w v node k):=by
 intro k
 induction k with
 | zero=>intro _;exact⟨hn,hl,fun b _=>rfl⟩
 | succ k ih=>
  intro hk;obtain⟨h1,h2,h3⟩:=ih (by omega);rw[Zz];obtain⟨g1,g2,g3⟩:=yo h h1 (L:=l+k) (by omega) h2 (v.testBit (w-1-k));refine⟨g1,by omega,fun b hb=>?_⟩;rw[h3 b fun j hj=>hb j (by omega),g3 b (hb k (by omega))]
def Jr (p:Problem)(b:Nat->Bool)(i:Nat):Nat:=zf (fun k=>b (Zj (qA p) i+jx p i-1-k)) (jx p i)
theorem JS {p:Problem}{b:Nat->Bool}{i v:Nat}(h:Jr p b i=v){j:Nat}(hj:j<jx p i):b (Zj (qA p) i+j)=v.testBit (jx p i-1-j):=by
 rw[<- h];unfold Jr;rw[qP];have h1:jx p i-1-j<jx p i:=by omega
 have h2:Zj (qA p) i+jx p i-1-(jx p i-1-j)=Zj (qA p) i+j:=by omega
 simp[h1,h2]
def qiD:List (Nat×Nat)->Nat->Bool
 | [],_=>false
 | (w,v)::r,l=>if l<w then v.testBit (w-1-l) else qiD r (l-w)
theorem qed:∀ (l:List (Nat×Nat)) (k w v j:Nat),l[k]?=some (w,v)->j<w->qiD l (((l.take k).map (·.1)).sum+j)=v.testBit (w-1-j)
 | [],k,w,v,j,h,_=>by simp at h
 | (w',v')::r,0,w,v,j,h,hj=>by
  simp at h;obtain⟨rfl,rfl⟩:=h;simp[qiD,hj]
 | (w',v')::r,k+1,w,v,j,h,hj=>by
  have ih:=qed r k w v j (by simpa using h) hj;have e:((((w',v')::r).take (k+1)).map (·.1)).sum+j=w'+(((r.take k).map (·.1)).sum+j):=by simp;omega
  rw[e,qiD,if_neg (by omega),qql,ih]
theorem qec {p:Problem}(hv:qk p=0)(val:Nat->Nat):∃ b,∀ i∈(NG p).flatten,Jr p b i=val i % 2 ^ jx p i:=by
 refine⟨qiD ((NG p).flatten.map fun i=>(jx p i,val i)),fun i hi=>?_⟩;obtain⟨k,hk⟩:=qqg hi;have hl:=qaz hv hk;rw[<- ZO];unfold Jr;apply zg;intro j hj;have h:=qed ((NG p).flatten.map fun i=>(jx p i,val i)) k (jx p i) (val i) (jx p i-1-j) (by rw[qpX,hk];rfl) (by omega);have e1:(((((NG p).flatten.map fun i=>(jx p i,val i)).take k).map (·.1)).sum)=LW p ((NG p).flatten.take k):=by
  unfold LW;rw[<- List.map_take,qqS];rfl
 rw[e1,<- hl]at h;have e2:Zj (qA p) i+jx p i-1-j=Zj (qA p) i+(jx p i-1-j):=by omega
 have e3:jx p i-1-(jx p i-1-j)=j:=by omega
 rw[e2,h,e3]
theorem WF {p:Problem}(hv:qk p=0){i:Nat}{v:Var}(hi:p.vars[i]?=some v)(hm:v.mode≠0):i∈(NG p).flatten:=by
 obtain⟨k,hk⟩:=qgH hv hi hm;rw[Qq hv,qpX]at hk
 cases h:(NG p).flatten[k]? with
 | none=>rw[h]at hk;cases hk
 | some j=>
  rw[h]at hk;have:(j:Int)=i:=by simpa using hk
  have:j=i:=by omega
  exact this▸qpz h
theorem ko {p:Problem}(hv:qk p=0){i:Nat}(hi:i∈(NG p).flatten):∃ v,p.vars[i]?=some v/\v.mode≠0:=by
 obtain⟨k,hk⟩:=qi3 hv hi;obtain⟨n,v,hn,hv',hm⟩:=J5 ((jQ hv).2.1 _ (qpz hk));have:n=i:=by omega
 subst this;exact⟨v,hv',hm⟩
theorem wC {p:Problem}(hv:qk p=0)(b:Nat->Bool){i:Nat}{v:Var}(hi:p.vars[i]?=some v)(hm:v.mode≠0):(vL p.vars (qA p) b)[i]?=some (Jr p b i:Int):=by
 have hl:i<(qA p).length:=by rw[yJ];exact (qpy.1 hi).1
 have hli:=qpA hl;rw[qcJ hi hli];unfold qge Jr Zj;rw[if_neg hm,(wid8 hv hi).1,qpM,hli];rfl
theorem Vm {p:Problem}(b:Nat->Bool){i:Nat}{v:Var}(hi:p.vars[i]?=some v)(hm:v.mode=0):(vL p.vars (qA p) b)[i]?=some v.value:=by
 have hl:i<(qA p).length:=by rw[yJ];exact (qpy.1 hi).1
 have hli:=qpA hl;rw[qcJ hi hli];unfold qge;rw[if_pos hm]
theorem qg0:∀ {vs:List Var} {a:List Int},a.length=vs.length->(∀ (i:Nat) (v:Var),vs[i]?=some v->∃ x,a[i]?=some x/\(if v.mode=0 then x=v.value else 0<=x/\x<(jm v:Nat)))->okA vs a
 | [],[],_,_=>trivial
 | [],_::_,h,_=>by simp at h
 | _::_,[],h,_=>by simp at h
 | v::vs,x::a,h,hx=>by
  obtain⟨y,hy,hc⟩:=hx 0 v rfl;simp at hy;subst hy;exact⟨hc,qg0 (by simpa using h) fun i w hw=>by
   obtain⟨y,hy,hc⟩:=hx (i+1) w (by simpa using hw);exact⟨y,by simpa using hy,hc⟩⟩
theorem qnu (p:Problem)(b:Nat->Bool)(i:Nat):Jr p b i<2 ^ jx p i:=yP _ _
theorem Vn {p:Problem}(hv:qk p=0)(b:Nat->Bool):vL p.vars (qA p) b∈yg p.vars:=by
 refine k0.2 (qg0 (JH (yJ p) b) fun i v hi=>?_);by_cases hm:v.mode=0
 . exact⟨_,Vm b hi hm,by rw[if_pos hm]⟩
 . refine⟨_,wC hv b hi hm,?_⟩;rw[if_neg hm];have:=qnu p b i;rw[(wid8 hv hi).1]at this;unfold jm;omega
theorem qbm {p:Problem}(hv:qk p=0){a:List Int}(ha:a∈yg p.vars):∃ b,vL p.vars (qA p) b=a/\∀ i∈(NG p).flatten,a[i]?=some (Jr p b i:Int):=by
 have hok:=k0.1 ha;obtain⟨b,hb⟩:=qec hv (fun i=>(a.getD i 0).toNat);have hr:∀ i∈(NG p).flatten,a[i]?=some (Jr p b i:Int):=fun i hi=>by
  obtain⟨v,hv',hm⟩:=ko hv hi;obtain⟨x,hx,hc⟩:=kh hok hv';rw[if_neg hm]at hc;have:=hb i hi;rw[qpM,hx]at this;unfold jm at hc;rw[(wid8 hv hv').1]at this;dsimp only[Option.getD]at this;have hlt:x.toNat<2 ^ v.width.toNat:=by omega
  rw[qrx hlt]at this;rw[hx,this];congr 1;omega
 refine⟨b,?_,hr⟩;apply qqm;intro i
 cases hi:p.vars[i]? with
 | none=>
  have hl:=List.getElem?_eq_none_iff.1 hi;rw[qpW (by rw[JH (yJ p)];exact hl),qpW (by rw[hok.len];exact hl)]
 | some v=>
  by_cases hm:v.mode=0
  . obtain⟨x,hx,hc⟩:=kh hok hi;rw[if_pos hm]at hc;rw[Vm b hi hm,hx,hc]
  . rw[wC hv b hi hm,hr i (WF hv hi hm)]
structure Inv (p:Problem)(d:List Nd)(root:Nat)(c:List (Nat×Nat))(node:Nat):Prop where
 lt:node<d.length
 lv:LW p (c.map (·.1))<=lvD d node
 pre:∃ post,(NG p).flatten=c.map (·.1)++post
 ev:∀ b,(∀ q∈c,Jr p b q.1=q.2)->evD d b root=evD d b node
theorem qdM {p:Problem}(hv:qk p=0){d:List Nd}(hd:DagOk d){root:Nat}{c:List (Nat×Nat)}{node:Nat}(h:Inv p d root c node){i v:Nat}(hi:∃ post,(NG p).flatten=c.map (·.1)++i::post) :
 Inv p d root (c++[(i,v)]) (wA d (Zj (qA p) i) (jx p i) v node (jx p i)):=by
 obtain⟨post,hpost⟩:=hi;have hk:(NG p).flatten[(c.map (·.1)).length]?=some i:=by rw[hpost,qpG (qpI _),qqL];rfl
 have htk:(NG p).flatten.take (c.map (·.1)).length=c.map (·.1):=by rw[hpost,List.take_left]
 have hlv:=qaz hv hk;rw[htk]at hlv;have hle:LW p (c.map (·.1))+jx p i<=20:=by
  have h1:=qi7 hv;rw[hpost,qej]at h1;have:LW p (i::post)=jx p i+LW p post:=by simp[LW]
  omega
 obtain⟨h1,h2,h3⟩:=qic hd (w:=jx p i) (v:=v) h.lt (l:=Zj (qA p) i) (by rw[hlv];exact h.lv) (by omega) (jx p i) (qpI _);refine⟨h1,?_,⟨post,by rw[hpost];simp⟩,fun b hb=>?_⟩
 . rw[qqz,qej];have:LW p (([(i,v)]:List (Nat×Nat)).map (·.1))=jx p i:=by simp[LW]
   omega
 . rw[h.ev b fun q hq=>hb q (by simp[hq])];exact h3 b fun j hj=>JS (hb (i,v) (by simp)) hj
theorem Ks {p:Problem}{b b':Nat->Bool}{i:Nat}(h:∀ j,j<jx p i->b (Zj (qA p) i+j)=b' (Zj (qA p) i+j)):Jr p b i=Jr p b' i:=by
 unfold Jr;apply zg;intro k hk;have e:Zj (qA p) i+jx p i-1-k=Zj (qA p) i+(jx p i-1-k):=by omega
 rw[e];exact h _ (by omega)
theorem qd3 {q:Nat×Nat}:∀ {c:List (Nat×Nat)},(c.map (·.1)).Nodup->q∈c->c.find? (fun q'=>q'.1==q.1)=some q
 | [],_,h=>by simp at h
 | x::r,hn,h=>by
  rw[qpK,qrP]at hn;rcases qp5.1 h with rfl|h
  . simp
  . have hne:¬ x.1=q.1:=fun e=>hn.1 (qp1.2 ⟨q,h,e.symm⟩)
    have:(x.1==q.1)=false:=by simpa using hne
    rw[qr8,this];exact qd3 hn.2 h
theorem qdL {p:Problem}(hv:qk p=0){R:List Ex}{d:List Nd}(hd:DagOk d){root:Nat}(hroot:∀ b,evD d b root=vV p.vars R (vL p.vars (qA p) b)){c:List (Nat×Nat)}(hc:ql7 p c)(hnd:(NG p).flatten.Nodup){node:Nat}(h:Inv p d root c node) :
 okC p R c = !decide (node=0):=by
 obtain⟨post,hpost⟩:=h.pre;have hmem:∀ q∈c,q.1∈(NG p).flatten:=fun q hq=>by rw[hpost];exact qpZ.2 (.inl (qp1.2 ⟨q,hq,rfl⟩))
 by_cases h0:node=0
 . have:okC p R c=false:=by
    rw[qqD];intro hok;unfold okC at hok;obtain⟨a,ha,hs⟩:=qp0.1 hok;rw[qpC]at hs;obtain⟨b,hb,hbv⟩:=qbm hv ha;have hf:∀ q∈c,Jr p b q.1=q.2:=fun q hq=>by
     have h1:=hbv _ (hmem q hq);have h2:=of_decide_eq_true (qpJ.1 hs.2 q hq);rw[h1]at h2;have:(Jr p b q.1:Int)=(q.2:Int):=by simpa using h2
     omega
    have h1:=h.ev b hf;rw[hroot,hb,h0,Jl hd]at h1;rw[h1]at hs;cases hs.1
   rw[this,h0];rfl
 . have:okC p R c=true:=by
    obtain⟨b,hb⟩:=qo4 hd node node h.lt (qpI _) h0;obtain⟨b0,hb0⟩:=qec hv (fun i=>match c.find? (fun q=>q.1==i) with|some q=>q.2|none=>0);obtain⟨b',hb'⟩:∃ b':Nat->Bool,b'=fun l=>if l<LW p (c.map (·.1)) then b0 l else b l:=⟨_,rfl⟩
    have hnode:evD d b' node=true:=by
     rw[<- hb];apply YN hd h.lt;intro l hl;have:=h.lv;rw[hb'];dsimp only;rw[if_neg (by omega)]
    have hcn:(c.map (·.1)).Nodup:=by
     rw[hpost]at hnd;exact (qq6.1 hnd).1
    have hf:∀ q∈c,Jr p b' q.1=q.2:=fun q hq=>by
     obtain⟨k,hk⟩:=qqg hq;have hkl:=(qpy.1 hk).1;have hkF:(NG p).flatten[k]?=some q.1:=(by rw[hpost,qpL (by simpa using hkl),qpX,hk];rfl);have hlv:=qaz hv hkF;have htk:(NG p).flatten.take k=(c.map (·.1)).take k:=(by rw[hpost,qqw (by simp;omega)]);have hw:Zj (qA p) q.1+jx p q.1<=LW p (c.map (·.1)):=by
      rw[hlv,htk];have h1:(c.map (·.1))=(c.map (·.1)).take k++q.1::(c.map (·.1)).drop (k+1):=by
       have h2:(c.map (·.1)).drop k=q.1::(c.map (·.1)).drop (k+1):=by
        have h3:(c.map (·.1))[k]?=some q.1:=(by rw[qpX,hk];rfl);obtain⟨h4,h5⟩:=qpy.1 h3;rw[qpP h4,h5]
       rw[<- h2,qqt]
      have h2:=congrArg (LW p) h1;rw[qej]at h2;have h3:LW p (q.1::(c.map (·.1)).drop (k+1))=jx p q.1+LW p ((c.map (·.1)).drop (k+1)):=(by simp[LW]);omega
     have e1:Jr p b' q.1=Jr p b0 q.1:=Ks fun j hj=>by
      rw[hb'];dsimp only;rw[if_pos (by omega)]
     rw[e1,hb0 _ (hmem q hq)];have hfind:=qd3 hcn hq;rw[hfind];exact qrx (hc q hq).2
    have hr:=h.ev b' hf;rw[hnode,hroot]at hr;unfold okC;refine qp0.2 ⟨_,Vn hv b',?_⟩;rw[hr,qqx,qpJ];intro q hq;obtain⟨⟨v,hi,hm⟩,_⟩:=hc q hq;rw[wC hv b' hi hm,hf q hq];simp
   rw[this];simp[h0]
theorem qgp {p:Problem}(hv:qk p=0){R:List Ex}{d:List Nd}(hd:DagOk d){root:Nat}(hroot:∀ b,evD d b root=vV p.vars R (vL p.vars (qA p) b))(hnd:(NG p).flatten.Nodup){fx:Nat->Option Nat}(hf:qji p fx) :
 ∀ (g:List Nat) (c:List (Nat×Nat)) (node:Nat),(∃ post,(NG p).flatten=c.map (·.1)++g++post)->ql7 p c->Inv p d root c node->Vx p (qA p) d fx g node=Vy p R fx g c:=by
 intro g
 induction g with
 | nil=>
  intro c node hg hc h;unfold Vx Vy;rw[qdL hv hd hroot hc hnd h];by_cases h0:node=0<;>simp[h0]
 | cons i r ih=>
  intro c node hg hc h;obtain⟨post,hpost⟩:=hg;unfold Vx Vy;rw[qdL hv hd hroot hc hnd h];by_cases h0:node=0
  . simp[h0]
  . simp only[h0,if_false,decide_false,qs3,if_true];refine yU fun s v hvm=>?_
    have hiF:i∈(NG p).flatten:=(by rw[hpost];simp);have hc':ql7 p (c++[(i,v)]):=fun q hq=>by
     rcases qpZ.1 hq with hq|hq
     . exact hc q hq
     . have:=qp8.1 hq;subst this;exact⟨ko hv hiF,qf8 hf hvm⟩
    rw[ih (c++[(i,v)]) _ ⟨post,by rw[hpost];simp⟩ hc' (qdM hv hd h ⟨r++post,by rw[hpost];simp⟩)]
theorem qoB {p:Problem}{d:List Nd}{root:Nat}(h:root<d.length):Inv p d root [] root:=⟨h,by simp[LW],⟨_,rfl⟩,fun b _=>rfl⟩
theorem qkR {p:Problem}(hv:qk p=0){d:List Nd}(hd:DagOk d){root:Nat}(val:Nat->Nat):∀ (l:List Nat) (c:List (Nat×Nat)) (node:Nat),Inv p d root c node->(∃ post,(NG p).flatten=c.map (·.1)++l++post) ->
 Inv p d root (c++l.map fun i=>(i,val i)) (l.foldl (fun node i=>wA d (Zj (qA p) i) (jx p i) (val i) node (jx p i)) node):=by
 intro l
 induction l with
 | nil=>intro c node h _;simpa using h
 | cons i r ih=>
  intro c node h ⟨post,hpost⟩;have h1:=qdM hv hd h (i:=i) (v:=val i) ⟨r++post,by rw[hpost];simp⟩;have h2:=ih _ _ h1 ⟨post,by rw[hpost];simp⟩;rw[qqe,qpK];simpa using h2
theorem ql4 {p:Problem}{gi:Nat}{g:List Nat}(h:(NG p)[gi]?=some g):∃ post,(NG p).flatten=((NG p).take gi).flatten++g++post:=by
 have h1:=qqt gi (NG p);obtain⟨h2,h3⟩:=qpy.1 h;have h4:(NG p).drop gi=g::(NG p).drop (gi+1):=by rw[qpP h2,h3]
 refine⟨((NG p).drop (gi+1)).flatten,?_⟩
 conv=>lhs;rw[<- h1,h4]
 simp
theorem ql5 {p:Problem}(hv:qk p=0):(NG p).flatten.Nodup:=by
 have h:=(jQ hv).2.2.1;rw[Qq hv]at h;exact (qsl.1 h).imp fun hne e=>hne (by rw[e])
theorem qnw {s:Spc}{d:List Nd}(h:SpV s d)(hroot:s.small=true->∀ b,evD d b s.root=vV s.p.vars s.R (vL s.p.vars (qA s.p) b)){fx:Nat->Option Nat}(hf:qji s.p fx){a:List Int}(ha:∀ i∈(NG s.p).flatten,aN a i<2 ^ jx s.p i){gi:Nat}(hgi:gi<(NG s.p).length) :
 Wz s d fx a gi=Vy s.p s.R fx ((NG s.p).getD gi []) (((NG s.p).take gi).flatten.map fun i=>(i,aN a i)):=by
 obtain⟨g,hg⟩:∃ g,(NG s.p)[gi]?=some g:=⟨_,qpA hgi⟩;have hgd:(NG s.p).getD gi []=g:=by simp[qpM,hg]
 obtain⟨post,hpost⟩:=ql4 hg;have hin:∀ i∈((NG s.p).take gi).flatten,i∈(NG s.p).flatten:=fun i hi=>by rw[hpost];simp[hi]
 have hc:ql7 s.p (((NG s.p).take gi).flatten.map fun i=>(i,aN a i)):=fun q hq=>by
  obtain⟨i,hi,rfl⟩:=qp1.1 hq;exact⟨ko h.vp (hin i hi),ha i (hin i hi)⟩
 have hmm:(((NG s.p).take gi).flatten.map fun i=>(i,aN a i)).map (·.1)=((NG s.p).take gi).flatten:=by
  rw[qqS];exact List.map_id _
 unfold Wz;rw[hgd];by_cases hsm:s.small=true
 . rw[if_pos hsm];obtain⟨hd,_,hr⟩:=h.dag hsm;have hi:=qkR h.vp hd (aN a) ((NG s.p).take gi).flatten [] s.root (qoB hr) ⟨g++post,by rw[hpost];simp⟩;rw[h.lv];have:=qgp h.vp hd (hroot hsm) (ql5 h.vp) hf g _ _ ⟨post,by rw[qpS,hmm];exact hpost⟩ (by rw[qpS];exact hc) hi;rw[qpS]at this;rw[<- this];unfold QG;rw[h.lv]
 . rw[if_neg hsm];have:=qgl h.vp s.R hf g _ (fun i hi=>ko h.vp (by rw[hpost];simp[hi])) hc;rw[<- this];unfold KJ;rw[qqS];rfl
noncomputable def qgn (p:Problem)(fx:Nat->Option Nat)(a:List Int)(gi:Nat):Nat:=Vy p (qx p).1 fx ((NG p).getD gi []) (((NG p).take gi).flatten.map fun i=>(i,aN a i))
noncomputable def Kc (p:Problem)(gi:Int)(a:List Int):Int×Int :=
 if gi<0\/((NG p).length:Int)<=gi\/qC p.vars a=false then (0,1)
 else if qgn p (fun _=>none) a gi.toNat=0 then (0,11) else if qgn p (fun _=>none) a gi.toNat=lim then (0,3) else (qgn p (fun _=>none) a gi.toNat,0)
noncomputable def chP (p:Problem)(a:List Int)(gi:Nat):List Nat->(Nat->Option Nat)->Int->List Int->List Int
 | [],_,_,out=>out
 | i::r,fx,idx,out=>
  let q:=kw (fun x=>qgn p (kD fx i x) a gi) (2 ^ wdN p i) 0 idx
  chP p a gi r (kD fx i q.1) q.2 (out.set i q.1)
noncomputable def ZC (p:Problem)(gi:Nat)(a:List Int)(idx:Int):List Int:=chP p a gi (yQ ((NG p).getD gi [])) (fun _=>none) idx a
theorem qfV (p:Problem)(i:Nat):wdN p i=jx p i:=by
 unfold wdN jx zF;split<;>rename_i h<;>simp[h]
theorem qdu (F:Nat->Nat):∀ (n x:Nat) (idx:Int),0<n->x<=(kw F n x idx).1/\(kw F n x idx).1<x+n
 | 0,x,idx,h=>absurd h (by omega)
 | n+1,x,idx,_=>by
  unfold kw;split
  . exact⟨qpI _,by simp⟩
  . split
    . exact⟨qpI _,by simp⟩
    . have:=qdu F n (x+1) (idx-F x) (by omega);omega
theorem Yd {F G:Nat->Nat}:∀ (n x:Nat) (idx:Int),(∀ y,x<=y->y<x+n->F y=G y)->kw F n x idx=kw G n x idx
 | 0,x,idx,h=>rfl
 | n+1,x,idx,h=>by
  unfold kw;rw[h x (qpI _) (by omega),Yd n (x+1) _ fun y h1 h2=>h y (by omega) (by omega)]
theorem qji.upd {p:Problem}{fx:Nat->Option Nat}(h:qji p fx){i x:Nat}(hx:x<2 ^ jx p i):qji p (kD fx i x):=fun k y hy=>by
 unfold kD at hy;split at hy
 . rename_i e;subst e;have:x=y:=by simpa using hy
   omega
 . exact h k y hy
theorem chS_eq {s:Spc}{d:List Nd}{p:Problem}{a:List Int}{gi:Nat}(hp:s.p=p)(hs:∀ fx,qji p fx->Wz s d fx a gi=qgn p fx a gi):∀ (l:List Nat) (fx:Nat->Option Nat) (idx:Int) (out:List Int),qji p fx->chS s d a gi l fx idx out=chP p a gi l fx idx out:=by
 intro l
 induction l with
 | nil=>intro fx idx out _;rfl
 | cons i r ih=>
  intro fx idx out hf;have hpos:0<2 ^ jx p i:=qrS _;have hpk:kw (fun x=>Wz s d (kD fx i x) a gi) (2 ^ wdN s.p i) 0 idx=kw (fun x=>qgn p (kD fx i x) a gi) (2 ^ wdN p i) 0 idx:=by
   rw[hp];refine Yd _ _ _ fun y _ hy=>hs _ (hf.upd ?_)
   rw[qfV]at hy;omega
  have hlt:=qdu (fun x=>qgn p (kD fx i x) a gi) (2 ^ wdN p i) 0 idx (qrS _);rw[qfV]at hlt;unfold chS chP;dsimp only;rw[hpk];rw[qfV]at *;exact ih _ _ _ (hf.upd (by omega))
theorem ZH {p:Problem}(h:qk p=0){a:List Int}(ha:qC p.vars a=true):a.length=p.vars.length/\∀ i∈(NG p).flatten,aN a i<2 ^ jx p i:=by
 unfold qC at ha;simp only[qpC,decide_eq_true_eq]at ha;refine⟨ha.1,fun i hi=>?_⟩;obtain⟨v,hv,hm⟩:=ko h hi;have hil:=(qpy.1 hv).1;obtain⟨x,hx⟩:∃ x,a[i]?=some x:=⟨_,qpA (by omega)⟩;have hz:(v,x)∈p.vars.zip a:=qpz (i:=i) (qqW.2 ⟨hv,hx⟩);have h1:=qpJ.1 ha.2 _ hz;unfold zM at h1;simp only[qpC,decide_eq_true_eq]at h1;have h3:((2 ^ v.width.toNat:Nat):Int)=(2:Int) ^ v.width.toNat:=by simp
 unfold aN;rw[qpM,hx,(wid8 h hv).1];dsimp only[Option.getD];omega
structure SpR (p:Problem)(s:Spc)(d:List Nd):Prop where
 pe:s.p=p
 R:s.R=(qx p).1
 v:SpV s d
 root:s.small=true->∀ b,evD d b s.root=vV p.vars (qx p).1 (vL p.vars (qA p) b)
theorem SpR.sum {p:Problem}{s:Spc}{d:List Nd}(h:SpR p s d){a:List Int}(ha:qC p.vars a=true){gi:Nat}(hgi:gi<(NG p).length)(fx:Nat->Option Nat)(hf:qji p fx):Wz s d fx a gi=qgn p fx a gi:=by
 obtain⟨hp,hR,hv,hr⟩:=h;subst hp;have:=qnw hv (by rw[hR];exact hr) hf (ZH hv.vp ha).2 hgi;rw[this,hR];rfl
theorem SpR.tot {p:Problem}{s:Spc}{d:List Nd}(h:SpR p s d)(gi:Int)(a:List Int):Kw s d gi a=Kc p gi a:=by
 unfold Kw Kc;rw[h.pe];split
 . rfl
 . rename_i hn;have h1:qC p.vars a=true:=by
    cases hA:qC p.vars a with
    | true=>rfl
    | false=>exact absurd (.inr (.inr hA)) hn
   have h2:gi.toNat<(NG p).length:=by
    have:¬ gi<0:=fun e=>hn (.inl e)
    have:¬ ((NG p).length:Int)<=gi:=fun e=>hn (.inr (.inl e))
    omega
   rw[h.sum h1 h2 _ (fun i x hx=>by cases hx)]
theorem SpR.ch {p:Problem}{s:Spc}{d:List Nd}(h:SpR p s d){a:List Int}(ha:qC p.vars a=true){gi:Nat}(hgi:gi<(NG p).length)(idx:Int):Vi s d gi a idx=ZC p gi a idx:=by
 unfold Vi ZC;rw[chS_eq h.pe (fun fx hf=>h.sum ha hgi fx hf) _ _ _ _ (fun i x hx=>by cases hx),h.pe]
theorem qix (p:Problem)(a:List Int)(gi:Nat):∀ (l:List Nat) (fx:Nat->Option Nat) (idx:Int) (out:List Int),(chP p a gi l fx idx out).length=out.length
 | [],_,_,_=>rfl
 | i::r,fx,idx,out=>by
  unfold chP;dsimp only;rw[qix p a gi r];simp
theorem qcD (p:Problem)(gi:Nat)(a:List Int)(idx:Int):(ZC p gi a idx).length=a.length:=qix _ _ _ _ _ _ _
noncomputable def Z6 (p:Problem)(R:List Ex)(fx:Nat->Option Nat):List Nat->List (Nat×Nat)->Nat
 | [],c=>if okC p R c=true then 1 else 0
 | i::r,c=>Z8 (fun v=>wtP p i v*Z6 p R fx r (c++[(i,v)])) (wJ (jx p i) (fx i))
theorem qn9 {p:Problem}{R:List Ex}{c d:List (Nat×Nat)}(h:okC p R (c++d)=true):okC p R c=true:=by
 unfold okC at h⊢;obtain⟨a,ha,hs⟩:=qp0.1 h;rw[qpC,qq0,qpC]at hs;exact qp0.2 ⟨a,ha,by rw[qpC];exact⟨hs.1,hs.2.1⟩⟩
theorem Kv {p:Problem}{R:List Ex}{fx:Nat->Option Nat}:∀ (g:List Nat) (c:List (Nat×Nat)),okC p R c≠true->Z6 p R fx g c=0
 | [],c,h=>if_neg h
 | i::r,c,h=>by
  unfold Z6;refine wX fun v _=>?_
  rw[Kv r _ (fun h'=>h (qn9 h')),Nat.mul_zero]
theorem sat_wt (w t:Nat)(h:w<=lim):sat (w*sat t)=sat (w*t):=by
 have:=qnJ w t;have e:sat w=w:=qq8 h
 rwa[e]at this
theorem qd0 {α:Type}(w t:α->Nat)(hw:∀ x,w x<=lim):∀ (l:List α) (s:Nat),l.foldl (fun s v=>sat (s+sat (w v*sat (t v)))) (sat s)=sat (s+Z8 (fun v=>w v*t v) l)
 | [],s=>by simp[Z8]
 | x::l,s=>by
  rw[qqe,sat_wt _ _ (hw x),qnK,qd0 w t hw l];simp only[Z8];rw[qrv]
theorem V4 {p:Problem}{R:List Ex}{fx:Nat->Option Nat}:∀ (g:List Nat) (c:List (Nat×Nat)),Vy p R fx g c=sat (Z6 p R fx g c)
 | [],c=>by
  unfold Vy Z6;split<;>rfl
 | i::r,c=>by
  by_cases h:okC p R c=true
  . unfold Vy Z6;rw[if_pos h];have e:(fun s v=>sat (s+sat (wtP p i v*Vy p R fx r (c++[(i,v)]))))=(fun s v=>sat (s+sat (wtP p i v*sat (Z6 p R fx r (c++[(i,v)]))))):=by
     funext s v;rw[V4 r]
    rw[e];have:=qd0 (fun v=>wtP p i v) (fun v=>Z6 p R fx r (c++[(i,v)])) (fun v=>qcS p i v) (wJ (jx p i) (fx i)) 0;rw[qq4]at this;exact this
  . rw[Kv _ _ h];unfold Vy;rw[if_neg h];rfl
noncomputable def qjF (p:Problem)(R:List Ex)(fx:Nat->Option Nat)(a:List Int)(gi:Nat):Nat:=Vy p R fx ((NG p).getD gi []) (((NG p).take gi).flatten.map fun i=>(i,aN a i))
noncomputable def Z7 (p:Problem)(R:List Ex)(gi:Int)(a:List Int):Int×Int :=
 if gi<0\/((NG p).length:Int)<=gi\/qC p.vars a=false then (0,1)
 else if qjF p R (fun _=>none) a gi.toNat=0 then (0,11) else if qjF p R (fun _=>none) a gi.toNat=lim then (0,3) else (qjF p R (fun _=>none) a gi.toNat,0)
noncomputable def chPR (p:Problem)(R:List Ex)(a:List Int)(gi:Nat):List Nat->(Nat->Option Nat)->Int->List Int->List Int
 | [],_,_,out=>out
 | i::r,fx,idx,out=>
  let q:=kw (fun x=>qjF p R (kD fx i x) a gi) (2 ^ wdN p i) 0 idx
  chPR p R a gi r (kD fx i q.1) q.2 (out.set i q.1)
noncomputable def qlD (p:Problem)(R:List Ex)(gi:Nat)(a:List Int)(idx:Int):List Int:=chPR p R a gi (yQ ((NG p).getD gi [])) (fun _=>none) idx a
theorem chP_R (p:Problem)(a:List Int)(gi:Nat):∀ (l:List Nat) (fx:Nat->Option Nat) (idx:Int) (out:List Int),chP p a gi l fx idx out=chPR p (qx p).1 a gi l fx idx out
 | [],_,_,_=>rfl
 | i::r,fx,idx,out=>by
  unfold chP chPR;exact chP_R p a gi r _ _ _
theorem qmb (p:Problem)(gi:Int)(a:List Int):Kc p gi a=Z7 p (qx p).1 gi a:=rfl
theorem qis (p:Problem)(gi:Nat)(a:List Int)(idx:Int):ZC p gi a idx=qlD p (qx p).1 gi a idx:=chP_R _ _ _ _ _ _ _
theorem qeS {p:Problem}(hv:qk p=0)(hs:p.soft=[])(hd:p.dists=[])(h:yB p.vars p.hard=true):qx p=(p.hard,0):=by
 have hn:zX p=p.hard:=by
  unfold zX ym vP;rw[if_pos hv,hd];simp
 have hns:qhc p=p.hard:=by
  unfold qhc vP;rw[hd];simp
 unfold qx;rw[if_pos hv,hn,if_pos h];unfold qgF Ji;rw[hns,hs];simp[Yk,wN]
def p1:Problem:={ vars:=[⟨[97],1,2,0⟩],hard:=[],soft:=[],dists:=[],groups:=[[0]] }
end Go.Proofs.YtkpkjbchlabaaaaGreatDoor
end
section
namespace Go.Abs
open Go Go.RowKit
theorem Pure.ofA {P:Program}{G:Nat->AV}{f:FuncId}{args:List AV}{r:AV}{Q:AV->St->Prop}(h:qf P (Je G) f args ⟨[],[]⟩ Q)(hq:∀ v U',Q v U'->q9 (frz U'.H 8 v)=true/\Leq (frz U'.H 8 v) r):Pure P G f args r:=by
 refine⟨h.1,?_⟩;intro w0 ro vs hg hro hvs;have hw:WRel (Je G) w0 ro (K0 ro) ⟨[],[]⟩ w0:=⟨Below.refl _ _,hg,hro,fun b o v e _=>e,by simp,fun _ _ _ e=>by simp[K0]at e,fun _ _ e=>by simp[K0]at e,by simp,fun _ _ e=>by simp[K0]at e,
  fun _ _ _ _ e=>by simp[K0]at e,rfl,fun _ _ _ _ _ e=>by simp[K0]at e,fun _ _ e=>by simp[K0]at e,fun _ _ e=>by simp[K0]at e⟩
 refine (h.2 w0 ro (K0 ro) w0 vs hw hvs).mono ?_;rintro e w' (⟨v',v,U',K',rfl,h1,h2,hv,hQ⟩|⟨c,U',K',rfl,h1,h2,hX⟩)
 . obtain⟨q1,q2⟩:=h2.end_ro;obtain⟨g1,g2⟩:=hq v U' hQ;exact⟨v',wL w0 w' K'.ro,rfl,h2.below,fun b o v e=>Jt _ _ _ _ _ _ (h1.ro b o v e),q1,q2,Leq.rel _ _ g2 (qhL h2 8 hv)⟩
 . exact hX.elim
end Go.Abs
namespace Go.Proofs.YtkpkjbchlabaaaaGreatDoor
open Go Go.Abs
theorem qfN.frz {b:Nat}{H:List Blk}{v:AV}{a:List Int}(h:qfN b H v a)(n:Nat):q9 (Abs.frz H (n+1) v)=true/\Leq (Abs.frz H (n+1) v) (.sl 1 (a.map qr) .none)/\(q9 v=true->Leq v (.sl 1 (a.map qr) .none)):=by
 rcases h with ⟨rfl,sz,tok,rfl⟩|⟨h0,rfl,hb⟩
 . have h1:∀ t,Leq (.sl sz [] t) (.sl 1 (([]:List Int).map qr) .none):=fun t=>by simp[Leq]
   refine⟨?_,?_,fun _=>h1 _⟩
   . unfold Abs.frz;split
     . assumption
     . simp
   . unfold Abs.frz;split
     . exact h1 _
     . simp
 . have ho:jp b 1 qr H (.ms b 0 a.length 1) a:=.inr ⟨h0,rfl,by rw[hb,kU]⟩;exact⟨ho.frzNo (fun _=>rfl) (fun _=>rfl) (fun _=>rfl) n,ho.frz (fun _=>rfl) (fun _=>rfl) (fun _=>rfl) n,fun h=>by simp[q9]at h⟩
end Go.Proofs.YtkpkjbchlabaaaaGreatDoor
end
section
namespace Go.Proofs.YtkpkjbchlabaaaaGreatDoor
open Go Go.Abs
theorem qle {env:List Signal}{e:Ex}(h:yp env e≠0):Kk env e=0/\wP env e≠0:=by
 unfold yp at h;split at h
 . rename_i hc;refine⟨?_,h⟩;unfold Kk;rw[if_neg (by simp[hc.1]),if_pos hc.2]
 . exact absurd rfl h
theorem qeA {v:Var}(h:jt v=0):0<=v.value/\v.value<(2:Int) ^ v.width.toNat:=by
 unfold jt at h;split at h
 . cases h
 . split at h
   . cases h
   . rename_i hc;omega
def v1:Var:=⟨[97],1,2,0⟩
end Go.Proofs.YtkpkjbchlabaaaaGreatDoor
end
