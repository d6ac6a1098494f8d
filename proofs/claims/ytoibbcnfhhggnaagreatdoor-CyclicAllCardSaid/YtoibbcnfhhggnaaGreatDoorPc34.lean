/- A part of the proof. -/
import Derived.Test.YtoibbcnfhhggnaaGreatDoorPc33
import Derived.KernelRfl
set_option linter.unusedVariables false
set_option linter.unusedSimpArgs false
set_option maxRecDepth 100000
set_option maxHeartbeats 16000000
set_option linter.defProp false
section
namespace Go.Proofs.YtoibbcnfhhggnaaGreatDoor
open Go Go.Abs
theorem Ji.frz {B:Nat}{H:List Blk}{x:AV}{u:List Int}(h:Ji B H x u)(k:Nat):qC (Abs.frz H (k+1) x)=true/\AV.atom (Abs.frz H (k+1) x)=true/\Leq (Abs.frz H (k+1) x) (.sl 1 (u.map qy) .none):=by
 rcases h with ⟨rfl,rfl|rfl⟩|⟨h0,b,_,rfl,hb⟩
 . rw[qt (by simp)];simp[Leq,AV.atom]
 . rw[qt (by simp)];simp[Leq,AV.atom]
 . have ho:jw b 1 qy H (.ms b 0 u.length 1) u:=.inr ⟨h0,rfl,by rw[hb,kw]⟩;refine⟨ho.frzNo (fun _=>rfl) (fun _=>rfl) (fun _=>rfl) k,?_,ho.frz (fun _=>rfl) (fun _=>rfl) (fun _=>rfl) k⟩;have hn:=ho.frzNo (fun _=>rfl) (fun _=>rfl) (fun _=>rfl) k;have hl:=ho.frz (fun _=>rfl) (fun _=>rfl) (fun _=>rfl) k;generalize Abs.frz H (k+1) (.ms b 0 u.length 1)=y at *;cases y<;>first | rfl | (simp[qC]at hn;done) | (simp[Leq]at hl;done)
theorem histU (B:Nat)(H:List Blk)(k:Nat):∀ (ws:List AV) (d:List (List Int)),ws.length=d.length->(∀ (i:Nat) (u:List Int) (x:AV),d[i]?=some u->ws[i]?=some x->Ji B H x u)->j6 ((ws.map fun v=>[v]).map (·.map (Abs.frz H (k+1)))) (d.map zc)/\(((ws.map fun v=>[v]).map (·.map (Abs.frz H (k+1)))).all (·.all AV.atom))=true/\qQ ((ws.map fun v=>[v]).map (·.map (Abs.frz H (k+1))))=true
 | [],[],_,_=>by simp
 | [],_::_,h,_=>by simp at h
 | _::_,[],h,_=>by simp at h
 | v::vs,l::c,h,hr=>by
  obtain⟨h1,h2,h3⟩:=histU B H k vs c (by simpa using h) (fun i u x hu hx=>hr (i+1) u x (by simpa using hu) (by simpa using hx));obtain⟨a1,a2,a3⟩:=(hr 0 l v rfl rfl).frz k;refine⟨?_,?_,?_⟩
  . simp only[qqk,qqF,j6];refine⟨.inr ⟨?_,by simp[AV.atom,zc]⟩,h1⟩;simp only[zc,zm,and_true];exact a3
  . simp only[qqk,qqF,qrL,List.all_nil,a2,qrP,qrm];exact h2
  . simp only[qqk,qqF,qQ,qq,a1,qrP,qrm];exact h3
theorem qiD {B n:Nat}{ws:List AV}{d:List (List Int)}{H:List Blk}(hB:H[B]?=some (.cells ws))(hw:ws.length=n)(hd:d.length=n)(hr:∀ (i:Nat) (u:List Int) (x:AV),d[i]?=some u->ws[i]?=some x->Ji B H x u)(k:Nat) :
 qC (Abs.frz H (k+3) (.agg [.ms B 0 n 1]))=true/\Leq (Abs.frz H (k+3) (.agg [.ms B 0 n 1])) (.agg (jZ d)):=by
 obtain⟨h1,h2,h3⟩:=histU B H k ws d (by omega) hr;have hch:kF 1 n (ws.drop 0)=ws.map fun v=>[v]:=by
  have:=Go.Abs.wE (sz:=1) (en:=fun v:AV=>[v]) (fun _=>rfl) ws [];rw[<- hw];simpa using this
 have e1:Abs.frz H (k+2) (.ms B 0 n 1)=.sl 1 ((ws.map fun v=>[v]).map (·.map (Abs.frz H (k+1)))) .none:=by
  rw[Abs.frz];simp only[qC,qqq,if_false,hB,hch];rw[if_pos ⟨by omega,h2⟩]
 have e2:Abs.frz H (k+3) (.agg [.ms B 0 n 1])=.agg [Abs.frz H (k+2) (.ms B 0 n 1)]:=by
  rw[Abs.frz,if_neg (by simp[qC])];rfl
 rw[e2,e1];refine⟨by simp only[qC,qq,h3];rfl,?_⟩;simp only[Leq,zm,jZ,and_true];exact .inr ⟨trivial,h1,.inl trivial⟩
def solV (q:List Int×List (List Int)×Rng×Int):AV:=.tup [.sl 1 (q.1.map qy) .none,.agg (jZ q.2.1),.agg (yh q.2.2.1),.int .i64 q.2.2.2]
theorem JY {H:List Blk}{n:Nat}{v w v' w':AV}{x:List AV}{z:Int}(hx:qq x=true)(h1:qC (Abs.frz H n v)=true/\Leq (Abs.frz H n v) v')(h2:qC (Abs.frz H n w)=true/\Leq (Abs.frz H n w) w') :
 qC (Abs.frz H (n+1) (.tup [v,w,.agg x,.int .i64 z]))=true/\Leq (Abs.frz H (n+1) (.tup [v,w,.agg x,.int .i64 z])) (.tup [v',w',.agg x,.int .i64 z]):=by
 have hxx:qC (.agg x)=true:=by simpa[qC] using hx
 by_cases hv:qC (.tup [v,w,.agg x,.int .i64 z])=true
 . rw[qt hv];have hv':=hv;simp only[qC,qq,qp9]at hv;rw[qt hv.1,qt hv.2.1]at *;exact⟨hv',by simp[Leq,zm,h1.2,h2.2,Leq.refl]⟩
 . have e:Abs.frz H (n+1) (.tup [v,w,.agg x,.int .i64 z])=.tup [Abs.frz H n v,Abs.frz H n w,.agg x,.int .i64 z]:=by
    rw[Abs.frz,if_neg hv];simp[qt hxx,wU]
   rw[e];exact⟨by simp[qC,qq,h1.1,h2.1,hx],by simp[Leq,zm,h1.2,h2.2,Leq.refl]⟩
theorem qc6 (p:Problem)(c:List (List Int))(hh:CycH p c)(r:Rng):Pure Tryz.prog GG 11 [.agg (qJ p),.agg (jZ c),.agg (yh r)] (solV (yG p c r)):=by
 by_cases hz:p.vars=[]/\qi p=0/\ya p.vars c=true
 . obtain⟨h0,hvp,hf⟩:=hz;have hc:c=[]:=by
    unfold ya at hf;simp only[qp9,decide_eq_true_eq]at hf;rw[h0]at hf;exact qqj hf.1
   subst hc;refine Pure.ofA (qgi p hh.vq hvp h0 (hh.flat hvp) hh.bits hh.dists hh.soft hh.wts r .none [] []) ?_;have hst:yz (ji p.vars []) p=(p,[]):=(by rw[h0];rfl);have hre:(qp p).2≠0->yG p [] r=([],[],(0,0),(zd p r).2.2):=fun h=>by
    unfold yG;rw[if_neg (by simp[hvp]),if_neg (by simp[hf]),if_pos h];have:zd p r=([],(0,0),(qp p).2):=if_pos h;rw[this]
   rintro v U' ⟨_,w,sz,tk,⟨he,rfl⟩|⟨he,rfl,b,hr⟩⟩
   . have hq:yG p [] r=([],[],(0,0),(zd p r).2.2):=by
      by_cases hr:(qp p).2=0
      . unfold yG;rw[if_neg (by simp[hvp]),if_neg (by simp[hf]),if_neg (by simp[hr]),hst,if_pos he]
      . exact hre hr
     rw[hq];refine JY (by simp) (by rw[qt (by simp)];simp[Leq]) ?_
     cases tk with
     | chain t k=>simp[Abs.frz,qC,qq,Leq,zm]
     | none=>rw[qt (by simp)];simp[Leq,zm]
     | nil=>rw[qt (by simp)];simp[Leq,zm]
     | tight=>rw[qt (by simp)];simp[Leq,zm]
   . have hr0:(qp p).2=0:=by
      apply Classical.byContradiction;intro h;have:zd p r=([],(0,0),(qp p).2):=if_pos h;rw[this]at he;exact h he
     have hq:yG p [] r=((zd p r).1,[],(zd p r).2.1,0):=by
      unfold yG;rw[if_neg (by simp[hvp]),if_neg (by simp[hf]),if_neg (by simp[hr0]),hst,if_neg (by simp[he])];rw[h0];rfl
     rw[hq];obtain⟨h1,h2,h3⟩:=hr.frz 6;refine JY (by simp[qC,qq,yh]) ⟨h1,h2⟩ ?_
     cases tk with
     | chain t k=>simp[Abs.frz,qC,qq,Leq,zm]
     | none=>rw[qt (by simp)];simp[Leq,zm]
     | nil=>rw[qt (by simp)];simp[Leq,zm]
     | tight=>rw[qt (by simp)];simp[Leq,zm]
 . refine Pure.ofA (qmh p c hh (fun h1 h2 h3=>hz ⟨h3,h1,h2⟩) r [] []) ?_;rintro v U' ⟨_,⟨he,rfl⟩|⟨he,w,b,B,ws,rfl,hr,hd,hB,hw,hu⟩⟩
   . have h1:yG p c r=([],[],(0,0),(yG p c r).2.2.2):=by
      unfold yG at he ⊢;split
      . rfl
      . split
        . rfl
        . split
          . rfl
          . split
            . rfl
            . rename_i a1 a2 a3 a4;rw[if_neg a1,if_neg a2,if_neg a3,if_neg a4]at he;exact absurd rfl he
     generalize (yG p c r).2.2.2=e at h1 he;rw[h1];exact JY (by simp) (by rw[qt (by simp)];simp[Leq]) (by rw[qt (by simp)];simp[Leq,zm])
   . have hq:yG p c r=((yG p c r).1,(yG p c r).2.1,(yG p c r).2.2.1,0):=(by rw[<- he]);obtain⟨h1,h2,h3⟩:=hr.frz 6;have hf:=qiD hB hw hd hu 4;unfold solV;rw[he];exact JY (by simp[qC,qq,yh]) ⟨h1,h2⟩ hf
noncomputable def jm (p:Problem)(R:List Ex)(fx:Nat->Option Nat):List Nat->List (Nat×Nat)->Nat
 | [],c=>if okC p R c=true then 1 else 0
 | i::r,c=>vl (fun v=>wtP p i v*jm p R fx r (c++[(i,v)])) (wj (jx p i) (fx i))
theorem qoN {p:Problem}{R:List Ex}{c d:List (Nat×Nat)}(h:okC p R (c++d)=true):okC p R c=true:=by
 unfold okC at h⊢;obtain⟨a,ha,hs⟩:=qqr.1 h;rw[qp9,qrD,qp9]at hs;exact qqr.2 ⟨a,ha,by rw[qp9];exact⟨hs.1,hs.2.1⟩⟩
theorem Wb {p:Problem}{R:List Ex}{fx:Nat->Option Nat}:∀ (g:List Nat) (c:List (Nat×Nat)),okC p R c≠true->jm p R fx g c=0
 | [],c,h=>if_neg h
 | i::r,c,h=>by
  unfold jm;refine Yq fun v _=>?_
  rw[Wb r _ (fun h'=>h (qoN h')),qtM]
theorem sat_wt (w t:Nat)(h:w<=lim):sat (w*sat t)=sat (w*t):=by
 have:=qon w t;have e:sat w=w:=qsc h
 rwa[e]at this
theorem qeC {α:Type}(w t:α->Nat)(hw:∀ x,w x<=lim):∀ (l:List α) (s:Nat),l.foldl (fun s v=>sat (s+sat (w v*sat (t v)))) (sat s)=sat (s+vl (fun v=>w v*t v) l)
 | [],s=>by simp[vl]
 | x::l,s=>by
  rw[qqV,sat_wt _ _ (hw x),qoo,qeC w t hw l];simp only[vl];rw[qsd]
theorem qaD {p:Problem}{R:List Ex}{fx:Nat->Option Nat}:∀ (g:List Nat) (c:List (Nat×Nat)),qcm p R fx g c=sat (jm p R fx g c)
 | [],c=>by
  unfold qcm jm;split<;>rfl
 | i::r,c=>by
  by_cases h:okC p R c=true
  . unfold qcm jm;rw[if_pos h];have e:(fun s v=>sat (s+sat (wtP p i v*qcm p R fx r (c++[(i,v)]))))=(fun s v=>sat (s+sat (wtP p i v*sat (jm p R fx r (c++[(i,v)]))))):=by
     funext s v;rw[qaD r]
    rw[e];have:=qeC (fun v=>wtP p i v) (fun v=>jm p R fx r (c++[(i,v)])) (fun v=>qgG p i v) (wj (jx p i) (fx i)) 0;rw[qrX]at this;exact this
  . rw[Wb _ _ h];unfold qcm;rw[if_neg h];rfl
theorem qaC {α β:Type}(F:α->β->Nat):∀ (l:List α) (m:List β),vl (fun v=>vl (fun x=>F v x) m) l=vl (fun x=>vl (fun v=>F v x) l) m
 | [],m=>by simp only[vl];exact (Yq fun _ _=>rfl).symm
 | a::l,m=>by
  simp only[vl];rw[qaC F l m]
  induction m with
  | nil=>rfl
  | cons x m ih=>simp only[vl];omega
theorem Ym {p:Problem}{R:List Ex}{fx gx:Nat->Option Nat}:∀ (g:List Nat) (c:List (Nat×Nat)),(∀ i∈g,fx i=gx i)->jm p R fx g c=jm p R gx g c
 | [],_,_=>rfl
 | i::r,c,h=>by
  unfold jm;rw[h i (by simp)];refine wn fun v _=>?_
  rw[Ym r _ fun k hk=>h k (by simp[hk])]
theorem W9 {fx:Nat->Option Nat}{i k x:Nat}(h:k≠i):yF fx i x k=fx k:=if_neg h
theorem qg8 {fx:Nat->Option Nat}{i x:Nat}:yF fx i x i=some x:=if_pos rfl
theorem Yk {p:Problem}{R:List Ex}{fx:Nat->Option Nat}{i:Nat}(hf:fx i=none):∀ (g:List Nat) (c:List (Nat×Nat)),g.Nodup->i∈g->jm p R fx g c=vl (fun x=>jm p R (yF fx i x) g c) (List.range (2 ^ jx p i))
 | j::r,c,hn,hi=>by
  rw[qro]at hn;by_cases hj:j=i
  . subst hj;unfold jm;rw[hf];show vl _ (List.range _)=_;refine wn fun x _=>?_
    rw[qg8];show _=vl _ [x];simp only[vl,qri];rw[Ym r _ fun k hk=>(W9 (fx:=fx) (x:=x) (i:=j) (by rintro rfl;exact hn.1 hk)).symm]
  . have hi':i∈r:=(qqv.1 hi).resolve_left (Ne.symm hj);unfold jm;have e:∀ x,wj (jx p j) (yF fx i x j)=wj (jx p j) (fx j):=fun x=>by rw[W9 hj]
    simp only[e];rw[<- qaC];refine wn fun v _=>?_
    rw[Yk hf r _ hn.2 hi',<- qdE]
noncomputable def JI (p:Problem)(val:Nat->Nat):List Nat->Nat
 | []=>1
 | i::r=>wtP p i (val i)*JI p val r
theorem Yl {p:Problem}{R:List Ex}{fx:Nat->Option Nat}{val:Nat->Nat}:∀ (g:List Nat) (c:List (Nat×Nat)),(∀ i∈g,fx i=some (val i))->jm p R fx g c=JI p val g*if okC p R (c++g.map fun i=>(i,val i))=true then 1 else 0
 | [],c,_=>by
  unfold jm JI;simp
 | i::r,c,h=>by
  unfold jm JI;rw[h i (by simp)];show vl _ [val i]=_;simp only[vl,qri];rw[Yl r _ fun k hk=>h k (by simp[hk])];rw[qqC,qtJ];rfl
theorem qaT {p:Problem}{val:Nat->Nat}:∀ {g:List Nat},0<JI p val g->∀ i∈g,0<wtP p i (val i)
 | [],_,_,hi=>by cases hi
 | j::r,h,i,hi=>by
  unfold JI at h;have h1:0<wtP p j (val j):=qsy fun e=>by rw[e,qrG]at h;omega
  have h2:0<JI p val r:=qsy fun e=>by rw[e,qtM]at h;omega
  rcases qqv.1 hi with rfl|hi
  . exact h1
  . exact qaT h2 i hi
theorem Wu (F:Nat->Nat):∀ (n x:Nat) (idx:Int),0<=idx->idx<(vl F (List.range' x n):Nat) ->
 (x<=(j9 F n x idx).1/\(j9 F n x idx).1<x+n)/\0<=(j9 F n x idx).2/\(j9 F n x idx).2<(F (j9 F n x idx).1:Nat)/\idx=(vl F (List.range' x ((j9 F n x idx).1-x)):Nat)+(j9 F n x idx).2
 | 0,x,idx,h0,h=>by simp[vl]at h;omega
 | n+1,x,idx,h0,h=>by
  rw[qrx]at h;simp only[vl]at h;unfold j9;by_cases h1:idx<(F x:Nat)
  . rw[if_pos h1];refine⟨⟨qqf _,by omega⟩,h0,h1,?_⟩;simp[vl]
  . rw[if_neg h1];by_cases hn:n=0
    . subst hn;simp[vl]at h;omega
    . rw[if_neg hn];have ih:=Wu F n (x+1) (idx-(F x:Nat)) (by omega) (by omega);obtain⟨⟨a1,a2⟩,a3,a4,a5⟩:=ih;generalize j9 F n (x+1) (idx-(F x:Nat))=q at *;refine⟨⟨by omega,by omega⟩,a3,a4,?_⟩;have e:q.1-x=(q.1-(x+1))+1:=(by omega);rw[e,qrx];simp only[vl];omega
theorem Yp (p:Problem)(fx:Nat->Option Nat)(a:List Int)(gi:Nat):qaB p fx a gi=sat (jm p (qp p).1 fx ((NG p).getD gi []) (((NG p).take gi).flatten.map fun i=>(i,aN a i))):=qaD _ _
theorem qms {p:Problem}{a:List Int}{gi:Nat}{g:List Nat}(hg:(NG p).getD gi []=g)(hn:g.Nodup):∀ (l:List Nat) (fx:Nat->Option Nat) (idx:Int) (out:List Int),l.Nodup->(∀ i∈l,fx i=none/\i∈g/\i<out.length) ->
 0<=idx->idx<(jm p (qp p).1 fx g (((NG p).take gi).flatten.map fun i=>(i,aN a i)):Nat)->jm p (qp p).1 fx g (((NG p).take gi).flatten.map fun i=>(i,aN a i))<lim ->
 ∃ fx':Nat->Option Nat,(∀ i∈l,∃ x:Nat,fx' i=some x/\x<2 ^ jx p i/\(chP p a gi l fx idx out)[i]?=some (x:Int))/\(∀ k,k∉l->fx' k=fx k/\(chP p a gi l fx idx out)[k]?=out[k]?)/\0<jm p (qp p).1 fx' g (((NG p).take gi).flatten.map fun i=>(i,aN a i)):=by
 generalize hc:(((NG p).take gi).flatten.map fun i=>(i,aN a i))=c;intro l
 induction l with
 | nil=>
  intro fx idx out _ _ h0 h1 _;exact⟨fx,fun i hi=>(by cases hi),fun k _=>⟨rfl,rfl⟩,by omega⟩
 | cons i r ih=>
  intro fx idx out hl hm h0 h1 h2;rw[qro]at hl;obtain⟨hfi,hig,hio⟩:=hm i (by simp);have hsp:=Yk (p:=p) (R:=(qp p).1) hfi g c hn hig;have hle:∀ x,x<2 ^ jx p i->jm p (qp p).1 (yF fx i x) g c<=jm p (qp p).1 fx g c:=fun x hx=>by
   rw[hsp];exact qhh (f:=fun x=>jm p (qp p).1 (yF fx i x) g c) (qqT.2 hx)
  have hF:∀ x,x<2 ^ jx p i->qaB p (yF fx i x) a gi=jm p (qp p).1 (yF fx i x) g c:=fun x hx=>by
   rw[Yp,hg,hc];have:=hle x hx;exact qsc (by omega)
  have hw:wdN p i=jx p i:=qds p i;have hsum:vl (fun x=>qaB p (yF fx i x) a gi) (List.range' 0 (2 ^ wdN p i))=jm p (qp p).1 fx g c:=by
   rw[hsp,hw,<- qrv];exact wn fun x hx=>hF x (qqT.1 hx)
  obtain⟨⟨_,q1⟩,q2,q3,_⟩:=Wu (fun x=>qaB p (yF fx i x) a gi) (2 ^ wdN p i) 0 idx h0 (by rw[hsum];exact h1);unfold chP;dsimp only;generalize j9 (fun x=>qaB p (yF fx i x) a gi) (2 ^ wdN p i) 0 idx=q at *;have hq1:q.1<2 ^ jx p i:=by rw[<- hw];omega
  rw[hF _ hq1]at q3;obtain⟨fx',f1,f2,f3⟩:=ih (yF fx i q.1) q.2 (out.set i q.1) hl.2 (fun k hk=>by
   obtain⟨a1,a2,a3⟩:=hm k (by simp[hk]);exact⟨by rw[W9 (by rintro rfl;exact hl.1 hk)];exact a1,a2,by simpa using a3⟩) q2 q3 (by have:=hle _ hq1;omega)
  refine⟨fx',fun k hk=>?_,fun k hk=>?_,f3⟩
  . rcases qqv.1 hk with rfl|hk
    . obtain⟨b1,b2⟩:=f2 k hl.1;exact⟨q.1,by rw[b1,qg8],hq1,by rw[b2,qqa hio]⟩
    . exact f1 k hk
  . have hki:k≠i:=fun e=>hk (by simp[e])
    obtain⟨b1,b2⟩:=f2 k (fun h=>hk (by simp[h]));exact⟨by rw[b1,W9 hki],by rw[b2,qp7 (Ne.symm hki)]⟩
theorem qa3 {α:Type}[DecidableEq α]:∀ {a b:List α},a.Nodup->(∀ x∈a,x∈b)->a.length<=b.length
 | [],_,_,_=>by simp
 | x::a,b,hn,hs=>by
  rw[qro]at hn;have hx:=hs x (by simp);have h1:a.length<=(b.erase x).length:=qa3 hn.2 fun y hy=>by
   have hne:y≠x:=(by rintro rfl;exact hn.1 hy);exact (List.mem_erase_of_ne hne).2 (hs y (by simp[hy]))
  rw[qsR hx]at h1;have:=qtA hx;simp only[qqm];omega
theorem WA {α:Type}[DecidableEq α]:∀ {b a:List α},a.Nodup->(∀ x∈a,x∈b)->b.length<=a.length->b.Nodup
 | [],_,_,_,_=>List.nodup_nil
 | x::b,a,hn,hs,hl=>by
  have hx:x∉b:=fun hx=>by
   have:=qa3 hn (b:=b) fun y hy=>by
    rcases qqv.1 (hs y hy) with rfl|h
    . exact hx
    . exact h
   simp at hl;omega
  refine qro.2 ⟨hx,WA (hn.erase x) (fun y hy=>?_) ?_⟩
  . rw[hn.mem_erase_iff]at hy;exact (qqv.1 (hs y hy.2)).resolve_left hy.1
  . have:=List.length_erase (a:=x) (l:=a);simp only[qqm]at hl;split at this<;>omega
theorem qcq {g:List Nat}(h:g.Nodup):(yp g).Nodup:=WA h (fun x hx=>Ys.2 hx) (by rw[qaG];exact qqf _)
structure GoodA (p:Problem)(a:List Int):Prop where
 len:a.length=p.vars.length
 st:∀ (i:Nat) (v:Var),p.vars[i]?=some v->v.mode=0->a[i]?=some v.value
 nn:∀ (i:Nat) (v:Var) (x:Int),p.vars[i]?=some v->v.mode≠0->a[i]?=some x->0<=x
theorem WK (p:Problem):GoodA p (qP p.vars):=by
 refine⟨yY _,fun i v hi hm=>?_,fun i v x hi hm hx=>?_⟩
 . unfold qP;rw[qqp,hi];simp[hm]
 . unfold qP at hx;rw[qqp,hi]at hx;simp[hm]at hx;omega
def yH (p:Problem)(a:List Int)(gi:Nat):List (Nat×Nat):=((NG p).take gi).flatten.map fun i=>(i,aN a i)
theorem qbQ {p:Problem}(hv:qi p=0){gi:Nat}(hgi:gi<(NG p).length){a:List Int}(ha:GoodA p a){idx:Int}(h0:0<=idx)(h1:idx<(jm p (qp p).1 (fun _=>none) ((NG p).getD gi []) (yH p a gi):Nat))(h2:jm p (qp p).1 (fun _=>none) ((NG p).getD gi []) (yH p a gi)<lim) :
 GoodA p (jV p gi a idx)/\okC p (qp p).1 (yH p (jV p gi a idx) (gi+1))=true/\(∀ i,i∉(NG p).getD gi []->(jV p gi a idx)[i]?=a[i]?)/\∀ i∈(NG p).getD gi [],0<wtP p i (aN (jV p gi a idx) i)/\aN (jV p gi a idx) i<2 ^ jx p i:=by
 have hgg:=qp8 hgi;obtain⟨g,hg⟩:∃ g,(NG p).getD gi []=g:=⟨_,rfl⟩;have hgs:(NG p)[gi]?=some g:=by rw[qqh,hgg]at hg;rw[hgg];exact congrArg some hg
 have hnf:=J9 hv;obtain⟨post,hpost⟩:=ZH hgs;have hgn:g.Nodup:=by
  rw[hpost]at hnf;exact (qqZ.1 (qqZ.1 hnf).1).2.1
 have hdis:∀ i∈g,i∉((NG p).take gi).flatten:=fun i hi hi2=>by
  rw[hpost]at hnf;exact (qqZ.1 (qqZ.1 hnf).1).2.2 i hi2 i hi rfl
 have hgm:∀ i∈g,i∈(NG p).flatten:=fun i hi=>by rw[hpost];simp[hi]
 have hs1:∀ i,i∈yp g↔i∈g:=fun i=>Ys
 have hs2:g.Nodup->(yp g).Nodup:=qcq;rw[hg]at h1 h2 ⊢;obtain⟨fx',f1,f2,f3⟩:=qms hg hgn (yp g) (fun _=>none) idx a (hs2 hgn) (fun i hi=>by
  obtain⟨v,hv',_⟩:=yQ hv (hgm i ((hs1 i).1 hi));have:=(qp5.1 hv').1;exact⟨rfl,(hs1 i).1 hi,by rw[ha.len];exact this⟩) h0 h1 h2
 have hce:jV p gi a idx=chP p a gi (yp g) (fun _=>none) idx a:=by unfold jV;rw[hg]
 have hlen:=QX p gi a idx;rw[<- hce]at f1 f2;generalize jV p gi a idx=b at *;have hout:∀ i,i∉g->b[i]?=a[i]? := fun i hi=>(f2 i fun h=>hi ((hs1 i).1 h)).2
 have hin:∀ i∈g,fx' i=some (aN b i)/\aN b i<2 ^ jx p i/\b[i]?=some (aN b i:Int):=fun i hi=>by
  obtain⟨x,x1,x2,x3⟩:=f1 i ((hs1 i).2 hi);have:aN b i=x:=by unfold aN;rw[qqh,x3];simp
  rw[this];exact⟨x1,x2,x3⟩
 have hpre:((NG p).take gi).flatten.map (fun i=>(i,aN b i))=yH p a gi:=by
  unfold yH;apply qrd;intro i hi;have:aN b i=aN a i:=by unfold aN;rw[qqh,qqh,hout i fun h=>hdis i h hi]
  rw[this]
 have hfix:=Yl (p:=p) (R:=(qp p).1) (fx:=fx') (val:=aN b) g (yH p a gi) (fun i hi=>(hin i hi).1);have f3':0<jm p (qp p).1 fx' g (yH p a gi):=f3;rw[hfix]at f3';have hok:okC p (qp p).1 (yH p a gi++g.map fun i=>(i,aN b i))=true:=by
  apply Classical.byContradiction;intro h;rw[if_neg h,qtM]at f3';omega
 have hpw:0<JI p (aN b) g:=qsy fun e=>by rw[e,qrG]at f3';omega
 refine⟨⟨by rw[hlen];exact ha.len,fun i v hi hm=>?_,fun i v x hi hm hx=>?_⟩,?_,hout,fun i hi=>⟨qaT hpw i hi,(hin i hi).2.1⟩⟩
 . rw[hout i fun h=>?_]
   . exact ha.st i v hi hm
   . obtain⟨v',hv',hm'⟩:=yQ hv (hgm i h);rw[hi]at hv';cases hv';exact hm' hm
 . by_cases h:i∈g
   . have:=(hin i h).2.2;rw[hx]at this;have:x=(aN b i:Int):=Option.some.inj this;omega
   . rw[hout i h]at hx;exact ha.nn i v x hi hm hx
 . have e:yH p b (gi+1)=yH p a gi++g.map fun i=>(i,aN b i):=by
    rw[<- hpre];unfold yH;rw[qqE,hgs];simp
   rw[e];exact hok
theorem qhc {p:Problem}{gi:Nat}{a:List Int}(h:(ZI p gi a).2=0):gi<(NG p).length/\zD p.vars a=true/\(ZI p gi a).1=(jm p (qp p).1 (fun _=>none) ((NG p).getD gi []) (yH p a gi):Nat)/\0<jm p (qp p).1 (fun _=>none) ((NG p).getD gi []) (yH p a gi)/\jm p (qp p).1 (fun _=>none) ((NG p).getD gi []) (yH p a gi)<lim:=by
 unfold ZI at h⊢;split at h
 . cases h
 . rename_i hn;split at h
   . cases h
   . rename_i h1;split at h
     . cases h
     . rename_i h2;rw[if_neg hn,if_neg h1,if_neg h2];have hg:gi<(NG p).length:=by
        have:¬ ((NG p).length:Int)<=gi:=fun e=>hn (.inr (.inl e))
        omega
       have ha:zD p.vars a=true:=by
        cases hA:zD p.vars a with
        | true=>rfl
        | false=>exact absurd (.inr (.inr hA)) hn
       have e:qaB p (fun _=>none) a (gi:Int).toNat=sat (jm p (qp p).1 (fun _=>none) ((NG p).getD gi []) (yH p a gi)):=Yp _ _ _ _;rw[e]at h1 h2 ⊢;have h3:=sat_lt h2;rw[h3]at h1 ⊢;refine⟨hg,ha,rfl,qsy h1,?_⟩;have:=qaN (jm p (qp p).1 (fun _=>none) ((NG p).getD gi []) (yH p a gi));omega
structure EndA (p:Problem)(a:List Int)(gi:Nat):Prop where
 good:GoodA p a
 ok:okC p (qp p).1 (yH p a gi)=true
 pos:∀ i∈((NG p).take gi).flatten,0<wtP p i (aN a i)/\aN a i<2 ^ jx p i
theorem qix {p:Problem}(hv:qi p=0):∀ (k gi:Nat) (a:List Int) (r:Rng),gi+k=(NG p).length->EndA p a gi->(qbp p (List.range' gi k) a r).2.2=0->EndA p (qbp p (List.range' gi k) a r).1 (NG p).length
 | 0,gi,a,r,hk,h,_=>by
  have:gi=(NG p).length:=by omega
  subst this;exact h
 | k+1,gi,a,r,hk,h,he=>by
  rw[qrx]at he ⊢;unfold qbp at he ⊢;split at he
  . exact absurd he (by assumption)
  . rename_i h1;rw[if_neg h1];split at he
    . exact absurd he (by assumption)
    . rename_i h2;rw[if_neg h2];obtain⟨t1,t2,t3,t4,t5⟩:=qhc (qqN.1 h1);have hb:0<=(jI (ZI p gi a).1 r).1/\(jI (ZI p gi a).1 r).1<(ZI p gi a).1:=by
       unfold jI at h2 ⊢;split at h2
       . exact absurd (show ((1:Int))≠0 by decide) h2
       . rename_i hc;rw[if_neg hc];exact v9 (by rw[t3];omega) r
      rw[t3]at hb;obtain⟨c1,c2,c3,c4⟩:=qbQ hv t1 h.good (idx:=(jI (ZI p gi a).1 r).1) (by rw[t3];exact hb.1) (by rw[t3];exact hb.2) t5;refine qix hv k (gi+1) _ _ (by omega) ⟨c1,c2,fun i hi=>?_⟩ he;obtain⟨g,hg⟩:∃ g,(NG p)[gi]?=some g:=⟨_,qp8 t1⟩;have hgd:(NG p).getD gi []=g:=(by rw[qqh,hg];rfl);rw[qqE,hg]at hi;simp only[Option.toList,qrs,qqo]at hi;rcases hi with hi|hi
      . have hni:i∉(NG p).getD gi []:=fun h'=>by
         rw[hgd]at h';have hnf:=J9 hv;obtain⟨post,hpost⟩:=ZH hg;rw[hpost]at hnf;exact (qqZ.1 (qqZ.1 hnf).1).2.2 i hi i h' rfl
        have e:aN (jV p gi a (jI (ZI p gi a).1 r).1) i=aN a i:=by
         unfold aN;rw[qqh,qqh,c3 i hni]
        rw[e];exact h.pos i hi
      . rw[hgd]at c4;exact c4 i (by simpa using hi)
theorem qpy {p:Problem}(hv:qi p=0){a:List Int}(h:EndA p a (NG p).length):a∈QA p.vars/\Qe p.vars (qp p).1 a=true:=by
 obtain⟨hg,hok,hpos⟩:=h;have htk:(NG p).take (NG p).length=NG p:=qqg (qqf _);unfold yH at hok;rw[htk]at hok hpos;unfold okC at hok;obtain⟨b,hb,hs⟩:=qqr.1 hok;rw[qp9]at hs;have hbo:=ky.1 hb;have hab:a=b:=by
  apply qqW;intro i
  cases hi:p.vars[i]? with
  | none=>
   have hl:=qsJ.1 hi;rw[qqG (by rw[hg.len];exact hl),qqG (by rw[hbo.len];exact hl)]
  | some v=>
   by_cases hm:v.mode=0
   . obtain⟨x,hx,hc⟩:=kU hbo hi;rw[if_pos hm]at hc;rw[hg.st i v hi hm,hx,hc]
   . have hiF:=Vg hv hi hm;have h1:=qqi.1 hs.2 (i,aN a i) (qqx.2 ⟨i,hiF,rfl⟩);have h2:b[i]?=some (aN a i:Int):=of_decide_eq_true h1;have hil:=(qp5.1 hi).1;obtain⟨x,h3⟩:∃ x,a[i]?=some x:=⟨_,qp8 (by rw[hg.len];exact hil)⟩;have h4:=hg.nn i v _ hi hm h3;rw[h2,h3];congr 1;unfold aN;rw[qqh,h3];show x=(x.toNat:Int);omega
 rw[hab];exact⟨hb,hs.1⟩
theorem qho {vs:List Var}{l m:List Ex}(h:∀ e,e∈l↔e∈m):jJ vs l=jJ vs m:=by
 have:∀ a,Qe vs l a=Qe vs m a:=fun a=>by
  unfold Qe;rw[qq1,qqi,qqi];exact⟨fun h1 e he=>h1 e ((h e).2 he),fun h1 e he=>h1 e ((h e).1 he)⟩
 unfold jJ;congr 1;funext a;exact this a
theorem Y6 (vs:List Var):∀ (L:List (Int×Ex)) (R:List Ex),jJ vs R=true->jJ vs (R++(wh vs R L).map (·.2))=true
 | [],R,h=>by simpa[wh] using h
 | x::r,R,h=>by
  unfold wh;split
  . rename_i h1;have:=Y6 vs r (R++[x.2]) h1;simpa using this
  . exact Y6 vs r R h
theorem Qf {p:Problem}(h:(qp p).2=0):qi p=0/\jJ p.vars (zA p)=true/\jJ p.vars (qp p).1=true/\∀ e∈zA p,e∈(qp p).1:=by
 rw[Qg]at h;obtain⟨h1,h2,h3,_⟩:=Zc h;refine⟨h1,h2,?_,fun e he=>?_⟩
 . rw[h3];have:=Y6 p.vars (JK p.soft) (zA p) h2;rw[<- this];refine qho fun e=>?_
   have hn:qcG p=zA p:=by
    unfold qcG zA;have:jW p=wm p:=if_pos h1;rw[this]
   unfold ZT;rw[hn];simp
 . rw[h3];exact qqH _ he
theorem qhT (p:Problem)(R:List Ex):okC p R []=jJ p.vars R:=by
 unfold okC jJ;congr 1;funext a;simp
theorem qkx {p:Problem}{r:Rng}(h:(zd p r).2.2=0):qi p=0/\(qp p).2=0/\EndA p (zd p r).1 (NG p).length/\(zd p r).1∈QA p.vars/\Qe p.vars (qp p).1 (zd p r).1=true:=by
 unfold zd at h⊢;split at h
 . exact absurd h (by assumption)
 . rename_i h1;rw[if_neg h1];have h0:=qqN.1 h1;obtain⟨hv,_,hs,_⟩:=Qf h0;rw[qrv]at h ⊢;have he:=qix hv (NG p).length 0 (qP p.vars) r (by omega) ⟨WK p,by
    have:yH p (qP p.vars) 0=[]:=by simp[yH]
    rw[this,qhT];exact hs,fun i hi=>by simp at hi⟩ h
   exact⟨hv,h0,he,qpy hv he⟩
theorem qeL {env:List Signal}{e:Ex}(h:yr env e≠0):qcY env e=0/\yo env e≠0:=by
 unfold yr at h;split at h
 . rename_i hc;refine⟨?_,h⟩;unfold qcY;rw[if_neg (by simp[hc.1]),if_pos hc.2]
 . exact absurd rfl h
theorem Kl {p:Problem}(hv:qi p=0){a:List Int}(ha:a∈QA p.vars){i:Nat}{v:Var}{z:Int}(hi:p.vars[i]?=some v)(hz:a[i]?=some z):zV (kE p.vars a) v.name=some z/\0<=z/\z<(zi v:Nat)\/v.mode=0:=by
 by_cases hm:v.mode=0
 . exact .inr hm
 . left;have hok:=ky.1 ha;obtain⟨x,hx,hxr⟩:=kU hok hi;rw[hz]at hx;cases hx;rw[if_neg hm]at hxr;have hve:=qU (zE hv v (qp6 hi));have h3:2 ^ v.width.toNat<=2 ^ 8:=qqu (by omega) (by omega);have hsz:zi v=2 ^ v.width.toNat:=rfl;have hf:=vV (j7 hv) hi hz;rw[Q2 hxr.1 (by omega)]at hf;have hen:kE p.vars a=(p.vars.zip a).map fun q=>⟨q.1.name,q.2⟩:=by unfold kE;rw[if_pos hok.len]
   rw[hen];exact⟨hf,hxr⟩
theorem qfi {v:Var}(h:jL v=0):0<=v.value/\v.value<(2:Int) ^ v.width.toNat:=by
 unfold jL at h;split at h
 . cases h
 . split at h
   . cases h
   . rename_i hc;omega
theorem qmg {v:Var}{u:List Int}{q:Problem}:(∀ e∈q.hard,e∈(WS v u q).1.hard)/\((v.mode≠2/\(WS v u q).2=u)\/(WS v u q).2=[]\/((WS v u q).2=u/\u≠[]/\Qy v u∈(WS v u q).1.hard)):=by
 unfold WS;split
 . rename_i h;refine⟨fun e he=>he,?_⟩;by_cases hm:v.mode=2
   . exact .inr (.inl (h.resolve_left fun h=>h hm))
   . exact .inl ⟨hm,rfl⟩
 . rename_i h;split
   . exact⟨fun e he=>he,.inr (.inl rfl)⟩
   . exact⟨fun e he=>by simp[Je,he],.inr (.inr ⟨rfl,fun hu=>h (.inr hu),by simp[Je]⟩)⟩
theorem qmf (q:Problem)(l:List (Var×List Int)):(∀ e∈q.hard,e∈(yz l q).1.hard)/\∀ (i:Nat) (u:List Int),(yz l q).2[i]?=some u->∃ x,l[i]?=some x/\((x.1.mode≠2/\u=x.2)\/u=[]\/(u=x.2/\u≠[]/\Qy x.1 x.2∈(yz l q).1.hard)):=by
 induction hn:l.length generalizing l with
 | zero=>
  have:l=[]:=qqj hn;subst this;exact⟨fun e he=>he,fun i u h=>by simp[yz]at h⟩
 | succ k ih=>
  obtain⟨d,x,rfl⟩:∃ d x,l=d++[x]:=⟨l.dropLast,l.getLast (by rintro rfl;simp at hn),(qqU _).symm⟩;obtain⟨h1,h2⟩:=ih d (by simpa using hn);obtain⟨h3,h4⟩:=qmg (v:=x.1) (u:=x.2) (q:=(yz d q).1);have hd:=yT q d;rw[yn];unfold qc5;refine⟨fun e he=>h3 e (h1 e he),fun i u h=>?_⟩;dsimp only at h⊢;by_cases hi:i<d.length
  . rw[qqe (by omega)]at h;obtain⟨y,hy,h5⟩:=h2 i u h;refine⟨y,by rw[qqe hi];exact hy,?_⟩;rcases h5 with h5|h5|⟨h5,h6,h7⟩
    . exact .inl h5
    . exact .inr (.inl h5)
    . exact .inr (.inr ⟨h5,h6,h3 _ h7⟩)
  . have hi2:i=d.length:=by
     have:=(qp5.1 h).1;simp at this;omega
    subst hi2;rw[qqd (by omega),hd,qrl]at h;refine⟨x,by simp,?_⟩;simp at h;subst h;rcases h4 with ⟨a,b⟩|b|⟨b,c,d⟩
    . exact .inl ⟨a,b⟩
    . exact .inr (.inl b)
    . exact .inr (.inr ⟨b,by rw[b];exact c,d⟩)
theorem qm9 {v:Var}{l:List Int}(h:okV v l=true):(v.mode≠2->l=[])/\okL v.width l=true:=by
 unfold okV at h;by_cases hm:v.mode=2
 . exact⟨fun h'=>absurd hm h',by simpa[hm] using h⟩
 . refine⟨fun _=>?_,?_⟩
   . simp[hm]at h
     first | exact h.1 | exact h
   . simp[hm]at h
     first | exact h.2 | (subst h;rfl) | (rw[h];rfl)
structure FitS (p:Problem)(c:List (List Int))(a:List Int)(d:List (List Int)):Prop where
 vp:qi p=0
 fits:ya p.vars c=true
 all:a∈QA p.vars
 hard:∀ e∈p.hard,yr (kE p.vars a) e≠0
 dlen:d.length=p.vars.length
 row:∀ (i:Nat) (v:Var) (l u:List Int) (z:Int),p.vars[i]?=some v->c[i]?=some l->a[i]?=some z->d[i]?=some u->(v.mode≠2/\u=[])\/(v.mode=2/\u=[z])\/(v.mode=2/\l≠[]/\u=l++[z]/\z∈yw v.width l)
theorem qdM {p:Problem}{c:List (List Int)}{r:Rng}(hh:CycH p c)(h:(yG p c r).2.2.2=0):FitS p c (yG p c r).1 (yG p c r).2.1:=by
 unfold yG at h⊢;split at h
 . exact absurd h (by assumption)
 rename_i h1;split at h
 . exact absurd h (by decide)
 rename_i h2;split at h
 . exact absurd h (by assumption)
 rename_i h3;split at h
 . exact absurd h (by assumption)
 rename_i h4;rw[if_neg h1,if_neg h2,if_neg h3,if_neg h4];have hvp:=qqN.1 h1;have hf:ya p.vars c=true:=by cases hF:ya p.vars c with | true=>rfl | false=>exact absurd hF h2
 have hcl:c.length=p.vars.length:=by
  unfold ya at hf;simp only[qp9,decide_eq_true_eq]at hf;exact hf.1
 have hfi:=(wV hcl).1 hf;have hPl:=Zi hcl;have hPm:∀ x∈ji p.vars c,x.1∈p.vars:=fun x hx=>by
  obtain⟨y,hy,rfl⟩:=qqx.1 hx;exact (qs2 hy).1
 have hmo:=ZA (fun v hv=>zE hvp v hv) hh.vq.names (ji p.vars c) hPm;obtain⟨hi1,hi2⟩:=qmf p (ji p.vars c);have hul:=yT p (ji p.vars c);generalize hst:yz (ji p.vars c) p=st at *;obtain⟨q,us⟩:=st;dsimp only at *;have h4':=qqN.1 h4;obtain⟨hvq,hrq,hend,hall,hsat⟩:=qkx h4';obtain⟨_,_,_,hneed⟩:=Qf hrq;rw[hmo.vars]at hall hsat;have hev:∀ e∈q.hard,yr (kE p.vars (zd q r).1) e≠0:=fun e he=>by
  unfold Qe at hsat;exact of_decide_eq_true (qqi.1 hsat e (hneed e (qqH _ he)))
 have hal:(zd q r).1.length=p.vars.length:=(ky.1 hall).len;generalize (zd q r).1=a at *;refine⟨hvp,hf,hall,fun e he=>hev e (hi1 e he),Vq _ _ _ (by omega) hal,fun i v l u z hi hl hz hu=>?_⟩;obtain⟨v',u',z',a1,a2,a3,rfl⟩:=Vr _ _ _ i u hu;rw[hi]at a1;rw[hz]at a3;cases a1;cases a3;have hpu:=Vk hi hl;obtain⟨x,hx,hc⟩:=hi2 i u' a2;rw[hpu]at hx;cases hx;have hok:=qm9 (hfi i v l hi hl);by_cases hm:v.mode=2
 . have e1:qjY v u' z=u'++[z]:=if_pos hm;rw[e1];rcases hc with ⟨h5,_⟩|rfl|⟨rfl,h6,h7⟩
   . exact absurd hm h5
   . exact .inr (.inl ⟨hm,rfl⟩)
   . dsimp only at h7;have hkl:jU v l=l:=by
      unfold jU at h6 ⊢;split
      . rfl
      . rename_i hx;rw[if_neg hx]at h6;exact absurd rfl h6
     rw[hkl]at h6 h7 ⊢;refine .inr (.inr ⟨hm,h6,rfl,?_⟩);obtain⟨_,hval⟩:=qeL (hev _ h7);have hmem:=(ZL (kE p.vars a) v.name (yw v.width l)).1 hval;rcases Kl hvp hall hi hz with ⟨hf1,_⟩|hm0
     . rw[hf1]at hmem;exact hmem
     . rw[hm0]at hm;cases hm
 . have e1:qjY v u' z=u':=if_neg hm;rw[e1];refine .inl ⟨hm,?_⟩;have hl0:=hok.1 hm;subst hl0;rcases hc with ⟨_,h5⟩|h5|⟨_,h6,_⟩
   . rw[h5];unfold jU;split<;>rfl
   . exact h5
   . dsimp only at *;rename_i h7 h8;have:jU v []=[]:=by unfold jU;split<;>rfl
     rename_i hh2;simp_all
theorem FitS.len {p:Problem}{c:List (List Int)}{a:List Int}{d:List (List Int)}(h:FitS p c a d):a.length=p.vars.length/\c.length=p.vars.length:=by
 refine⟨(ky.1 h.all).len,?_⟩;have hf:=h.fits;unfold ya at hf;simp only[qp9,decide_eq_true_eq]at hf;exact hf.1
theorem FitS.fit {p:Problem}{c:List (List Int)}{a:List Int}{d:List (List Int)}(h:FitS p c a d):ya p.vars d=true:=by
 obtain⟨h1,h2⟩:=h.len;have hfi:=(wV h2).1 h.fits;refine (wV h.dlen).2 fun i v u hi hu=>?_
 have hil:=(qp5.1 hi).1;obtain⟨l,hl⟩:∃ l,c[i]?=some l:=⟨_,qp8 (by omega)⟩;obtain⟨z,hz⟩:∃ z,a[i]?=some z:=⟨_,qp8 (by omega)⟩;have hv:=hfi i v l hi hl;have hrng:v.mode=2->0<=z/\z<(2:Int) ^ v.width.toNat:=fun hm=>by
  rcases Kl h.vp h.all hi hz with ⟨_,h3,h4⟩|hm0
  . refine⟨h3,?_⟩;have:((2 ^ v.width.toNat:Nat):Int)=(2:Int) ^ v.width.toNat:=by simp
    unfold zi at h4;omega
  . rw[hm0]at hm;cases hm
 rcases h.row i v l u z hi hl hz hu with ⟨hm,rfl⟩|⟨hm,rfl⟩|⟨hm,h0,rfl,hmem⟩
 . unfold okV;simp[hm,okL]
 . obtain⟨r1,r2⟩:=hrng hm;unfold okV;have:okL v.width [z]=true:=Zj.2 fun k n hk=>by
    cases k with
    | zero=>simp at hk;subst hk;simp[okN,r1,r2]
    | succ k=>simp at hk
   simp[hm,this]
 . obtain⟨r1,r2⟩:=hrng hm;have hl2:=(qm9 hv).2;have:okL v.width (l++[z])=true:=Zj.2 fun k n hk=>by
    by_cases hkl:k<l.length
    . rw[qqe hkl]at hk;rw[qq3 (by omega)];exact Zj.1 hl2 k n hk
    . have hk2:k=l.length:=by
       have:=(qp5.1 hk).1;simp at this;omega
      subst hk2;rw[qqd (qqf _),qrl]at hk;simp at hk;subst hk;rw[List.take_left];have hno:(l.any fun y=>z==y)=false:=by
       rw[qrf];intro y hy he;exact (YG.1 hmem).2 (by rw[eq_of_beq he];exact hy)
      simp[okN,r1,r2,hno]
   unfold okV;simp[hm,this]
theorem qif {n i:Nat}{w:List Weight}:∀ {l:List Dist},(jg n l)[i]?=some (some w)->∃ d∈l,d.var.toNat=i/\d.weights=w:=by
 intro l
 induction hn:l.length generalizing l with
 | zero=>
  have:l=[]:=qqj hn;subst this;intro h;simp[jg]at h;have:=qr0 (qp6 h);cases this
 | succ k ih=>
  obtain⟨d,x,rfl⟩:∃ d x,l=d++[x]:=⟨l.dropLast,l.getLast (by rintro rfl;simp at hn),(qqU _).symm⟩;intro h;rw[Y1]at h;by_cases hi:x.var.toNat=i
  . have hl:x.var.toNat<(jg n d).length:=by
     have:=(qp5.1 h).1;rw[qrC]at this;omega
    subst hi;rw[qqa hl]at h;simp at h;exact⟨x,by simp,rfl,h⟩
  . rw[qp7 hi]at h;obtain⟨y,hy,h1,h2⟩:=ih (by simpa using hn) h;exact⟨y,by simp[hy],h1,h2⟩
theorem ZM:∀ (l:List Weight) (s:Nat),(jf l s).2=0->∃ m:Nat,(jf l s).1=m/\s∣m/\∀ w∈l,w.each≠true->wsz w∣m
 | [],s,_=>⟨s,rfl,Nat.dvd_refl _,by simp⟩
 | w::r,s,h=>by
  unfold jf at h⊢;by_cases he:w.each=true
  . rw[if_pos he]at h ⊢;obtain⟨m,h1,h2,h3⟩:=ZM r s h;refine⟨m,h1,h2,fun x hx hne=>?_⟩;rcases qqv.1 hx with rfl|hx
    . exact absurd he hne
    . exact h3 x hx hne
  . rw[if_neg he]at h ⊢;by_cases hl:Nat.lcm s (wsz w)<9223372036854775808
    . rw[if_pos hl]at h ⊢;obtain⟨m,h1,h2,h3⟩:=ZM r _ h;refine⟨m,h1,Nat.dvd_trans (Nat.dvd_lcm_left _ _) h2,fun x hx hne=>?_⟩;rcases qqv.1 hx with rfl|hx
      . exact Nat.dvd_trans (Nat.dvd_lcm_right _ _) h2
      . exact h3 x hx hne
    . rw[if_neg hl]at h;cases h
theorem qb6 {l:List Weight}{v:Int}(hp:qae l v=true)(h:(yi l v).2=0):1<=(yi l v).1:=by
 unfold yi at h⊢;split at h
 . exact absurd h (by assumption)
 rename_i h1;split at h
 . exact absurd h (by assumption)
 rename_i h2;rw[if_neg h1,if_neg h2];obtain⟨hw,_,_⟩:=Yg (qqN.1 h1);have hs:=kQ l 1 hw (by omega) (by omega);obtain⟨m,m1,_,m3⟩:=ZM l 1 (qqN.1 h2);have hm0:0<m:=by
  rcases hs with ⟨_,h3,_⟩|h3
  . rw[m1]at h3;omega
  . rw[h3]at h2;exact absurd (show ((3:Int))≠0 by decide) h2
 rw[m1]at h ⊢;have hmm:((m:Int)).toNat=m:=by omega
 rw[hmm]at h ⊢;unfold QI at h⊢;have ho:YQ l v=l.find? (inW v):=rfl;unfold qae at hp;rw[<- ho]at hp
 cases hO:YQ l v with
 | none=>rw[hO]at hp;cases hp
 | some w=>
  rw[hO]at hp h;dsimp only at hp h ⊢;have hwp:0<w.weight:=of_decide_eq_true hp;have hwm:w∈l:=qti hO;have hwl:=hw w hwm;have hsz:0<wsz w:=WX hwl.2.1;by_cases he:w.each=true
  . rw[if_pos he]at h ⊢;unfold qag at h⊢;split at h
    . rename_i hlt;rw[if_pos hlt];have:0<w.weight.toNat*m:=Nat.mul_pos (by omega) hm0;dsimp only;omega
    . cases h
  . rw[if_neg he]at h ⊢;unfold qag at h⊢;split at h
    . rename_i hlt;rw[if_pos hlt];have hd:=Nat.div_pos (Nat.le_of_dvd hm0 (m3 w hwm he)) hsz;have:0<w.weight.toNat*(m / wsz w):=Nat.mul_pos (by omega) hd;dsimp only;omega
    . cases h
theorem qnO {l:List Weight}{v:Int}(hp:qae l v=true):0<wtO (some l) v:=by
 unfold wtO;dsimp only;split
 . unfold lim;omega
 . rename_i h;have:=qb6 hp (qqN.1 h);exact qsy fun e=>by
    rw[Yw]at e;omega
theorem wt_pos {p:Problem}(hv:qi p=0){b:List Int}(hb:b∈QA p.vars)(hs:∀ e∈zA p,yr (kE p.vars b) e≠0){i:Nat}(hi:i∈(NG p).flatten):0<wtP p i (aN b i)/\aN b i<2 ^ jx p i/\b[i]?=some (aN b i:Int):=by
 obtain⟨v,hv',hm⟩:=yQ hv hi;obtain⟨x,hx,hc⟩:=kU (ky.1 hb) hv';rw[if_neg hm]at hc;have hax:aN b i=x.toNat:=by unfold aN;rw[qqh,hx];rfl
 have hxx:((aN b i:Nat):Int)=x:=by rw[hax];omega
 refine⟨?_,?_,by rw[hxx];exact hx⟩
 . unfold wtP;have hil:i<(jg p.vars.length p.dists).length:=(by rw[y8];exact (qp5.1 hv').1);obtain⟨o,ho⟩:∃ o,(jg p.vars.length p.dists)[i]?=some o:=⟨_,qp8 hil⟩;rw[qqh,ho];show 0<wtO o _
   cases o with
   | none=>exact Nat.one_pos
   | some w=>
    obtain⟨d,hd,hdv,hdw⟩:=qif ho;have hsup:Jp p.vars d∈zA p:=by
     unfold zA jW wm;rw[if_pos hv];exact qq6 _ (qqx.2 ⟨d,hd,rfl⟩)
    have hev:=(qeL (hs _ hsup)).2;have hse:Jp p.vars d=jA v.name (kh (qax v w)):=by
     unfold Jp;rw[hdv,hv',hdw]
    rw[hse]at hev;have hmem:=(ZL _ _ _).1 hev;rcases Kl hv hb hv' hx with ⟨hf,_⟩|h0
    . rw[hf]at hmem;have:qae w x=true:=(qsw.1 hmem).2;rw[hxx];exact qnO this
    . exact absurd h0 hm
 . have:=(qnY hv hv').1;rw[this,hax];unfold zi at hc;omega
theorem qdz {p:Problem}{R:List Ex}{val:Nat->Nat}:∀ (g:List Nat) (c:List (Nat×Nat)),(∀ i∈g,val i<2 ^ jx p i)->JI p val g*(if okC p R (c++g.map fun i=>(i,val i))=true then 1 else 0)<=jm p R (fun _=>none) g c
 | [],c,_=>by
  unfold jm JI;simp
 | i::r,c,h=>by
  have ih:=qdz (p:=p) (R:=R) r (c++[(i,val i)]) fun k hk=>h k (by simp[hk])
  unfold jm JI;rw[qqC]at ih;have hm:val i∈List.range (2 ^ jx p i):=qqT.2 (h i (by simp));have:=qhh (f:=fun v=>wtP p i v*jm p R (fun _=>none) r (c++[(i,v)])) hm;refine qq9 ?_ this;rw[qtJ];exact Nat.mul_le_mul_left _ ih
theorem qdW {p:Problem}{val:Nat->Nat}:∀ {g:List Nat},(∀ i∈g,0<wtP p i (val i))->0<JI p val g
 | [],_=>Nat.one_pos
 | i::r,h=>Nat.mul_pos (h i (by simp)) (qdW fun k hk=>h k (by simp[hk]))
theorem qbs {p:Problem}(hv:qi p=0){a:List Int}(h:GoodA p a)(hr:∀ i∈(NG p).flatten,aN a i<2 ^ jx p i):zD p.vars a=true:=by
 unfold zD;simp only[qp9,decide_eq_true_eq,qqi];refine⟨h.len,?_⟩;rintro⟨v,x⟩ hx;obtain⟨i,hi⟩:=qqJ hx;obtain⟨h1,h2⟩:=qrc.1 hi;dsimp only at h1 h2;have hve:=zE hv v (qp6 h1);have h3:((2 ^ v.width.toNat:Nat):Int)=(2:Int) ^ v.width.toNat:=by simp
 unfold w9;by_cases hm:v.mode=0
 . have:=h.st i v h1 hm;rw[h2]at this;cases this;have hvv:=qfi hve;simp[hm,hvv]
 . have hn:=h.nn i v x h1 hm h2;have hl:=hr i (Vg hv h1 hm);rw[(qnY hv h1).1]at hl;have hax:aN a i=x.toNat:=(by unfold aN;rw[qqh,h2];rfl);rw[hax]at hl;have:x<(2:Int) ^ v.width.toNat:=by omega
   simp[hm,hn,this]
structure MidA (p:Problem)(a:List Int)(gi:Nat):Prop where
 e:EndA p a gi
 rest:∀ i∈((NG p).drop gi).flatten,aN a i=0
theorem MidA.assigns {p:Problem}(hv:qi p=0){a:List Int}{gi:Nat}(h:MidA p a gi):zD p.vars a=true:=by
 refine qbs hv h.e.good fun i hi=>?_
 have:(NG p).flatten=((NG p).take gi).flatten++((NG p).drop gi).flatten:=by rw[<- qrs,qqQ]
 rw[this]at hi;rcases qqo.1 hi with hi|hi
 . exact (h.e.pos i hi).2
 . rw[h.rest i hi];exact qrw _
theorem MidA.tot {p:Problem}(hv:qi p=0){a:List Int}{gi:Nat}(hgi:gi<(NG p).length)(h:MidA p a gi)(hneed:∀ e∈zA p,e∈(qp p).1):(ZI p gi a).2=0\/(ZI p gi a).2=3:=by
 have hass:=h.assigns hv;have hpos:0<jm p (qp p).1 (fun _=>none) ((NG p).getD gi []) (yH p a gi):=by
  have hok:=h.e.ok;unfold okC at hok;obtain⟨b,hb,hs⟩:=qqr.1 hok;rw[qp9]at hs;obtain⟨g,hg⟩:∃ g,(NG p)[gi]?=some g:=⟨_,qp8 hgi⟩;have hgd:(NG p).getD gi []=g:=by rw[qqh,hg];rfl
  obtain⟨post,hpost⟩:=ZH hg;have hgm:∀ i∈g,i∈(NG p).flatten:=fun i hi=>by rw[hpost];simp[hi]
  have hev:∀ e∈zA p,yr (kE p.vars b) e≠0:=fun e he=>by
   have:=hs.1;unfold Qe at this;exact of_decide_eq_true (qqi.1 this e (hneed e he))
  have hw:=fun i (hi:i∈g)=>wt_pos hv hb hev (hgm i hi)
  rw[hgd];have h1:=qdz (p:=p) (R:=(qp p).1) (val:=aN b) g (yH p a gi) fun i hi=>(hw i hi).2.1
  have h2:okC p (qp p).1 (yH p a gi++g.map fun i=>(i,aN b i))=true:=by
   unfold okC;refine qqr.2 ⟨b,hb,?_⟩;rw[qp9,qrD,qp9];refine⟨hs.1,hs.2,qqi.2 fun q hq=>?_⟩;obtain⟨i,hi,rfl⟩:=qqx.1 hq;exact decide_eq_true (hw i hi).2.2
  rw[if_pos h2,Nat.mul_one]at h1;exact qqn (qdW fun i hi=>(hw i hi).1) h1
 have e:qaB p (fun _=>none) a (gi:Int).toNat=sat (jm p (qp p).1 (fun _=>none) ((NG p).getD gi []) (yH p a gi)):=Yp _ _ _ _;unfold ZI;rw[if_neg (by rintro (h1 | h1 | h1);omega;omega;rw[hass]at h1;cases h1),e];rw[if_neg (by rw[Yw];omega)];split
 . exact .inr rfl
 . exact .inl rfl
theorem qez {p:Problem}(hv:qi p=0)(hneed:∀ e∈zA p,e∈(qp p).1):∀ (k gi:Nat) (a:List Int) (r:Rng),gi+k=(NG p).length->MidA p a gi->(qbp p (List.range' gi k) a r).2.2=0\/(qbp p (List.range' gi k) a r).2.2=3
 | 0,gi,a,r,_,_=>.inl rfl
 | k+1,gi,a,r,hk,h=>by
  rw[qrx];unfold qbp;have ht:=h.tot hv (by omega) hneed;split
  . rename_i h1;rcases ht with h2|h2
    . exact absurd h2 h1
    . exact .inr h2
  . rename_i h1;obtain⟨t1,t2,t3,t4,t5⟩:=qhc (qqN.1 h1);have hb:(jI (ZI p gi a).1 r).2.2=0/\0<=(jI (ZI p gi a).1 r).1/\(jI (ZI p gi a).1 r).1<(ZI p gi a).1:=by
     unfold jI;have hl:lim<4611686018427387904:=(by unfold lim;omega);rw[if_neg (by rw[t3];omega)];exact⟨rfl,v9 (by rw[t3];omega) r⟩
    rw[if_neg (by simp[hb.1])];have hb2:=hb.2;rw[t3]at hb2;obtain⟨c1,c2,c3,c4⟩:=qbQ hv t1 h.e.good (idx:=(jI (ZI p gi a).1 r).1) (by rw[t3];exact hb2.1) (by rw[t3];exact hb2.2) t5;obtain⟨g,hg⟩:∃ g,(NG p)[gi]?=some g:=⟨_,qp8 t1⟩;have hgd:(NG p).getD gi []=g:=(by rw[qqh,hg];rfl);have hnf:=J9 hv;obtain⟨post,hpost⟩:=ZH hg;have haN:∀ i,i∉g->aN (jV p gi a (jI (ZI p gi a).1 r).1) i=aN a i:=fun i hi=>by
     unfold aN;rw[qqh,qqh,c3 i (by rw[hgd];exact hi)]
    refine qez hv hneed k (gi+1) _ _ (by omega) ⟨⟨c1,c2,fun i hi=>?_⟩,fun i hi=>?_⟩
    . rw[qqE,hg]at hi;simp only[Option.toList,qrs,qqo]at hi;rcases hi with hi|hi
      . have hni:i∉g:=fun h'=>by
         rw[hpost]at hnf;exact (qqZ.1 (qqZ.1 hnf).1).2.2 i hi i h' rfl
        rw[haN i hni];exact h.e.pos i hi
      . rw[hgd]at c4;exact c4 i (by simpa using hi)
    . have hdr:(NG p).drop gi=g::(NG p).drop (gi+1):=by
       obtain⟨h2,h3⟩:=qp5.1 hg;rw[qqt h2,h3]
      have hni:i∉g:=fun h'=>by
       have e:(NG p).flatten=((NG p).take gi).flatten++(g++((NG p).drop (gi+1)).flatten):=by
        have:=qqQ gi (NG p);rw[hdr]at this
        conv=>lhs;rw[<- this]
        simp
       rw[e]at hnf;exact (qqZ.1 (qqZ.1 hnf).2.1).2.2 i h' i hi rfl
      rw[haN i hni];exact h.rest i (by rw[hdr];simp[hi])
theorem qhm {p:Problem}{r:Rng}(h:(qp p).2=0):(zd p r).2.2=0\/(zd p r).2.2=3:=by
 obtain⟨hv,_,hs,hneed⟩:=Qf h;unfold zd;rw[if_neg (by simp[h]),qrv];refine qez hv hneed _ 0 _ r (by omega) ⟨⟨WK p,?_,fun i hi=>by simp at hi⟩,fun i hi=>?_⟩
 . have:yH p (qP p.vars) 0=[]:=by simp[yH]
   rw[this,qhT];exact hs
 . have hi':i∈(NG p).flatten:=(by simpa using hi);obtain⟨v,hv',hm⟩:=yQ hv hi';unfold aN qP;rw[qqh,qqp,hv'];simp[hm]
def vu (s:Str)(e:Ex):Prop:=∀ x∈pre e,(x.op=2->x.name≠s)/\x.op≠3/\x.op≠24
theorem vu.arg {s:Str}{e a:Ex}(h:vu s e)(ha:a∈e.args):vu s a:=fun x hx=>h x (by rw[jc];exact qrn _ (wR.2 ⟨a,ha,hx⟩))
theorem qlS {s:Str}{env env':List Signal}(hf:∀ n,n≠s->zV env n=zV env' n):∀ e,vu s e->yo env e=yo env' e:=by
 refine Ex.ind fun e ih h=>?_
 obtain⟨h2,h3,h24⟩:=h e (by rw[jc];simp);have ha:e.args.map (yo env)=e.args.map (yo env'):=qrd fun a ha=>ih a ha (h.arg ha)
 rw[yk,yk,ha];unfold Qw;by_cases h1:e.op=1
 . rw[if_pos h1,if_pos h1]
 . rw[if_neg h1,if_neg h1];by_cases h22:e.op=2
   . rw[if_pos h22,if_pos h22,hf _ (h2 h22)]
   . rw[if_neg h22,if_neg h22,if_neg h3,if_neg h3,if_neg h24,if_neg h24]
theorem qf5 {s:Str}{env env':List Signal}(hf:∀ n,n≠s->zV env n=zV env' n){e:Ex}(h:vu s e):yt env e=yt env' e:=by
 unfold yt;rw[qq1,qqi,qqi];have:∀ x∈pre e,qjZ env x=qjZ env' x:=fun x hx=>by
  obtain⟨h2,h3,h24⟩:=h x hx;unfold qjZ;by_cases h22:x.op=2
  . rw[if_pos h22,if_pos h22,hf _ (h2 h22)]
  . rw[if_neg h22,if_neg h22,if_neg (by rintro (h | h);exact h3 h;exact h24 h),if_neg (by rintro (h | h);exact h3 h;exact h24 h)]
 exact⟨fun h1 x hx=>(this x hx)▸h1 x hx,fun h1 x hx=>(this x hx).symm▸h1 x hx⟩
theorem qiH {s:Str}{env env':List Signal}(hf:∀ n,n≠s->zV env n=zV env' n){e:Ex}(h:vu s e):yr env e=yr env' e:=by
 unfold yr;rw[qf5 hf h,qlS hf e h]
theorem qeF:∀ {vs:List Var} {a:List Int} {i:Nat} {v:Var} (w:Int) (n:Str),vs[i]?=some v->n≠v.name->zV ((vs.zip (a.set i w)).map fun q=>(⟨q.1.name,q.2⟩:Signal)) n=zV ((vs.zip a).map fun q=>(⟨q.1.name,q.2⟩:Signal)) n
 | [],_,_,_,_,_,h,_=>by simp at h
 | _::_,[],_,_,_,_,_,_=>by simp
 | x::vs,y::a,0,v,w,n,h,hn=>by
  simp at h;subst h;unfold zV;have:(x.name==n)=false:=by simpa using fun e=>hn e.symm
  simp[qsb,this]
 | x::vs,y::a,i+1,v,w,n,h,hn=>by
  have ih:=qeF (vs:=vs) (a:=a) (i:=i) w n (by simpa using h) hn;unfold zV at ih ⊢;simp only[qsu,qsO,qqk,qsb];cases hx:(x.name==n)
  . exact ih
  . rfl
theorem qmH {vs:List Var}{a:List Int}(ha:a∈QA vs){i:Nat}{v:Var}(hi:vs[i]?=some v)(hm:v.mode≠0){w:Int}(h0:0<=w)(h1:w<(zi v:Nat)):a.set i w∈QA vs:=by
 have hok:=ky.1 ha;refine ky.2 (qhU (by rw[qrC];exact hok.len) fun k x hk=>?_);by_cases hki:k=i
 . subst hki;rw[hi]at hk;cases hk;have hl:=(qp5.1 hi).1;exact⟨w,qqa (by rw[hok.len];exact hl),by rw[if_neg hm];exact⟨h0,h1⟩⟩
 . obtain⟨y,hy,hc⟩:=kU hok hk;exact⟨y,by rw[qp7 (Ne.symm hki)];exact hy,hc⟩
theorem Yi {s:Str}(hs:yW s=true){l:List Rg}(hl:l.length<=128)(hr:∀ r∈l,qeZ r):∀ x∈pre (jA s l),(x.op=2->x.name=s)/\x.op≠3/\x.op≠24:=by
 have key:∀ {h m:Nat} {e:Ex},EOk s h m e->∀ x∈pre e,(x.op=2->x.name=s)/\x.op≠3/\x.op≠24:=fun ho x hx=>by
  obtain⟨_,h3,h24,h2⟩:=ho.nodes x hx;exact⟨h2,h3,h24⟩
 unfold jA;split
 . intro x hx;rw[Qj]at hx;have:=qqy.1 hx;subst this;simp[jr,Ex.op]
 . rename_i h0;have hpos:=qql.2 h0;have h1:=EOk.ins hs (l:=l.take 16) (qql.1 (by rw[qqD];omega)) (by rw[qqD];omega) (fun r h=>hr r (qq0 h));exact key (EOk.chain hs (zZ 16 l.length (l.drop 16)) (h:=0) h1 (fun c hc=>by
    obtain⟨a,b,c'⟩:=Zh (by omega) _ _ c hc;exact⟨a,b,fun r h=>hr r (qru (c' r h))⟩))
theorem qch {s:Str}(hs:yW s=true){l:List Rg}(hl:l.length<=128)(hr:∀ r∈l,qeZ r)(x:Ex)(hx:x∈pre (jA s l))(h2:x.op=2):x.name=s:=(Yi hs hl hr x hx).1 h2
theorem K9 {s n:Str}(hs:yW s=true)(hne:s≠n){l:List Rg}(hl:l.length<=128)(hr:∀ r∈l,qeZ r):vu n (jA s l):=fun x hx=>by
 obtain⟨h1,h2,h3⟩:=Yi hs hl hr x hx;exact⟨fun h=>by rw[h1 h];exact hne,h2,h3⟩
theorem qeK {vs:List Var}{e:Ex}(h:zg vs e=0):∀ x∈pre e,x.op≠3/\x.op≠24:=by
 unfold zg at h;split at h
 . exact absurd h (by assumption)
 . split at h
   . cases h
   . rename_i h1 h2;intro x hx;have:ZE e=false:=by cases hA:ZE e with | false=>rfl | true=>exact absurd hA h2
     unfold ZE at this;have:=qrf.1 this x hx;simp at this;exact this
structure FreeV (p:Problem)(i:Nat)(v:Var):Prop where
 hi:p.vars[i]?=some v
 m:v.mode=2
 hard:∀ e∈p.hard,∀ x∈pre e,x.op=2->x.name≠v.name
 dist:∀ d∈p.dists,d.var≠i
theorem qef {α:Type}:∀ {l:List α} {i k:Nat} {x:α},l.Nodup->l[k]?=some x->l[i]?=some x->k=i
 | [],_,_,_,_,h,_=>by simp at h
 | y::l,0,0,_,_,_,_=>rfl
 | y::l,i+1,0,x,hn,hk,hi=>by
  rw[qro]at hn;simp at hk hi;subst hk;exact absurd (qp6 hi) hn.1
 | y::l,0,k+1,x,hn,hk,hi=>by
  rw[qro]at hn;simp at hk hi;subst hi;exact absurd (qp6 hk) hn.1
 | y::l,i+1,k+1,x,hn,hk,hi=>by
  rw[qro]at hn;have:=qef hn.2 (i:=i) (k:=k) (x:=x) (by simpa using hk) (by simpa using hi);omega
theorem qeh {p:Problem}(hv:qi p=0){i k:Nat}{v w:Var}(hi:p.vars[i]?=some v)(hk:p.vars[k]?=some w)(hne:k≠i):w.name≠v.name:=fun e=>by
 have hn:=j7 hv;have h1:(p.vars.map (·.name))[i]?=some v.name:=by rw[qqp,hi];rfl
 have h2:(p.vars.map (·.name))[k]?=some v.name:=by rw[qqp,hk,<- e];rfl
 obtain⟨l1,e1⟩:=qp5.1 h1;obtain⟨l2,e2⟩:=qp5.1 h2;exact hne (qef hn h2 h1)
theorem qh4 {p q:Problem}{k:Nat}(hvp:qi p=0)(hmo:MoreH p q k){i:Nat}{v:Var}(hf:FreeV p i v)(hes:∀ e∈q.hard,e∈p.hard\/vu v.name e):∀ e∈zA q,vu v.name e:=by
 have hvq:=hmo.valid hvp;have hxp:∀ e∈p.hard,zg p.vars e=0:=by
  have:qR (zg p.vars) (p.hard++p.soft)=0:=by
   unfold qi at hvp;split at hvp
   . exact absurd hvp (by assumption)
   . split at hvp
     . rename_i h1;exact absurd hvp h1
     . rename_i h1;exact qqN.1 h1
  exact fun e he=>zf.1 this e (qqH _ he)
 have hdok:∀ d∈p.dists,∃ k:Nat,d.var=k/\k<p.vars.length:=fun d hd=>by
  have hds:ye p.vars p.dists=0:=by
   unfold qi at hvp;split at hvp
   . exact absurd hvp (by assumption)
   . split at hvp
     . rename_i h1;exact absurd hvp h1
     . split at hvp
       . rename_i h1;exact absurd hvp h1
       . rename_i h1;exact qqN.1 h1
  unfold ye at hds;obtain⟨j,hj⟩:=qqJ hd;have:=zf.1 hds j (qqT.2 (qp5.1 hj).1);unfold jE at this;rw[hj]at this;dsimp only at this;split at this
  . cases this
  . rename_i h1;have hr:yq p.vars d.var=true:=(by cases hR:yq p.vars d.var with | true=>rfl | false=>exact absurd hR h1);unfold yq at hr;simp only[qp9,decide_eq_true_eq]at hr;refine⟨d.var.toNat,by omega,?_⟩
    cases hg:p.vars[d.var.toNat]? with
    | none=>rw[hg]at hr;simp at hr
    | some w=>exact (qp5.1 hg).1
 intro e he;unfold zA at he;rcases qqo.1 he with he|he
 . rcases hes e he with h|h
   . exact fun x hx=>⟨fun h2=>hf.hard e h x hx h2,qeK (hxp e h) x hx⟩
   . exact h
 . have hs:jW q=wm q:=if_pos hvq;rw[hs]at he;unfold wm at he;rw[hmo.dists,hmo.vars]at he;obtain⟨d,hd,rfl⟩:=qqx.1 he;obtain⟨k,hk,hkl⟩:=hdok d hd;obtain⟨w,hw⟩:∃ w,p.vars[k]?=some w:=⟨_,qp8 hkl⟩;have hki:k≠i:=fun e=>hf.dist d hd (by rw[hk,e])
   have hve:=zE hvp w (qp6 hw);have h1:=qU hve;have h2:=Vb w d.weights;have h3:=JT h1.2.2;have h4:=YD (N:=(zi w:Nat)) h2.1 (fun x hx=>by have:=h2.2 x hx;omega) (by omega);have e1:Jp p.vars d=jA w.name (kh (qax w d.weights)):=by
    unfold Jp;have:d.var.toNat=k:=by omega
    rw[this,hw]
   rw[e1];exact K9 h1.1 (qeh hvp hf.hi hw hki) (by omega) h4.1
theorem qiG {p q:Problem}{k:Nat}(hvp:qi p=0)(hmo:MoreH p q k){i:Nat}{v:Var}(hf:FreeV p i v)(hes:∀ e∈q.hard,e∈p.hard\/vu v.name e)(hq:(qp q).2=0)(hn:Fits v.name)(u:List Int)(hne:yw v.width u≠[]) :
 (qp (Je q (Qy v u))).2=0:=by
 have hvm:=qp6 hf.hi;have hve:=zE hvp v hvm;have h1:=qU hve;have hmo2:=hmo.add (vN hve hn u) (yZ hvm hve u);have hvq:=hmo.valid hvp;have hv2:=hmo2.valid hvp;obtain⟨_,hs,_,_⟩:=Qf hq;have hfree:=qh4 hvp hmo hf hes;unfold jJ at hs;obtain⟨b,hb,hsat⟩:=qqr.1 hs;rw[hmo.vars]at hb hsat;obtain⟨w,hw⟩:=qsI _ hne;obtain⟨_,_,hr⟩:=Vj u (w:=v.width) (by omega) h1.2.2;have hwr:=hr w hw;have hsz:zi v=2 ^ v.width.toNat:=rfl;have hb':=qmH hb hf.hi (by rw[hf.m];decide) hwr.1 (by rw[hsz];exact hwr.2);have hlen:=(ky.1 hb).len;have hil:=(qp5.1 hf.hi).1;have hfv:∀ n,n≠v.name->zV (kE p.vars b) n=zV (kE p.vars (b.set i w)) n:=fun n hnn=>by
  unfold kE;rw[if_pos hlen,if_pos (by rw[qrC];exact hlen)];exact (qeF w n hf.hi hnn).symm
 have hmem:yr (kE p.vars (b.set i w)) (Qy v u)≠0:=by
  have hz:(b.set i w)[i]?=some w:=qqa (by omega);have hfind:zV (kE p.vars (b.set i w)) v.name=some w:=by
   rcases Kl hvp hb' hf.hi hz with ⟨h,_⟩|h
   . exact h
   . rw[hf.m]at h;cases h
  have hval:yo (kE p.vars (b.set i w)) (Qy v u)≠0:=(ZL _ _ _).2 (by rw[hfind];exact hw);have hex:=yZ hvm hve u;have hva:zk (Qy v u)=0:=by
   by_cases h0:zk (Qy v u)=0
   . exact h0
   . unfold zg at hex;rw[if_pos h0]at hex;exact absurd hex h0
  have hkn:yt (kE p.vars (b.set i w)) (Qy v u)=true:=by
   unfold yt;rw[qqi];intro x hx;have hp2:2 ^ v.width.toNat<=2 ^ 8:=qqu (by omega) (by omega);have hru:=Yx u (w:=v.width) (by omega) h1.2.2;have hnode:(x.op=2->x.name=v.name)/\x.op≠3/\x.op≠24:=by
    have harr:=qeK hex x hx;refine⟨fun h2=>?_,harr⟩;apply Classical.byContradiction;intro hnn;have:=(qch h1.1 (by omega) hru.1 x hx h2);exact hnn this
   unfold qjZ;by_cases h2:x.op=2
   . rw[if_pos h2,hnode.1 h2,hfind];rfl
   . rw[if_neg h2,if_neg (by rintro (h | h);exact hnode.2.1 h;exact hnode.2.2 h)]
  unfold yr;rw[if_pos ⟨hva,hkn⟩];exact hval
 unfold qp;rw[if_pos hv2];have hsolv:jJ (Je q (Qy v u)).vars (zA (Je q (Qy v u)))=true:=by
  unfold jJ;have hvars:(Je q (Qy v u)).vars=p.vars:=hmo2.vars;rw[hvars];refine qqr.2 ⟨_,hb',?_⟩;unfold Qe;rw[qqi];intro e he;have hsup:jW (Je q (Qy v u))=jW q:=by
   unfold jW;rw[if_pos hv2,if_pos hvq];rfl
  unfold zA at he;rw[hsup]at he;have he':e∈zA q\/e=Qy v u:=by
   unfold zA;rcases qqo.1 he with he|he
   . have:e∈q.hard++[Qy v u]:=he;rcases qqo.1 this with he|he
     . exact .inl (qqH _ he)
     . exact .inr (qqy.1 he)
   . exact .inl (qq6 _ he)
  rcases he' with he|rfl
  . have h3:=of_decide_eq_true (qqi.1 hsat e he);exact decide_eq_true (by rw[<- qiH hfv (hfree e he)];exact h3)
  . exact decide_eq_true hmem
 rw[if_pos hsolv]
theorem qkF {q:Problem}(hv:qi q=0)(h:(qp q).2≠11):(qp q).2=0:=by
 unfold qp at h⊢;rw[if_pos hv]at h ⊢;split
 . rfl
 . rename_i h1;rw[if_neg h1]at h;exact absurd rfl h
theorem qgh {p q:Problem}{k:Nat}(hvp:qi p=0)(hmo:MoreH p q k){v:Var}(hm:v∈p.vars)(hf:Fits v.name)(u:List Int)(hq:(qp q).2=0):(qp (WS v u q).1).2=0:=by
 have hve:=zE hvp v hm;unfold WS;split
 . exact hq
 . split
   . exact hq
   . rename_i h;exact qkF ((hmo.add (vN hve hf u) (yZ hm hve u)).valid hvp) h
theorem WR {p:Problem}(hvp:qi p=0)(hf:∀ v∈p.vars,Fits v.name)(hr:(qp p).2=0):∀ (l:List (Var×List Int)),(∀ x∈l,x.1∈p.vars)->(qp (yz l p).1).2=0:=by
 intro l
 induction hn:l.length generalizing l with
 | zero=>
  have:l=[]:=qqj hn;subst this;exact fun _=>hr
 | succ k ih=>
  intro hl;obtain⟨d,x,rfl⟩:∃ d x,l=d++[x]:=⟨l.dropLast,l.getLast (by rintro rfl;simp at hn),(qqU _).symm⟩;rw[yn];have hd:∀ y∈d,y.1∈p.vars:=fun y hy=>hl y (by simp[hy])
  have hx:=hl x (by simp);exact qgh hvp (ZA (fun v hv=>zE hvp v hv) hf d hd) hx (hf _ hx) _ (ih d (by simpa using hn) hd)
theorem qib {v w:Var}(hv:jL v=0)(hne:v.name≠w.name)(u:List Int):vu w.name (Qy v u):=by
 have h1:=qU hv;have hp:2 ^ v.width.toNat<=2 ^ 8:=qqu (by omega) (by omega);have h2:=Yx u (w:=v.width) (by omega) h1.2.2;exact K9 h1.1 hne (by omega) h2.1
theorem qpG {p:Problem}(hvp:qi p=0){w:Var}:∀ (l:List (Var×List Int)),(∀ x∈l,x.1∈p.vars/\x.1.name≠w.name)->∀ e∈(yz l p).1.hard,e∈p.hard\/vu w.name e:=by
 intro l
 induction hn:l.length generalizing l with
 | zero=>
  have:l=[]:=qqj hn;subst this;exact fun _ e he=>.inl he
 | succ k ih=>
  intro hl;obtain⟨d,x,rfl⟩:∃ d x,l=d++[x]:=⟨l.dropLast,l.getLast (by rintro rfl;simp at hn),(qqU _).symm⟩;rw[yn];have ihd:=ih d (by simpa using hn) fun y hy=>hl y (by simp[hy])
  obtain⟨hx1,hx2⟩:=hl x (by simp);intro e he;unfold qc5 WS at he;dsimp only at he;split at he
  . exact ihd e he
  . split at he
    . exact ihd e he
    . have:e∈(yz d p).1.hard++[Qy x.1 x.2]:=he;rcases qqo.1 this with he|he
      . exact ihd e he
      . rw[qqy.1 he];exact .inr (qib (zE hvp _ hx1) hx2 _)
theorem qc4 (p:Problem)(l:List (Var×List Int)):∀ (m:List (Var×List Int)) (i:Nat),i<l.length->(yz (l++m) p).2[i]?=(yz l p).2[i]? := by
 intro m
 induction hn:m.length generalizing m with
 | zero=>
  have:m=[]:=qqj hn;subst this;intro i _;rw[qqP]
 | succ k ih=>
  obtain⟨d,x,rfl⟩:∃ d x,m=d++[x]:=⟨m.dropLast,m.getLast (by rintro rfl;simp at hn),(qqU _).symm⟩;intro i hi;rw[<- qqC,yn];unfold qc5;dsimp only;rw[qqe (by rw[yT];simp;omega)];exact ih d (by simpa using hn) i hi
theorem qi7 {p:Problem}(hvp:qi p=0)(hf:∀ v∈p.vars,Fits v.name)(hr:(qp p).2=0){i:Nat}{v:Var}(hfr:FreeV p i v){c:List (List Int)}(hc:c.length=p.vars.length){l:List Int}(hl:c[i]?=some l) :
 (yz (ji p.vars c) p).2[i]?=some (jU v l):=by
 have hPl:=Zi hc;have hpi:=Vk hfr.hi hl;have hPm:∀ x∈ji p.vars c,x.1∈p.vars:=fun x hx=>by
  obtain⟨y,hy,rfl⟩:=qqx.1 hx;exact (qs2 hy).1
 have hil:=(qp5.1 hpi).1;have hsplit:ji p.vars c=(ji p.vars c).take i++[(v,jU v l)]++(ji p.vars c).drop (i+1):=by
  have h1:(ji p.vars c).take (i+1)=(ji p.vars c).take i++[(v,jU v l)]:=by rw[qqE,hpi];rfl
  rw[<- h1,qqQ]
 have htl:((ji p.vars c).take i).length=i:=by rw[qqD];omega
 have htn:∀ x∈(ji p.vars c).take i,x.1∈p.vars/\x.1.name≠v.name:=fun x hx=>by
  obtain⟨k,hk⟩:=qqJ hx;have hki:k<i:=by have:=(qp5.1 hk).1;omega
  rw[qtp hki]at hk;refine⟨hPm x (qp6 hk),?_⟩;unfold ji at hk;rw[qqp]at hk;obtain⟨y,hy,rfl⟩:=qqc.1 hk;obtain⟨h1,_⟩:=qrc.1 hy;exact qeh hvp hfr.hi h1 (by omega)
 rw[hsplit,qc4 _ _ _ i (by simp[htl]),yn];unfold qc5;dsimp only;rw[qqd (by rw[yT,htl];exact qqf _),yT,htl,qrl];have hmo:=ZA (fun v hv=>zE hvp v hv) hf ((ji p.vars c).take i) fun x hx=>(htn x hx).1
 have hru:=WR hvp hf hr ((ji p.vars c).take i) fun x hx=>(htn x hx).1
 have hes:=qpG hvp ((ji p.vars c).take i) htn;have hvm:=qp6 hfr.hi;have hkl:(jU v l).length<2 ^ v.width.toNat:=by
  unfold jU zi;split
  . assumption
  . exact qrw _
 generalize (yz ((ji p.vars c).take i) p).1=q at *;show some (WS v (jU v l) q).2=_;congr 1;unfold WS;split
 . rfl
 . rename_i h0;have:=qiG hvp hmo hfr hes hru (hf _ hvm) (jU v l) (qdT hkl);rw[if_neg (by rw[this];decide)]
theorem qbw {p:Problem}{c:List (List Int)}{r:Rng}(hh:CycH p c)(hvp:qi p=0)(hf:ya p.vars c=true)(hr:(qp p).2=0){i:Nat}{v:Var}(hfr:FreeV p i v){l:List Int}(hl:c[i]?=some l) :
 ((yG p c r).2.2.2=0\/(yG p c r).2.2.2=3)/\((yG p c r).2.2.2=0->∃ z,(yG p c r).1[i]?=some z/\(yG p c r).2.1[i]?=some (jU v l++[z])/\0<=z/\z<(2 ^ v.width.toNat:Nat)/\z∉jU v l):=by
 have hcl:c.length=p.vars.length:=by
  unfold ya at hf;simp only[qp9,decide_eq_true_eq]at hf;exact hf.1
 have hkept:=qi7 hvp hh.vq.names hr hfr hcl hl;have hPm:∀ x∈ji p.vars c,x.1∈p.vars:=fun x hx=>by
  obtain⟨y,hy,rfl⟩:=qqx.1 hx;exact (qs2 hy).1
 have hru:=WR hvp hh.vq.names hr _ hPm;have hul:=yT p (ji p.vars c);rw[Zi hcl]at hul;have hse:=qhm (r:=r) hru;have hsol:yG p c r=(if (zd (yz (ji p.vars c) p).1 r).2.2≠0 then ([],[],(0,0),(zd (yz (ji p.vars c) p).1 r).2.2) else ((zd (yz (ji p.vars c) p).1 r).1,qfH p.vars (yz (ji p.vars c) p).2 (zd (yz (ji p.vars c) p).1 r).1,(zd (yz (ji p.vars c) p).1 r).2.1,0)):=by
  unfold yG;rw[if_neg (by simp[hvp]),if_neg (by simp[hf]),if_neg (by simp[hr])]
 have hfit:=qdM (p:=p) (c:=c) (r:=r) hh;by_cases he:(zd (yz (ji p.vars c) p).1 r).2.2=0
 . rw[if_neg (by simp[he])]at hsol;refine⟨.inl (by rw[hsol]),fun h0=>?_⟩;have hF:=hfit h0;obtain⟨hal,_⟩:=hF.len;have hil:=(qp5.1 hfr.hi).1;obtain⟨z,hz⟩:∃ z,(yG p c r).1[i]?=some z:=⟨_,qp8 (by omega)⟩;obtain⟨u,hu⟩:∃ u,(yG p c r).2.1[i]?=some u:=⟨_,qp8 (by have:=hF.dlen;omega)⟩;have hu2:=hu;have hz2:=hz;rw[hsol]at hu2 hz2;obtain⟨v',u',z',a1,a2,a3,a4⟩:=Vr _ _ _ i u hu2;rw[hfr.hi]at a1;rw[hkept]at a2;dsimp only at hz2;rw[hz2]at a3;cases a1;cases a2;cases a3;have e1:qjY v (jU v l) z=jU v l++[z]:=if_pos hfr.m;rw[e1]at a4;subst a4;refine⟨z,hz,hu,?_⟩;have hrng:0<=z/\z<(2 ^ v.width.toNat:Nat):=by
    rcases Kl hvp hF.all hfr.hi hz with ⟨_,h1,h2⟩|h1
    . exact⟨h1,h2⟩
    . rw[hfr.m]at h1;cases h1
   refine⟨hrng.1,hrng.2,fun hm=>?_⟩;have hkne:jU v l≠[]:=fun e=>by rw[e]at hm;cases hm
   have hkl:jU v l=l:=by
    unfold jU at hkne ⊢;split
    . rfl
    . rename_i hx;rw[if_neg hx]at hkne;exact absurd rfl hkne
   rcases hF.row i v l _ z hfr.hi hl hz hu with ⟨h1,_⟩|⟨_,h1⟩|⟨_,_,h1,h2⟩
   . exact h1 hfr.m
   . have:=congrArg List.length h1;simp at this;exact hkne this
   . rw[hkl]at hm;exact (YG.1 h2).2 hm
 . rw[if_pos he]at hsol;refine⟨?_,fun h0=>?_⟩
   . rw[hsol];rcases hse with h|h
     . exact absurd h he
     . exact .inr h
   . rw[hsol]at h0;exact absurd h0 he
theorem qhx (l:List Ex):∀ V,(Za V l).length<=V.length+l.length:=by
 induction l with
 | nil=>intro V;simp
 | cons x l ih=>
  intro V;have h:=ih (qb2 V x);have h2:(qb2 V x).length<=V.length+1:=by unfold qb2;split<;>simp
  simp only[Wi,qqm];omega
theorem qfA {s:Str}(l:List Ex):∀ V,s∈V->s∈Za V l:=by
 induction l with
 | nil=>intro V h;exact h
 | cons x l ih=>
  intro V h;refine ih _ ?_;unfold qb2;split
  . simp[h]
  . exact h
theorem qhw {x:Ex}(l:List Ex):∀ V,x∈l->x.op=2->x.name∈Za V l:=by
 induction l with
 | nil=>intro V h;cases h
 | cons y l ih=>
  intro V h ho;rcases qqv.1 h with rfl|h
  . refine qfA l _ ?_;unfold qb2;by_cases hv:V.any (· == x.name)=false
    . rw[if_pos ⟨ho,hv⟩];simp
    . rw[if_neg (fun h=>hv h.2)];have:V.any (· == x.name)=true:=by cases h:V.any (· == x.name) with | true=>rfl | false=>exact absurd h hv
      obtain⟨z,hz,e⟩:=qqr.1 this;rw[<- eq_of_beq e];exact hz
  . exact ih _ h ho
def YZ (e:Ex):List Str:=Za [] (pre e)
def JC (l:List Ex)(s:Str):Bool:=l.any fun e=>(YZ e).any (· == s)
theorem qli (e:Ex)(hwe:Wen e)(hh:hgt e<=1000)(hsz:(pre e).length<=200000000000)(U0:St):qg Tryz.prog GG 45 [.agg (qs e)] U0 (fun r U=>∃ tv,r=slS (YZ e) tv/\(tv=none->YZ e=[])):=by
 refine qg.vc qe Tryz.func45 rfl (by kernel_rfl) ?_;simp only[qd e];simp;rw[<- qd e];refine qg.imp (qcz e hwe hh hsz _) ?_;rintro r U ⟨b,V,A,tv,ta,rfl,hb,ht,rfl⟩;simp[hb];exact⟨tv,rfl,fun h=>by subst h;exact ht⟩
theorem qdq (l:List Ex)(s:Str)(hl:l.length<=1000000)(hw:∀ e∈l,Wen e/\hgt e<=1000/\(pre e).length<=200000000000):Pure Tryz.prog GG 25 [.sl 4 (l.map qs) .none,.str s] (.bool (JC l s)):=by
 refine Pure.vc qe Tryz.func25 rfl (by kernel_rfl) ?_;simp;refine qD.intro (fun n env U=>∃ i,i<=l.length/\n=l.length-i/\env 0=.sl 4 (l.map qs) .none/\env 1=.str s/\env 5=.int .i64 i/\JC l s=JC (l.drop i) s) l.length ⟨0,by simp⟩ ?_;rintro n env U ⟨i,hi,rfl,h0,h1,h5,hz⟩
 cases hv:l[i]? with
 | some e=>
  obtain⟨hc,hv'⟩:=qp5.1 hv;obtain⟨hwe,hh,hsz⟩:=hw e (qp6 hv);have hd:JC (l.drop i) s=((YZ e).any (· == s)||JC (l.drop (i+1)) s):=by
   rw[zB hv];rfl
  rw[hd]at hz;have hlen:(YZ e).length<=200000000000:=by have:=qhx (pre e) [];simp at this;unfold YZ;omega
  simp[h0,h1,h5,hc,hv',qd e];rw[<- qd e];refine qg.imp (qli e hwe hh hsz _) ?_;rintro r U' ⟨tv,rfl,ht⟩;obtain⟨N,hN⟩:∃ N,N=YZ e:=⟨_,rfl⟩;rw[<- hN]at hz hlen ht ⊢
  cases tv with
  | none=>
   have:=ht rfl;subst this;simp[slS];refine qD.intro (fun n env U=>env 0=.sl 4 (l.map qs) .none/\env 1=.str s/\env 5=.int .i64 i/\env 6=.sl 0 [] .nil/\env 7=.int .i64 0) 0 ⟨by simp[h0],by simp[h1],by simp[h5],by simp,by simp⟩ ?_;rintro n env U ⟨h0,h1,h5,h6,h7⟩;simp[h0,h1,h5,h6,h7];refine⟨_,by omega,i+1,by omega,rfl,wr (by omega) (by omega),?_⟩;rw[hz];rfl
  | some t=>
   simp[slS];refine qD.intro (fun n env U=>∃ k,k<=N.length/\n=N.length-k/\env 0=.sl 4 (l.map qs) .none/\env 1=.str s/\env 5=.int .i64 i/\env 6=.sl 1 (N.map ja) (.chain t N.length)/\env 7=.int .i64 k/\N.any (· == s)=(N.drop k).any (· == s)) N.length ⟨0,by simp[h0,h1,h5]⟩ ?_;rintro n env U ⟨k,hk,rfl,h0,h1,h5,h6,h7,hy⟩
   cases hu:N[k]? with
   | some u=>
    obtain⟨hc2,hu'⟩:=qp5.1 hu;rw[zB hu]at hy;by_cases he:u=s
    . subst he;have:N.any (· == u)=true:=by rw[hy];simp
      rw[this]at hz;simp[h0,h1,h5,h6,h7,hc2,hu',hz]
    . have he':(u==s)=false:=(by simpa using he);simp[h0,h1,h5,h6,h7,hc2,hu',he];refine⟨_,by omega,k+1,by omega,rfl,wr (by omega) (by omega),?_⟩;rw[hy,qse,he',qst]
   | none=>
    have hc2:¬ k<N.length:=(by simp at hu;omega);have hd2:N.drop k=[]:=(by simp;omega);rw[hd2]at hy;have hy2:N.any (· == s)=false:=hy;rw[hy2]at hz;simp[h0,h1,h5,h6,h7,hc2];refine⟨_,by omega,i+1,by omega,rfl,wr (by omega) (by omega),?_⟩;rw[hz];rfl
 | none=>
  have hc:¬ i<l.length:=by simp at hv;omega
  have hd:l.drop i=[]:=by simp;omega
  rw[hd]at hz;have hz':JC l s=false:=hz;rw[hz'];simp[h0,h1,h5,hc]
noncomputable def qkp (p:Problem)(R:List Ex)(fx:Nat->Option Nat)(a:List Int)(gi:Nat):Nat:=qcm p R fx ((NG p).getD gi []) (((NG p).take gi).flatten.map fun i=>(i,aN a i))
noncomputable def qci (p:Problem)(R:List Ex)(gi:Int)(a:List Int):Int×Int :=
 if gi<0\/((NG p).length:Int)<=gi\/zD p.vars a=false then (0,1)
 else if qkp p R (fun _=>none) a gi.toNat=0 then (0,11) else if qkp p R (fun _=>none) a gi.toNat=lim then (0,3) else (qkp p R (fun _=>none) a gi.toNat,0)
noncomputable def chPR (p:Problem)(R:List Ex)(a:List Int)(gi:Nat):List Nat->(Nat->Option Nat)->Int->List Int->List Int
 | [],_,_,out=>out
 | i::r,fx,idx,out=>
  let q:=j9 (fun x=>qkp p R (yF fx i x) a gi) (2 ^ wdN p i) 0 idx
  chPR p R a gi r (yF fx i q.1) q.2 (out.set i q.1)
noncomputable def qeP (p:Problem)(R:List Ex)(gi:Nat)(a:List Int)(idx:Int):List Int:=chPR p R a gi (yp ((NG p).getD gi [])) (fun _=>none) idx a
noncomputable def qlO (p:Problem)(R:List Ex):List Nat->List Int->Rng->List Int×Rng×Int
 | [],a,r=>(a,r,0)
 | gi::rest,a,r=>
  if (qci p R gi a).2≠0 then ([],(0,0),(qci p R gi a).2)
  else if (jI (qci p R gi a).1 r).2.2≠0 then ([],(0,0),(jI (qci p R gi a).1 r).2.2)
  else qlO p R rest (qeP p R gi a (jI (qci p R gi a).1 r).1) (jI (qci p R gi a).1 r).2.1
noncomputable def qhn (p:Problem)(R:List Ex×Int)(r:Rng):List Int×Rng×Int:=if R.2≠0 then ([],(0,0),R.2) else qlO p R.1 (List.range (NG p).length) (qP p.vars) r
theorem chP_R (p:Problem)(a:List Int)(gi:Nat):∀ (l:List Nat) (fx:Nat->Option Nat) (idx:Int) (out:List Int),chP p a gi l fx idx out=chPR p (qp p).1 a gi l fx idx out
 | [],_,_,_=>rfl
 | i::r,fx,idx,out=>by
  unfold chP chPR;exact chP_R p a gi r _ _ _
theorem totP_R (p:Problem)(gi:Int)(a:List Int):ZI p gi a=qci p (qp p).1 gi a:=rfl
theorem qjj (p:Problem)(gi:Nat)(a:List Int)(idx:Int):jV p gi a idx=qeP p (qp p).1 gi a idx:=chP_R _ _ _ _ _ _ _
theorem qnn (p:Problem):∀ (l:List Nat) (a:List Int) (r:Rng),qbp p l a r=qlO p (qp p).1 l a r
 | [],_,_=>rfl
 | gi::rest,a,r=>by
  unfold qbp qlO;rw[totP_R,qjj,qnn p rest]
theorem qdK {p:Problem}{R:List Ex×Int}(h:qp p=R)(r:Rng):zd p r=qhn p R r:=by
 subst h;unfold zd qhn;rw[qnn]
theorem Wm {p:Problem}(hv:qi p=0)(hs:p.soft=[])(hd:p.dists=[])(h:jJ p.vars p.hard=true):qp p=(p.hard,0):=by
 have hn:zA p=p.hard:=by
  unfold zA jW wm;rw[if_pos hv,hd];simp
 have hns:qcG p=p.hard:=by
  unfold qcG wm;rw[hd];simp
 unfold qp;rw[if_pos hv,hn,if_pos h];unfold qhy ZT;rw[hns,hs];simp[JK,wh]
def p1:Problem:={ vars:=[⟨[97],1,2,0⟩],hard:=[],soft:=[],dists:=[],groups:=[[0]] }
theorem kK:qi p1=0:=by
 have hn:zY [97]=true:=by kernel_rfl
 have he:yS [97]=none:=Vu (by decide);have hv:yW [97]=true:=by unfold yW;rw[hn];rfl
 have hE:jL ⟨[97],1,2,0⟩=0:=by
  unfold jL;rw[hv];simp
 have hg:jT p1.vars p1.groups:=by
  refine⟨by simp[p1],by simp[p1,yq],by simp[p1],fun i hi _=>?_⟩;simp[p1]at hi ⊢;exact hi
 unfold qi;have h1:z8 p1.vars=0:=by
  unfold z8;simp[p1,qR,hE,qny,vY,vC,Jv,he,yg]
 rw[h1];unfold zG;rw[if_pos hg];simp[p1,qR,ye]
theorem Ve:qp p1=([],0):=Wm kK rfl rfl (by kernel_rfl)
theorem qkw:zd p1 (1,0)=([1],(1,1),0):=by
 rw[qdK Ve]
 kernel_rfl
def v1:Var:=⟨[97],1,2,0⟩
theorem v1_ok:jL v1=0:=zE kK v1 (by simp[p1,v1])
theorem sol_1:yG p1 [[]] (1,0)=([1],[[1]],(1,1),0):=by
 have hst:yz (ji p1.vars [[]]) p1=(p1,[[]]):=by
  show qc5 (p1,[]) (v1,[])=_;unfold qc5 WS;rw[if_pos (.inr rfl)];rfl
 unfold yG;rw[kK,Ve,hst,qkw];have hf:ya p1.vars [[]]=true:=by kernel_rfl
 rw[hf];rfl
theorem sol_2:yG p1 [[1]] (1,1)=([0],[[1,0]],(1,2),0):=by
 have hm:MoreH p1 (Je p1 (Qy v1 [1])) 1:=(MoreH.refl p1).add (vN v1_ok (by simp[v1,Fits]) [1]) (yZ (by simp[p1,v1]) v1_ok [1]);have hr:qp (Je p1 (Qy v1 [1]))=([Qy v1 [1]],0):=Wm (hm.valid kK) rfl rfl (by kernel_rfl);have hst:yz (ji p1.vars [[1]]) p1=(Je p1 (Qy v1 [1]),[[1]]):=by
  show qc5 (p1,[]) (v1,[1])=_;unfold qc5 WS;dsimp only;rw[if_neg (by simp[v1]),hr];rfl
 have hs:zd (Je p1 (Qy v1 [1])) (1,1)=([0],(1,2),0):=by
  rw[qdK hr]
  kernel_rfl
 unfold yG;rw[kK,Ve,hst,hs];have hf:ya p1.vars [[1]]=true:=by kernel_rfl
 rw[hf];rfl
theorem one53:Pure Tryz.prog GG 24 [.int .i64 1] (.agg (qJ p1)):=by
 refine Pure.kO o0 false qe Tryz.func24 rfl (by kernel_rfl) ?_;simp[-getElem?_pos,qV,zu,qv,qk,qA];simp[p1,j6,zm,Leq,qo,zc,qy,AV.atom]
def qoB:List (Nat×Sch×List Nat):=[(2,.step 0 [15,14,13,12,9,8,7,6,5,4] (.step 1 [15,14,13,12,9,8,7,6,5,4,2] (.step 2 [15,14,13,12,9,8,7,6,5,4] (.step 3 [15,14,13,12,9,8,7,6,5,4] (.step 4 [15,14,13,12,9,8,7,6,5] (.step 5 [15,14,13,12,9,8,7,6] (.step 6 [15,14,13,12] (.step 7 [15,14,13] (.step 8 [15,14] (.step 9 [15] (.fork (.cons 10 (.step 11 [15,14,13,12] (.step 12 [15,14,13] (.step 13 [15,14] (.step 14 [15] (.step 15 [] (.done)))))) (.cons 11 (.step 10 [15,14,13,12] (.step 12 [15,14,13] (.step 13 [15,14] (.step 14 [15] (.step 15 [] (.done)))))) (.nil))))))))))))),[])]
theorem awakeG:Pure Tryz.prog GG 8 [] (.bool true):=by
 refine Pure.kO ⟨false,qoB,[],[]⟩ false qe Tryz.func8 rfl (by kernel_rfl) ?_;have hvq:VQ p1:=by
  refine⟨by simp[p1],by simp[p1,Fits],by simp[p1],by simp[p1],by simp[p1],by simp[p1,Fits],by simp[p1],by simp[p1,Fits],by simp[p1,Fits]⟩
 have hcy:∀ c:List (List Int),c.length<=100->(∀ l∈c,l.length<=100)->CycH p1 c:=fun c h1 h2=>
  ⟨hvq,by simp[p1],by simp[p1],fun _=>by simp[p1,NG],by unfold qz;rw[if_neg (by simp[kK])];decide,by simp[p1],by simp[p1],by simp[p1],by omega,fun l hl=>by have:=h2 l hl;omega,fun _ v hv _=>by simp[p1]at hv;subst hv;decide⟩
 have hst:=qhk p1 (by simp[p1]);have s1:=qc6 p1 [[]] (hcy _ (by simp) (by simp)) (1,0);have s2:=qc6 p1 [[1]] (hcy _ (by simp) (by simp)) (1,1);rw[sol_1]at s1;rw[sol_2]at s2;have hl:=left24 p1 [[1]] 0 hvq ⟨by simp[Fits],by simp[Fits]⟩;have hva:=qgZ p1 [[1,0]] hvq ⟨by simp[Fits],by simp[Fits]⟩;have hf1:ya p1.vars [[1]]=true:=by kernel_rfl
 have hf2:ya p1.vars [[1,0]]=true:=by kernel_rfl
 have el:ZS p1 [[1]] 0=[0]:=by
  unfold ZS Q4;rw[kK,hf1];rfl
 have ev:Q4 p1 [[1,0]]=true:=by
  unfold Q4;rw[kK,hf2];rfl
 rw[el]at hl;rw[ev]at hva;simp[-getElem?_pos];refine qc.call one53 (by simp) ?_;have e1:qJ p1=[.sl 4 [[.str [97],.int .i64 1,.int .i64 2,.int .i64 0]] .none,.sl 4 [] .none,.sl 4 [] .none,.sl 2 [] .none,.sl 1 [[.sl 1 [[.int .i64 0]] .none]] .none]:=rfl;rw[e1]at hst s1 s2 hl hva ⊢;simp[-getElem?_pos];have hre:ql6 (List.replicate p1.vars.length [])=jZ [[]]:=rfl;rw[hre]at hst;simp only[solV,jZ,yh,zc,qy,qqk,qqF]at hst s1 s2 hl hva;have w01:IntKind.i64.wrap 1=1:=wr (by omega) (by omega);rw[qG rfl];simp[-getElem?_pos,qM];refine qc.call hst (by simp) ?_;simp[-getElem?_pos,qM,qV,zu,qv];refine qc.call s1 (by simp) ?_;simp[-getElem?_pos,qM]
 repeat' with_reducible refine And.intro ?_ ?_
 all_goals
  refine qc.call s2 (by simp) ?_;simp[-getElem?_pos];refine qc.call hl (by simp) ?_;simp[-getElem?_pos];rw[QP (by rfl)];simp[-getElem?_pos,w01];refine qc.call hva (by simp) ?_;simp[-getElem?_pos,w01]
theorem qpI {p:Problem}{c:List (List Int)}(h:VM p)(hsm:kN p=true)(hc:c.length<=6)(hcl:∀ l∈c,l.length<=40):CycH p c:=by
 simp only[kN,qp9,decide_eq_true_eq,qqi]at hsm;obtain⟨⟨⟨⟨⟨⟨hvl,hdl⟩,hgl⟩,he1⟩,he2⟩,hwl⟩,hbl⟩:=hsm;have hb7:qi p=0->yB p.vars (qz p)<=7:=fun hvp=>by simpa[hvp] using hbl
 have hb18:yB p.vars (qz p)<=18:=by
  by_cases hvp:qi p=0
  . have:=hb7 hvp;omega
  . unfold qz;rw[if_pos hvp];simp[yB]
 refine⟨h.q hvl he1 he2,by have:=(wX he1).1;omega,by omega,fun hvp=>qq9 (qe0 hvp) (by omega),hb18,by omega,by have:=(wX he2).1;omega,fun d hd=>by have:=hwl d hd;omega,by omega,fun l hl=>by have:=hcl l hl;omega,fun hvp v hv hm=>?_⟩;have h7:=hb7 hvp;rw[(V7 hvp (by omega)).1]at h7;have hs:∀ (l:List Nat) (x:Nat),x∈l->x<=l.sum:=by
  intro l
  induction l with
  | nil=>intro x hx;cases hx
  | cons y l ih=>
   intro x hx;rw[qss];rcases qqv.1 hx with rfl|hx
   . omega
   . have:=ih x hx;omega
 have:=hs _ _ (qqx.2 ⟨v,hv,rfl⟩:qgD v∈p.vars.map qgD);have hve:=qU (zE hvp v hv);have hbw:qgD v=v.width.toNat:=by unfold qgD;rw[if_neg (by omega)]
 rw[hbw]at this;omega
def qa9 (p:Problem)(i:Nat)(v:Var):Bool:=(p.dists.any fun d=>d.var==i)||JC p.hard v.name||JC p.soft v.name
theorem ment30 (p:Problem)(h:VQ p)(hd:p.dists.length<=10000)(i:Nat)(v:Var)(hv:p.vars[i]?=some v):Pure Tryz.prog GG 9 [.agg (qJ p),.int .i64 i] (.bool (qa9 p i v)):=by
 refine Pure.k qe Tryz.func9 rfl (by kernel_rfl) ?_;have hil:=(qp5.1 hv).1;have w1:=qdq p.hard v.name (by have:=h.hard;omega) (fun e he=>by have:=h.exprs e (qqH _ he);exact⟨this.1,this.2.1,by omega⟩);have w2:=qdq p.soft v.name (by have:=h.soft;omega) (fun e he=>by have:=h.exprs e (qq6 _ he);exact⟨this.1,this.2.1,by omega⟩);obtain⟨r,hr⟩:∃ r,r=qa9 p i v:=⟨_,rfl⟩;rw[<- hr];have hvl:p.vars.length<=1000:=h.vars;simp[-getElem?_pos];refine qL.list p.dists (fun d env U=>env 1=.int .i64 i/\env 2=.ptr 0 0/\env 5=.int .i64 d.length/\U=⟨[.cells (qJ p)],[]⟩/\(d.any fun d=>d.var==i)=false) ?_ ?_ ?_
 . simp
 . rintro d x s env U hds hx hlt ⟨f1,f2,f3,rfl,hall⟩;have hw1:=wr (n:=(d.length:Int)+1) (by omega) (by omega);by_cases hwx:x.var=i
   . have hr0:r=true:=by
      rw[hr];unfold qa9;have:(p.dists.any fun d=>d.var==i)=true:=qqr.2 ⟨x,qp6 hx,by simpa using hwx⟩;rw[this];rfl
     simp[-getElem?_pos,f1,f2,f3,hlt,hx,hwx,hr0]
   . simp[-getElem?_pos,f1,f2,f3,hlt,hx,hw1,hwx];simpa using hall
 . rintro env U ⟨f1,f2,f3,rfl,hall⟩;have hrs:r=(JC p.hard v.name||JC p.soft v.name):=(by rw[hr];unfold qa9;rw[hall];rfl);simp[-getElem?_pos,f1,f2,f3,hv,hil,qo];refine qc.call (G:=jh GG) w1 (by simp) ?_;cases hb:JC p.hard v.name
   case true=>
    simp[-getElem?_pos,hrs,hb]
   simp[-getElem?_pos,f1,f2,f3,hv,hil,qo];refine qc.call (G:=jh GG) w2 (by simp) ?_;simp[-getElem?_pos,hrs,hb]
theorem qfS {p:Problem}{i:Nat}{v:Var}(hv:p.vars[i]?=some v)(hm:v.mode=2)(h:qa9 p i v=false):FreeV p i v:=by
 unfold qa9 at h;simp only[qs3]at h;obtain⟨⟨h1,h2⟩,h3⟩:=h;refine⟨hv,hm,fun e he x hx ho hn=>?_,fun d hd he=>?_⟩
 . have:JC p.hard v.name=true:=qqr.2 ⟨e,he,qqr.2 ⟨x.name,qhw _ _ hx ho,by simp[hn]⟩⟩;rw[h2]at this;cases this
 . have:(p.dists.any fun d=>d.var==i)=true:=qqr.2 ⟨d,hd,by simpa using he⟩;rw[h1]at this;cases this
theorem qf9 (p:Problem):ya p.vars (List.replicate p.vars.length [])=true:=by
 rw[wV (by simp)];intro k v l hv hl;rw[qsr]at hl;split at hl
 . cases hl;simp[okV,okL]
 . cases hl
structure AllI (p:Problem)(iv:Nat)(v:Var)(n i:Nat)(c:List (List Int))(L:List Int):Prop where
 fits:ya p.vars c=true
 cll:∀ l∈c,l.length<=i
 row:∃ l,c[iv]?=some l/\jU v l=L
 len:L.length=i % n
 rules:i≠0->(qp p).2=0
theorem AllI.start {p:Problem}{iv:Nat}{v:Var}(hv:p.vars[iv]?=some v):AllI p iv v (zi v) 0 (List.replicate p.vars.length []) []:=by
 refine⟨qf9 p,fun l hl=>?_,⟨[],?_,by unfold jU;split<;>rfl⟩,by simp,fun h=>absurd rfl h⟩
 . rw[qr0 hl];simp
 . have:=(qp5.1 hv).1;rw[qsr,if_pos this]
theorem AllI.clen {p:Problem}{iv:Nat}{v:Var}{n i:Nat}{c:List (List Int)}{L:List Int}(h:AllI p iv v n i c L):c.length=p.vars.length:=by
 have hf:=h.fits;unfold ya at hf;simp only[qp9,decide_eq_true_eq]at hf;exact hf.1
theorem AllI.cyc {p:Problem}{iv:Nat}{v:Var}{n i:Nat}{c c0:List (List Int)}{L:List Int}(h:AllI p iv v n i c L)(hb:CycH p c0)(hi:i<=100000):CycH p c:=by
 refine⟨hb.vq,hb.hard,hb.vars,hb.flat,hb.bits,hb.dists,hb.soft,hb.wts,?_,fun l hl=>qq9 (h.cll l hl) hi,hb.w7⟩;have:=hb.vars;rw[h.clen];omega
theorem qfw {p:Problem}{c:List (List Int)}{r:Rng}(h:(yG p c r).2.2.2=0):(qp p).2=0:=by
 unfold yG at h;split at h
 . exact absurd h (by assumption)
 split at h
 . exact absurd h (by decide)
 split at h
 . exact absurd h (by assumption)
 . rename_i h3;simpa using h3
theorem AllI.err {p:Problem}{iv:Nat}{v:Var}{n i:Nat}{c c0:List (List Int)}{L:List Int}(h:AllI p iv v n i c L)(hb:CycH p c0)(hi:i<=100000)(hvp:qi p=0)(hfr:FreeV p iv v)(r:Rng)(h0:i≠0):(yG p c r).2.2.2=0\/(yG p c r).2.2.2=3:=by
 obtain⟨l,hl,_⟩:=h.row;exact (qbw (h.cyc hb hi) hvp h.fits (h.rules h0) hfr hl).1
theorem AllI.step {p:Problem}{iv:Nat}{v:Var}{i:Nat}{c c0:List (List Int)}{L:List Int}(h:AllI p iv v (zi v) i c L)(hb:CycH p c0)(hi:i<=100000)(hvp:qi p=0)(hfr:FreeV p iv v)(r:Rng)(he:(yG p c r).2.2.2=0) :
 (yG p c r).1.length=p.vars.length/\∃ z L',(yG p c r).1[iv]?=some z/\0<=z/\z<(zi v:Nat)/\z∉L/\AllI p iv v (zi v) (i+1) (yG p c r).2.1 L'/\((i+1) % zi v≠0->L'=L++[z]):=by
 obtain⟨l,hl,hk⟩:=h.row;have hcy:=h.cyc hb hi;have hr:=qfw he;obtain⟨z,hz,hd,z0,z1,z2⟩:=(qbw hcy hvp h.fits hr hfr hl).2 he;have hF:=qdM (r:=r) hcy he;have hn:0<zi v:=qrw _;have hlen:=h.len;have hlt:i % zi v<zi v:=qsZ _ hn;have hi1:(i+1) % zi v=if i % zi v+1<zi v then i % zi v+1 else 0:=by
  split
  . rename_i hc;rw[Nat.add_mod];by_cases h1:zi v=1
    . omega
    . rw[qrJ (a:=1) (by omega),qrJ hc]
  . rename_i hc;have e:i % zi v+1=zi v:=(by omega);have:i+1=zi v*(i / zi v+1):=by
     have:=qtt i (zi v);rw[qsW,Nat.mul_one];omega
    rw[this,Nat.mul_mod_right]
 rw[hk]at hd z2;refine⟨hF.len.1,z,jU v (L++[z]),hz,z0,z1,z2,⟨hF.fit,fun u hu=>?_,⟨_,hd,rfl⟩,?_,fun _=>hr⟩,fun hne=>?_⟩
 . obtain⟨k,hk⟩:=qqJ hu;have hkl:=(qp5.1 hk).1;have hdl:=hF.dlen;have hal:=hF.len.1;have hcl:=h.clen;obtain⟨w,hw⟩:∃ w,p.vars[k]?=some w:=⟨_,qp8 (by omega)⟩;obtain⟨l2,hl2⟩:∃ l,c[k]?=some l:=⟨_,qp8 (by omega)⟩;obtain⟨y,hy⟩:∃ z,(yG p c r).1[k]?=some z:=⟨_,qp8 (by omega)⟩;have:=h.cll l2 (qp6 hl2);rcases hF.row k w l2 u y hw hl2 hy hk with ⟨_,rfl⟩|⟨_,rfl⟩|⟨_,_,rfl,_⟩<;>simp<;>omega
 . rw[hi1];unfold jU;simp only[qqb,qqm,qqK,hlen];split
   . simp[hlen]
   . simp
 . rw[hi1]at hne;unfold jU;rw[if_pos];simp only[qqb,qqm,qqK,hlen];split at hne
   . assumption
   . exact absurd rfl hne
def blN (n:Nat)(L:List Int):List AV:=(List.range n).map fun k:Nat=>AV.bool (decide ((k:Int)∈L))
theorem qpM (n:Nat):blN n []=List.replicate n (.bool false):=by
 unfold blN;simp
 induction n with
 | zero=>rfl
 | succ n ih=>rw[qrE,qqY,ih,qsk];rfl
@[simp]theorem blN_len (n:Nat)(L:List Int):(blN n L).length=n:=by simp[blN]
theorem blN_at {n:Nat}{L:List Int}{z:Int}(h0:0<=z)(h1:z<n)(hz:z∉L):(blN n L)[z.toNat]?=some (.bool false):=by
 unfold blN;rw[qqp,qso (by omega)];have:((z.toNat:Nat):Int)=z:=by omega
 simp[this,hz]
theorem qpL {n:Nat}{L:List Int}{z:Int}(h0:0<=z)(h1:z<n):(blN n L).set z.toNat (.bool true)=blN n (L++[z]):=by
 apply qqW;intro i;rw[qsi];unfold blN;split
 . rename_i h;subst h;have:((z.toNat:Nat):Int)=z:=by omega
   have h2:z.toNat<n:=(by omega);simp[this,h2]
 . rename_i h;rw[qqp,qqp]
   cases hr:(List.range n)[i]? with
   | none=>rfl
   | some k=>
    have hk:k=i:=by
     obtain⟨hl,e⟩:=qp5.1 hr;simpa using e.symm
    subst hk;have:(k:Int)≠z:=fun e=>h (by omega)
    simp[this]
theorem all5 (p:Problem)(r:Rng)(h:VM p):Pure Tryz.prog GG 3 [.agg (qJ p),.agg (yh r)] (.bool true):=by
 refine Pure.kO o0 true qe Tryz.func3 rfl (by kernel_rfl) ?_;have hs:=qoh p h;have ha:=awakeG;simp only[qJ]at hs;simp[-getElem?_pos,yh];refine qc.call (G:=jh GG) hs (by simp) ?_;cases hsm:kN p
 case false=>
  simp[-getElem?_pos,unA];refine qc.call (G:=jh GG) ha (by simp) ?_;simp[-getElem?_pos,yP]
 have hcy0:=qpI (c:=List.replicate p.vars.length []) h hsm (by
  simp only[kN,qp9,decide_eq_true_eq,qqi]at hsm;simp;omega) (fun l hl=>by rw[qr0 hl];simp)
 have hgl:p.groups.length<=5:=by
  simp only[kN,qp9,decide_eq_true_eq,qqi]at hsm;omega
 have hvl:p.vars.length<=20:=hcy0.vars;have h28:=W6 p hcy0.vq (h.flat hgl);have h29:=qju p hcy0.vq hvl (h.flat hgl);simp only[qJ]at h28 h29;simp[-getElem?_pos,unA];refine qc.call (G:=jh GG) h28 (by simp) ?_;by_cases hvp:qi p=0
 case neg=>
  simp[-getElem?_pos,hvp];refine qc.call (G:=jh GG) ha (by simp) ?_;simp[-getElem?_pos,yP]
 simp[-getElem?_pos,hvp];refine qc.call (G:=jh GG) h29 (by simp) ?_;by_cases hb5:5<yB p.vars (qz p)
 . have hb5':(5:Int)<(yB p.vars (qz p):Int):=(by omega);simp[-getElem?_pos,hb5,hb5'];refine qc.call (G:=jh GG) ha (by simp) ?_;simp[-getElem?_pos,yP]
 have hb5':¬ (5:Int)<(yB p.vars (qz p):Int):=by omega
 simp[-getElem?_pos,hb5,hb5'];have hm30:=fun (i:Nat) (v:Var) (hv:p.vars[i]?=some v)=>ment30 p hcy0.vq hcy0.dists i v hv
 simp only[qJ]at hm30;refine qL.list p.vars (fun d env U=>env 2=.ptr 0 0/\env 3=.ptr 1 0/\env 6=.int .i64 d.length/\U=⟨[.cells (qJ p),.cells (yh r)],[]⟩/\∃ x:Int,env 5=.int .i64 x/\(x = -1\/∃ (i:Nat) (v:Var),x=i/\p.vars[i]?=some v/\v.mode=2/\qa9 p i v=false)) ?_ ?_ ?_
 . simp[yh]
 . rintro d v s env U hds hv hlt ⟨f2,f3,f6,rfl,x,f5,hx⟩;have hw1:=wr (n:=(d.length:Int)+1) (by omega) (by omega);by_cases hm:v.mode=2
   case neg=>
    simp[-getElem?_pos,f2,f3,f5,f6,hlt,hv,hm,hw1,qo];simpa using hx
   simp[-getElem?_pos,f2,f3,f5,f6,hlt,hv,hm,hw1,qo];refine qc.call (G:=jh GG) (hm30 _ v hv) (by simp) ?_;cases hme:qa9 p d.length v
   case true=>
    simp[-getElem?_pos,f2,f3,f5,f6,hlt,hv,hm,hw1,qo,unA];simpa using hx
   simp[-getElem?_pos,f2,f3,f5,f6,hlt,hv,hm,hw1,qo,unA];exact⟨d.length,rfl,v,hv,hm,hme⟩
 rintro env U ⟨f2,f3,f6,rfl,x,f5,hx⟩;rcases hx with rfl|⟨iv,v,rfl,hv,hm,hme⟩
 . simp[-getElem?_pos,f2,f3,f5,f6];refine qc.call (G:=jh GG) ha (by simp) ?_;simp[-getElem?_pos,yP]
 have hfr:=qfS hv hm hme;have hil:=(qp5.1 hv).1;have hve:=qU (zE hvp v (qp6 hv));have hw7:=hcy0.w7 hvp v (qp6 hv) hm;have hsl:=kg (w:=v.width) (by omega) (by omega);have hsu:=shl_u (w:=v.width) (by omega) (by omega);have hst:=qhk p (by omega);simp only[qJ]at hst;have hnb:zi v<=2 ^ 7:=qqu (by omega) (by omega);have hn0:0<zi v:=qrw _;have hsz:(2 ^ v.width.toNat:Nat)=zi v:=rfl;rw[hsz]at hsl;have hinit:=AllI.start hv;have hstep:=fun (i:Nat) (c:List (List Int)) (L:List Int) (rr:Rng) (hA:AllI p iv v (zi v) i c L) (hi:i<=100000) (he:(yG p c rr).2.2.2=0)=>hA.step hcy0 hi hvp hfr rr he
 generalize zi v=n at *;have hn1:n≠0:=by omega
 have hnle:(n:Int)<=549755813888:=by omega
 have hneg:¬ (iv:Int)<0:=by omega
 have hwn:¬ v.width<0:=by omega
 have h2n:=wr (n:=2*(n:Int)) (by omega) (by omega);have hnz:¬ (n:Int)=0:=by omega
 have hnn:(0:Int)<=n:=by omega
 simp[-getElem?_pos,f2,f3,f5,f6,hv,hil,qo,hsl,hsu,hneg,hwn,IntKind.bits,yU];refine qc.call (G:=jh GG) hst (by simp) ?_;simp[-getElem?_pos,f2,f3,f5,f6,hv,hil,qw,hnz,hnn,hnle,hn1,yh];have hso:=fun (i:Nat) (c:List (List Int)) (L:List Int) (rr:Rng) (hA:AllI p iv v n i c L) (hi:i<=100000)=>qc6 p c (hA.cyc hcy0 hi) rr
 simp only[solV,qJ,jZ,yh]at hso;refine qL.gen (fun m ev U=>∃ i c rr L b H' S,m=2*n-i/\i<=2*n/\ev 2=.ptr 0 0/\ev 3=.ptr 1 0/\ev 5=.int .i64 iv/\ev 7=.int .i64 n/\ev 8=.ptr 2 0/\ev 9=.ms (b+3) 0 n 1/\ev 10=.int .i64 i/\U=⟨.cells (qJ p)::.cells (yh rr)::.cells (jZ c)::H',[]⟩/\H'[b]?=some (.cells S)/\S.length=n/\(i % n≠0->S=blN n L)/\AllI p iv v n i c L) (2*n) ?_ ?_
 . refine⟨0,List.replicate p.vars.length [],r,[],0,[.cells (List.replicate n (.bool false))],_,by omega,by omega,by simp[f2],by simp[f3],by simp[f5],by simp,by simp,by simp,by simp,?_,rfl,by simp,fun h=>by simp at h,hinit⟩;simp[qJ,yh,jZ,zc]
 clear f2 f3 f5 f6 hinit;rintro m ev U R hR ⟨i,c,rr,L,b,H,S,rfl,hi,e2,e3,e5,e7,e8,e9,e10,rfl,hS,hSl,hSL,hA⟩;by_cases hlt:i<2*n
 case neg=>
  have hlt':¬ (i:Int)<2*n:=by omega
  simp[-getElem?_pos,e7,e10,h2n,hlt'];refine qc.call (G:=jh GG) ha (by simp) ?_;simp[-getElem?_pos,yP]
 have hlt':(i:Int)<2*n:=by omega
 have hw:=wr (n:=(i:Int)+1) (by omega) (by omega);have hbl:=(qp5.1 hS).1;have hi5:i<=100000:=by omega
 have hs1:=hso i c L rr hA (by omega);simp[-getElem?_pos,e2,e3,e5,e7,e8,e9,e10,h2n,hlt',yh];refine qc.call (G:=jh GG) hs1 (by simp) ?_;by_cases he:(yG p c rr).2.2.2=0
 case neg=>
  simp[-getElem?_pos,he,e10,qV,zu,qv];by_cases hi0:i=0
  . simp[-getElem?_pos,hi0];refine qc.call (G:=jh GG) ha (by simp) ?_;simp[-getElem?_pos,yP]
  have h3:(yG p c rr).2.2.2=3:=by
   rcases hA.err hcy0 hi5 hvp hfr rr hi0 with h|h
   . exact absurd h he
   . exact h
  simp[-getElem?_pos,hi0,h3];refine qc.call (G:=jh GG) ha (by simp) ?_;simp[-getElem?_pos,yP]
 obtain⟨hal,z,L',hz,z0,zn,zL,hA',hLL⟩:=hstep i c L rr hA hi5 he;obtain⟨a,d,s,e,hq⟩:∃ a d s e,yG p c rr=(a,d,s,e):=⟨_,_,_,_,rfl⟩;rw[hq]at hal hz hA' he ⊢;dsimp only at hal hz hA' he;subst he;have hmod:((i:Int).tmod n)=((i % n:Nat):Int):=by rw[qsg (by omega)];rfl
 have hzat:(a.map qy)[iv]?=some [.int .i64 z]:=by rw[qqp,hz];rfl
 have hal':¬ (a.length:Int)<=iv:=by omega
 have hal2:iv<a.length:=by omega
 have z0':¬ z<0:=by omega
 have zn':¬ (n:Int)<=z:=by omega
 have hzl:z.toNat<n:=by omega
 have hLn:L.length=i % n:=hA.len;have hz1:z.toNat+1<=n:=by omega
 have hmin:min 1 (n-z.toNat)=1:=by omega
 have bl1:=blN_at z0 zn zL;have bl3:((blN n L).drop z.toNat).take 1=[.bool false]:=by
  have hlen:z.toNat<(blN n L).length:=by simp;omega
  rw[qqt hlen,qr3,qtG];rw[qp8 hlen]at bl1;rw[Option.some.inj bl1]
 have bl2:=qpL (L:=L) z0 zn;have fin:∀ ev' H'' b',ev' 2=.ptr 0 0->ev' 3=.ptr 1 0->ev' 5=.int .i64 iv->ev' 7=.int .i64 n->ev' 8=.ptr 2 0->ev' 9=.ms (b'+3) 0 n 1->ev' 10=.int .i64 ((i:Int)+1)->H''[b']?=some (.cells (blN n (L++[z])))->R ev' ⟨.cells (qJ p)::.cells (yh s)::.cells (jZ d)::H'',[]⟩:=fun ev' H'' b' a2 a3 a5 a7 a8 a9 a10 a11=>
  hR (2*n-(i+1)) _ _ (by omega) ⟨i+1,d,s,L',b',H'',_,rfl,by omega,a2,a3,a5,a7,a8,a9,by rw[a10];simp,rfl,a11,by simp,fun h=>by rw[hLL h],hA'⟩
 simp only[qJ,yh,jZ]at fin;by_cases h0:i % n=0
 . have hL0:L=[]:=qqj (by omega);subst hL0;rw[qpM]at bl1 bl2 bl3;simp[-getElem?_pos,e2,e3,e5,e7,e8,e9,e10,hz,hal',hal2,hmod,h0,hn1,hnz,hnn,hnle,qw,z0,zn,z0',zn',hzl,hz1,hmin,bl1,bl2,bl3,qV,zu,qv,hw];refine fin _ _ (H.length+2) (by simp[e2]) (by simp[e3]) (by simp[e5]) (by simp[e7]) (by simp[e8]) (by simp) (by simp) ?_;rw[qqd (by omega)];simp
 . have hSe:=hSL h0;subst hSe;have hS2:∀ X:List Blk,(H++X)[b]?=some (.cells (blN n L)):=fun X=>by rw[qqe hbl];exact hS
   have hset:∀ (X:List Blk) (y:Blk),(H++X).set b y=H.set b y++X:=fun X y=>by rw[qqz,if_pos hbl]
   have hg1:∀ (y x1 x2:Blk),(H.set b y++[x1,x2])[H.length]?=some x1:=fun y x1 x2=>by rw[qqd (by simp)];simp
   have hg2:∀ (y x1 x2:Blk),(H.set b y++[x1,x2])[H.length+1]?=some x2:=fun y x1 x2=>by rw[qqd (by simp)];simp
   have hml:¬ (i:Int) % n=0:=(by omega);simp[-getElem?_pos,e2,e3,e5,e7,e8,e9,e10,hz,hal',hal2,hmod,h0,hml,hn1,hnz,hS2,hset,hg1,hg2,z0,zn,z0',zn',hzl,hz1,hmin,bl1,bl2,bl3,qV,zu,qv,hw];refine fin _ _ b (by simp[e2]) (by simp[e3]) (by simp[e5]) (by simp[e7]) (by simp[e8]) (by simp[e9]) (by simp) ?_;rw[qqe (by simpa using hbl)];simp[hbl]
end Go.Proofs.YtoibbcnfhhggnaaGreatDoor
end
