/- A part of the proof. -/
import Derived.Test.YtoibbcnfhhggnaaGreatDoorPa33
import Derived.KernelRfl
set_option linter.unusedVariables false
set_option linter.unusedSimpArgs false
set_option maxRecDepth 100000
set_option linter.defProp false
section
namespace Go.Proofs.YtoibbcnfhhggnaaGreatDoor
open Go Go.Abs
theorem Jd.frz {B:Nat}{H:List Blk}{x:AV}{u:List Int}(h:Jd B H x u)(k:Nat):qF (Abs.frz H (k+1) x)=true/\AV.atom (Abs.frz H (k+1) x)=true/\Leq (Abs.frz H (k+1) x) (.sl 1 (u.map qo) .none):=by
 rcases h with ⟨rfl,rfl|rfl⟩|⟨h0,b,_,rfl,hb⟩
 . rw[qv (by simp)];simp[Leq,AV.atom]
 . rw[qv (by simp)];simp[Leq,AV.atom]
 . have ho:jt b 1 qo H (.ms b 0 u.length 1) u:=.inr ⟨h0,rfl,by rw[hb,kh]⟩;refine⟨ho.frzNo (fun _=>rfl) (fun _=>rfl) (fun _=>rfl) k,?_,ho.frz (fun _=>rfl) (fun _=>rfl) (fun _=>rfl) k⟩;have hn:=ho.frzNo (fun _=>rfl) (fun _=>rfl) (fun _=>rfl) k;have hl:=ho.frz (fun _=>rfl) (fun _=>rfl) (fun _=>rfl) k;generalize Abs.frz H (k+1) (.ms b 0 u.length 1)=y at *;cases y<;>first | rfl | (simp[qF]at hn;done) | (simp[Leq]at hl;done)
theorem histU (B:Nat)(H:List Blk)(k:Nat):∀ (ws:List AV) (d:List (List Int)),ws.length=d.length->(∀ (i:Nat) (u:List Int) (x:AV),d[i]?=some u->ws[i]?=some x->Jd B H x u)->jZ ((ws.map fun v=>[v]).map (·.map (Abs.frz H (k+1)))) (d.map qN)/\(((ws.map fun v=>[v]).map (·.map (Abs.frz H (k+1)))).all (·.all AV.atom))=true/\qT ((ws.map fun v=>[v]).map (·.map (Abs.frz H (k+1))))=true
 | [],[],_,_=>by simp
 | [],_::_,h,_=>by simp at h
 | _::_,[],h,_=>by simp at h
 | v::vs,l::c,h,hr=>by
  obtain⟨h1,h2,h3⟩:=histU B H k vs c (by simpa using h) (fun i u x hu hx=>hr (i+1) u x (by simpa using hu) (by simpa using hx));obtain⟨a1,a2,a3⟩:=(hr 0 l v rfl rfl).frz k;refine⟨?_,?_,?_⟩
  . simp only[qqx,qqQ,jZ];refine⟨.inr ⟨?_,by simp[AV.atom,qN]⟩,h1⟩;simp only[qN,zj,and_true];exact a3
  . simp only[qqx,qqQ,qrS,List.all_nil,a2,qr1,qrr];exact h2
  . simp only[qqx,qqQ,qT,qq,a1,qr1,qrr];exact h3
theorem qiE {B n:Nat}{ws:List AV}{d:List (List Int)}{H:List Blk}(hB:H[B]?=some (.cells ws))(hw:ws.length=n)(hd:d.length=n)(hr:∀ (i:Nat) (u:List Int) (x:AV),d[i]?=some u->ws[i]?=some x->Jd B H x u)(k:Nat) :
 qF (Abs.frz H (k+3) (.agg [.ms B 0 n 1]))=true/\Leq (Abs.frz H (k+3) (.agg [.ms B 0 n 1])) (.agg (zW d)):=by
 obtain⟨h1,h2,h3⟩:=histU B H k ws d (by omega) hr;have hch:kw 1 n (ws.drop 0)=ws.map fun v=>[v]:=by
  have:=Go.Abs.wA (sz:=1) (en:=fun v:AV=>[v]) (fun _=>rfl) ws [];rw[<- hw];simpa using this
 have e1:Abs.frz H (k+2) (.ms B 0 n 1)=.sl 1 ((ws.map fun v=>[v]).map (·.map (Abs.frz H (k+1)))) .none:=by
  rw[Abs.frz];simp only[qF,qqF,if_false,hB,hch];rw[if_pos ⟨by omega,h2⟩]
 have e2:Abs.frz H (k+3) (.agg [.ms B 0 n 1])=.agg [Abs.frz H (k+2) (.ms B 0 n 1)]:=by
  rw[Abs.frz,if_neg (by simp[qF])];rfl
 rw[e2,e1];refine⟨by simp only[qF,qq,h3];rfl,?_⟩;simp only[Leq,zj,zW,and_true];exact .inr ⟨trivial,h1,.inl trivial⟩
def solV (q:List Int×List (List Int)×Rng×Int):AV:=.tup [.sl 1 (q.1.map qo) .none,.agg (zW q.2.1),.agg (yi q.2.2.1),.int .i64 q.2.2.2]
theorem JS {H:List Blk}{n:Nat}{v w v' w':AV}{x:List AV}{z:Int}(hx:qq x=true)(h1:qF (Abs.frz H n v)=true/\Leq (Abs.frz H n v) v')(h2:qF (Abs.frz H n w)=true/\Leq (Abs.frz H n w) w') :
 qF (Abs.frz H (n+1) (.tup [v,w,.agg x,.int .i64 z]))=true/\Leq (Abs.frz H (n+1) (.tup [v,w,.agg x,.int .i64 z])) (.tup [v',w',.agg x,.int .i64 z]):=by
 have hxx:qF (.agg x)=true:=by simpa[qF] using hx
 by_cases hv:qF (.tup [v,w,.agg x,.int .i64 z])=true
 . rw[qv hv];have hv':=hv;simp only[qF,qq,qqq]at hv;rw[qv hv.1,qv hv.2.1]at *;exact⟨hv',by simp[Leq,zj,h1.2,h2.2,Leq.refl]⟩
 . have e:Abs.frz H (n+1) (.tup [v,w,.agg x,.int .i64 z])=.tup [Abs.frz H n v,Abs.frz H n w,.agg x,.int .i64 z]:=by
    rw[Abs.frz,if_neg hv];simp[qv hxx,wQ]
   rw[e];exact⟨by simp[qF,qq,h1.1,h2.1,hx],by simp[Leq,zj,h1.2,h2.2,Leq.refl]⟩
theorem qc6 (p:Problem)(c:List (List Int))(hh:CycH p c)(r:Rng):Pure Tryz.prog GG 11 [.agg (qL p),.agg (zW c),.agg (yi r)] (solV (vy p c r)):=by
 by_cases hz:p.vars=[]/\qk p=0/\yH p.vars c=true
 . obtain⟨h0,hvp,hf⟩:=hz;have hc:c=[]:=by
    unfold yH at hf;simp only[qqq,decide_eq_true_eq]at hf;rw[h0]at hf;exact qqA hf.1
   subst hc;refine Pure.ofA (qgf p hh.vq hvp h0 (hh.flat hvp) hh.bits hh.dists hh.soft hh.wts r .none [] []) ?_;have hst:wz (wJ p.vars []) p=(p,[]):=(by rw[h0];rfl);have hre:(qB p).2≠0->vy p [] r=([],[],(0,0),(zy p r).2.2):=fun h=>by
    unfold vy;rw[if_neg (by simp[hvp]),if_neg (by simp[hf]),if_pos h];have:zy p r=([],(0,0),(qB p).2):=if_pos h;rw[this]
   rintro v U' ⟨_,w,sz,tk,⟨he,rfl⟩|⟨he,rfl,b,hr⟩⟩
   . have hq:vy p [] r=([],[],(0,0),(zy p r).2.2):=by
      by_cases hr:(qB p).2=0
      . unfold vy;rw[if_neg (by simp[hvp]),if_neg (by simp[hf]),if_neg (by simp[hr]),hst,if_pos he]
      . exact hre hr
     rw[hq];refine JS (by simp) (by rw[qv (by simp)];simp[Leq]) ?_
     cases tk with
     | chain t k=>simp[Abs.frz,qF,qq,Leq,zj]
     | none=>rw[qv (by simp)];simp[Leq,zj]
     | nil=>rw[qv (by simp)];simp[Leq,zj]
     | tight=>rw[qv (by simp)];simp[Leq,zj]
   . have hr0:(qB p).2=0:=by
      apply Classical.byContradiction;intro h;have:zy p r=([],(0,0),(qB p).2):=if_pos h;rw[this]at he;exact h he
     have hq:vy p [] r=((zy p r).1,[],(zy p r).2.1,0):=by
      unfold vy;rw[if_neg (by simp[hvp]),if_neg (by simp[hf]),if_neg (by simp[hr0]),hst,if_neg (by simp[he])];rw[h0];rfl
     rw[hq];obtain⟨h1,h2,h3⟩:=hr.frz 6;refine JS (by simp[qF,qq,yi]) ⟨h1,h2⟩ ?_
     cases tk with
     | chain t k=>simp[Abs.frz,qF,qq,Leq,zj]
     | none=>rw[qv (by simp)];simp[Leq,zj]
     | nil=>rw[qv (by simp)];simp[Leq,zj]
     | tight=>rw[qv (by simp)];simp[Leq,zj]
 . refine Pure.ofA (qmr p c hh (fun h1 h2 h3=>hz ⟨h3,h1,h2⟩) r [] []) ?_;rintro v U' ⟨_,⟨he,rfl⟩|⟨he,w,b,B,ws,rfl,hr,hd,hB,hw,hu⟩⟩
   . have h1:vy p c r=([],[],(0,0),(vy p c r).2.2.2):=by
      unfold vy at he ⊢;split
      . rfl
      . split
        . rfl
        . split
          . rfl
          . split
            . rfl
            . rename_i a1 a2 a3 a4;rw[if_neg a1,if_neg a2,if_neg a3,if_neg a4]at he;exact absurd rfl he
     generalize (vy p c r).2.2.2=e at h1 he;rw[h1];exact JS (by simp) (by rw[qv (by simp)];simp[Leq]) (by rw[qv (by simp)];simp[Leq,zj])
   . have hq:vy p c r=((vy p c r).1,(vy p c r).2.1,(vy p c r).2.2.1,0):=(by rw[<- he]);obtain⟨h1,h2,h3⟩:=hr.frz 6;have hf:=qiE hB hw hd hu 4;unfold solV;rw[he];exact JS (by simp[qF,qq,yi]) ⟨h1,h2⟩ hf
noncomputable def jJ (p:Problem)(R:List Ex)(fx:Nat->Option Nat):List Nat->List (Nat×Nat)->Nat
 | [],c=>if okC p R c=true then 1 else 0
 | i::r,c=>w6 (fun v=>wtP p i v*jJ p R fx r (c++[(i,v)])) (kZ (jB p i) (fx i))
theorem qo9 {p:Problem}{R:List Ex}{c d:List (Nat×Nat)}(h:okC p R (c++d)=true):okC p R c=true:=by
 unfold okC at h⊢;obtain⟨a,ha,hs⟩:=qqN.1 h;rw[qqq,qrM,qqq]at hs;exact qqN.2 ⟨a,ha,by rw[qqq];exact⟨hs.1,hs.2.1⟩⟩
theorem KU {p:Problem}{R:List Ex}{fx:Nat->Option Nat}:∀ (g:List Nat) (c:List (Nat×Nat)),okC p R c≠true->jJ p R fx g c=0
 | [],c,h=>if_neg h
 | i::r,c,h=>by
  unfold jJ;refine Yg fun v _=>?_
  rw[KU r _ (fun h'=>h (qo9 h')),qt3]
theorem sat_wt (w t:Nat)(h:w<=lim):sat (w*sat t)=sat (w*t):=by
 have:=qoC w t;have e:sat w=w:=qsr h
 rwa[e]at this
theorem qeH {α:Type}(w t:α->Nat)(hw:∀ x,w x<=lim):∀ (l:List α) (s:Nat),l.foldl (fun s v=>sat (s+sat (w v*sat (t v)))) (sat s)=sat (s+w6 (fun v=>w v*t v) l)
 | [],s=>by simp[w6]
 | x::l,s=>by
  rw[qq7,sat_wt _ _ (hw x),qoD,qeH w t hw l];simp only[w6];rw[qss]
theorem qax {p:Problem}{R:List Ex}{fx:Nat->Option Nat}:∀ (g:List Nat) (c:List (Nat×Nat)),qcm p R fx g c=sat (jJ p R fx g c)
 | [],c=>by
  unfold qcm jJ;split<;>rfl
 | i::r,c=>by
  by_cases h:okC p R c=true
  . unfold qcm jJ;rw[if_pos h];have e:(fun s v=>sat (s+sat (wtP p i v*qcm p R fx r (c++[(i,v)]))))=(fun s v=>sat (s+sat (wtP p i v*sat (jJ p R fx r (c++[(i,v)]))))):=by
     funext s v;rw[qax r]
    rw[e];have:=qeH (fun v=>wtP p i v) (fun v=>jJ p R fx r (c++[(i,v)])) (fun v=>qgH p i v) (kZ (jB p i) (fx i)) 0;rw[qse]at this;exact this
  . rw[KU _ _ h];unfold qcm;rw[if_neg h];rfl
theorem qaw {α β:Type}(F:α->β->Nat):∀ (l:List α) (m:List β),w6 (fun v=>w6 (fun x=>F v x) m) l=w6 (fun x=>w6 (fun v=>F v x) l) m
 | [],m=>by simp only[w6];exact (Yg fun _ _=>rfl).symm
 | a::l,m=>by
  simp only[w6];rw[qaw F l m]
  induction m with
  | nil=>rfl
  | cons x m ih=>simp only[w6];omega
theorem Yd {p:Problem}{R:List Ex}{fx gx:Nat->Option Nat}:∀ (g:List Nat) (c:List (Nat×Nat)),(∀ i∈g,fx i=gx i)->jJ p R fx g c=jJ p R gx g c
 | [],_,_=>rfl
 | i::r,c,h=>by
  unfold jJ;rw[h i (by simp)];refine wc fun v _=>?_
  rw[Yd r _ fun k hk=>h k (by simp[hk])]
theorem WU {fx:Nat->Option Nat}{i k x:Nat}(h:k≠i):yE fx i x k=fx k:=if_neg h
theorem qg8 {fx:Nat->Option Nat}{i x:Nat}:yE fx i x i=some x:=if_pos rfl
theorem Yb {p:Problem}{R:List Ex}{fx:Nat->Option Nat}{i:Nat}(hf:fx i=none):∀ (g:List Nat) (c:List (Nat×Nat)),g.Nodup->i∈g->jJ p R fx g c=w6 (fun x=>jJ p R (yE fx i x) g c) (List.range (2 ^ jB p i))
 | j::r,c,hn,hi=>by
  rw[qrX]at hn;by_cases hj:j=i
  . subst hj;unfold jJ;rw[hf];show w6 _ (List.range _)=_;refine wc fun x _=>?_
    rw[qg8];show _=w6 _ [x];simp only[w6,qrx];rw[Yd r _ fun k hk=>(WU (fx:=fx) (x:=x) (i:=j) (by rintro rfl;exact hn.1 hk)).symm]
  . have hi':i∈r:=(qqM.1 hi).resolve_left (Ne.symm hj);unfold jJ;have e:∀ x,kZ (jB p j) (yE fx i x j)=kZ (jB p j) (fx j):=fun x=>by rw[WU hj]
    simp only[e];rw[<- qaw];refine wc fun v _=>?_
    rw[Yb hf r _ hn.2 hi',<- qdG]
noncomputable def qaO (p:Problem)(val:Nat->Nat):List Nat->Nat
 | []=>1
 | i::r=>wtP p i (val i)*qaO p val r
theorem Yc {p:Problem}{R:List Ex}{fx:Nat->Option Nat}{val:Nat->Nat}:∀ (g:List Nat) (c:List (Nat×Nat)),(∀ i∈g,fx i=some (val i))->jJ p R fx g c=qaO p val g*if okC p R (c++g.map fun i=>(i,val i))=true then 1 else 0
 | [],c,_=>by
  unfold jJ qaO;simp
 | i::r,c,h=>by
  unfold jJ qaO;rw[h i (by simp)];show w6 _ [val i]=_;simp only[w6,qrx];rw[Yc r _ fun k hk=>h k (by simp[hk])];rw[qqV,Nat.mul_assoc];rfl
theorem qaN {p:Problem}{val:Nat->Nat}:∀ {g:List Nat},0<qaO p val g->∀ i∈g,0<wtP p i (val i)
 | [],_,_,hi=>by cases hi
 | j::r,h,i,hi=>by
  unfold qaO at h;have h1:0<wtP p j (val j):=qs6 fun e=>by rw[e,qrT]at h;omega
  have h2:0<qaO p val r:=qs6 fun e=>by rw[e,qt3]at h;omega
  rcases qqM.1 hi with rfl|hi
  . exact h1
  . exact qaN h2 i hi
theorem Wh (F:Nat->Nat):∀ (n x:Nat) (idx:Int),0<=idx->idx<(w6 F (List.range' x n):Nat) ->
 (x<=(j6 F n x idx).1/\(j6 F n x idx).1<x+n)/\0<=(j6 F n x idx).2/\(j6 F n x idx).2<(F (j6 F n x idx).1:Nat)/\idx=(w6 F (List.range' x ((j6 F n x idx).1-x)):Nat)+(j6 F n x idx).2
 | 0,x,idx,h0,h=>by simp[w6]at h;omega
 | n+1,x,idx,h0,h=>by
  rw[qrQ]at h;simp only[w6]at h;unfold j6;by_cases h1:idx<(F x:Nat)
  . rw[if_pos h1];refine⟨⟨qqw _,by omega⟩,h0,h1,?_⟩;simp[w6]
  . rw[if_neg h1];by_cases hn:n=0
    . subst hn;simp[w6]at h;omega
    . rw[if_neg hn];have ih:=Wh F n (x+1) (idx-(F x:Nat)) (by omega) (by omega);obtain⟨⟨a1,a2⟩,a3,a4,a5⟩:=ih;generalize j6 F n (x+1) (idx-(F x:Nat))=q at *;refine⟨⟨by omega,by omega⟩,a3,a4,?_⟩;have e:q.1-x=(q.1-(x+1))+1:=(by omega);rw[e,qrQ];simp only[w6];omega
theorem qav (p:Problem)(fx:Nat->Option Nat)(a:List Int)(gi:Nat):qbY p fx a gi=sat (jJ p (qB p).1 fx ((NG p).getD gi []) (((NG p).take gi).flatten.map fun i=>(i,aN a i))):=qax _ _
theorem qmC {p:Problem}{a:List Int}{gi:Nat}{g:List Nat}(hg:(NG p).getD gi []=g)(hn:g.Nodup):∀ (l:List Nat) (fx:Nat->Option Nat) (idx:Int) (out:List Int),l.Nodup->(∀ i∈l,fx i=none/\i∈g/\i<out.length) ->
 0<=idx->idx<(jJ p (qB p).1 fx g (((NG p).take gi).flatten.map fun i=>(i,aN a i)):Nat)->jJ p (qB p).1 fx g (((NG p).take gi).flatten.map fun i=>(i,aN a i))<lim ->
 ∃ fx':Nat->Option Nat,(∀ i∈l,∃ x:Nat,fx' i=some x/\x<2 ^ jB p i/\(chP p a gi l fx idx out)[i]?=some (x:Int))/\(∀ k,k∉l->fx' k=fx k/\(chP p a gi l fx idx out)[k]?=out[k]?)/\0<jJ p (qB p).1 fx' g (((NG p).take gi).flatten.map fun i=>(i,aN a i)):=by
 generalize hc:(((NG p).take gi).flatten.map fun i=>(i,aN a i))=c;intro l
 induction l with
 | nil=>
  intro fx idx out _ _ h0 h1 _;exact⟨fx,fun i hi=>(by cases hi),fun k _=>⟨rfl,rfl⟩,by omega⟩
 | cons i r ih=>
  intro fx idx out hl hm h0 h1 h2;rw[qrX]at hl;obtain⟨hfi,hig,hio⟩:=hm i (by simp);have hsp:=Yb (p:=p) (R:=(qB p).1) hfi g c hn hig;have hle:∀ x,x<2 ^ jB p i->jJ p (qB p).1 (yE fx i x) g c<=jJ p (qB p).1 fx g c:=fun x hx=>by
   rw[hsp];exact qoq (f:=fun x=>jJ p (qB p).1 (yE fx i x) g c) (qra.2 hx)
  have hF:∀ x,x<2 ^ jB p i->qbY p (yE fx i x) a gi=jJ p (qB p).1 (yE fx i x) g c:=fun x hx=>by
   rw[qav,hg,hc];have:=hle x hx;exact qsr (by omega)
  have hw:wdN p i=jB p i:=qdv p i;have hsum:w6 (fun x=>qbY p (yE fx i x) a gi) (List.range' 0 (2 ^ wdN p i))=jJ p (qB p).1 fx g c:=by
   rw[hsp,hw,<- qrR];exact wc fun x hx=>hF x (qra.1 hx)
  obtain⟨⟨_,q1⟩,q2,q3,_⟩:=Wh (fun x=>qbY p (yE fx i x) a gi) (2 ^ wdN p i) 0 idx h0 (by rw[hsum];exact h1);unfold chP;dsimp only;generalize j6 (fun x=>qbY p (yE fx i x) a gi) (2 ^ wdN p i) 0 idx=q at *;have hq1:q.1<2 ^ jB p i:=by rw[<- hw];omega
  rw[hF _ hq1]at q3;obtain⟨fx',f1,f2,f3⟩:=ih (yE fx i q.1) q.2 (out.set i q.1) hl.2 (fun k hk=>by
   obtain⟨a1,a2,a3⟩:=hm k (by simp[hk]);exact⟨by rw[WU (by rintro rfl;exact hl.1 hk)];exact a1,a2,by simpa using a3⟩) q2 q3 (by have:=hle _ hq1;omega)
  refine⟨fx',fun k hk=>?_,fun k hk=>?_,f3⟩
  . rcases qqM.1 hk with rfl|hk
    . obtain⟨b1,b2⟩:=f2 k hl.1;exact⟨q.1,by rw[b1,qg8],hq1,by rw[b2,qqp hio]⟩
    . exact f1 k hk
  . have hki:k≠i:=fun e=>hk (by simp[e])
    obtain⟨b1,b2⟩:=f2 k (fun h=>hk (by simp[h]));exact⟨by rw[b1,WU hki],by rw[b2,qqn (Ne.symm hki)]⟩
theorem qa1 {α:Type}[DecidableEq α]:∀ {a b:List α},a.Nodup->(∀ x∈a,x∈b)->a.length<=b.length
 | [],_,_,_=>by simp
 | x::a,b,hn,hs=>by
  rw[qrX]at hn;have hx:=hs x (by simp);have h1:a.length<=(b.erase x).length:=qa1 hn.2 fun y hy=>by
   have hne:y≠x:=(by rintro rfl;exact hn.1 hy);exact (List.mem_erase_of_ne hne).2 (hs y (by simp[hy]))
  rw[qs4 hx]at h1;have:=qtR hx;simp only[qqC];omega
theorem Wn {α:Type}[DecidableEq α]:∀ {b a:List α},a.Nodup->(∀ x∈a,x∈b)->b.length<=a.length->b.Nodup
 | [],_,_,_,_=>List.nodup_nil
 | x::b,a,hn,hs,hl=>by
  have hx:x∉b:=fun hx=>by
   have:=qa1 hn (b:=b) fun y hy=>by
    rcases qqM.1 (hs y hy) with rfl|h
    . exact hx
    . exact h
   simp at hl;omega
  refine qrX.2 ⟨hx,Wn (hn.erase x) (fun y hy=>?_) ?_⟩
  . rw[hn.mem_erase_iff]at hy;exact (qqM.1 (hs y hy.2)).resolve_left hy.1
  . have:=List.length_erase (a:=x) (l:=a);simp only[qqC]at hl;split at this<;>omega
theorem qcq {g:List Nat}(h:g.Nodup):(yj g).Nodup:=Wn h (fun x hx=>Yi.2 hx) (by rw[qaA];exact qqw _)
structure GoodA (p:Problem)(a:List Int):Prop where
 len:a.length=p.vars.length
 st:∀ (i:Nat) (v:Var),p.vars[i]?=some v->v.mode=0->a[i]?=some v.value
 nn:∀ (i:Nat) (v:Var) (x:Int),p.vars[i]?=some v->v.mode≠0->a[i]?=some x->0<=x
theorem qf2 (p:Problem):GoodA p (qW p.vars):=by
 refine⟨yS _,fun i v hi hm=>?_,fun i v x hi hm hx=>?_⟩
 . unfold qW;rw[qqI,hi];simp[hm]
 . unfold qW at hx;rw[qqI,hi]at hx;simp[hm]at hx;omega
def wg (p:Problem)(a:List Int)(gi:Nat):List (Nat×Nat):=((NG p).take gi).flatten.map fun i=>(i,aN a i)
theorem qji {p:Problem}(hv:qk p=0){gi:Nat}(hgi:gi<(NG p).length){a:List Int}(ha:GoodA p a){idx:Int}(h0:0<=idx)(h1:idx<(jJ p (qB p).1 (fun _=>none) ((NG p).getD gi []) (wg p a gi):Nat))(h2:jJ p (qB p).1 (fun _=>none) ((NG p).getD gi []) (wg p a gi)<lim) :
 GoodA p (j8 p gi a idx)/\okC p (qB p).1 (wg p (j8 p gi a idx) (gi+1))=true/\(∀ i,i∉(NG p).getD gi []->(j8 p gi a idx)[i]?=a[i]?)/\∀ i∈(NG p).getD gi [],0<wtP p i (aN (j8 p gi a idx) i)/\aN (j8 p gi a idx) i<2 ^ jB p i:=by
 have hgg:=qqo hgi;obtain⟨g,hg⟩:∃ g,(NG p).getD gi []=g:=⟨_,rfl⟩;have hgs:(NG p)[gi]?=some g:=by rw[qqz,hgg]at hg;rw[hgg];exact congrArg some hg
 have hnf:=V3 hv;obtain⟨post,hpost⟩:=V0 hgs;have hgn:g.Nodup:=by
  rw[hpost]at hnf;exact (qrt.1 (qrt.1 hnf).1).2.1
 have hdis:∀ i∈g,i∉((NG p).take gi).flatten:=fun i hi hi2=>by
  rw[hpost]at hnf;exact (qrt.1 (qrt.1 hnf).1).2.2 i hi2 i hi rfl
 have hgm:∀ i∈g,i∈(NG p).flatten:=fun i hi=>by rw[hpost];simp[hi]
 have hs1:∀ i,i∈yj g↔i∈g:=fun i=>Yi
 have hs2:g.Nodup->(yj g).Nodup:=qcq;rw[hg]at h1 h2 ⊢;obtain⟨fx',f1,f2,f3⟩:=qmC hg hgn (yj g) (fun _=>none) idx a (hs2 hgn) (fun i hi=>by
  obtain⟨v,hv',_⟩:=wR hv (hgm i ((hs1 i).1 hi));have:=(qql.1 hv').1;exact⟨rfl,(hs1 i).1 hi,by rw[ha.len];exact this⟩) h0 h1 h2
 have hce:j8 p gi a idx=chP p a gi (yj g) (fun _=>none) idx a:=by unfold j8;rw[hg]
 have hlen:=QW p gi a idx;rw[<- hce]at f1 f2;generalize j8 p gi a idx=b at *;have hout:∀ i,i∉g->b[i]?=a[i]? := fun i hi=>(f2 i fun h=>hi ((hs1 i).1 h)).2
 have hin:∀ i∈g,fx' i=some (aN b i)/\aN b i<2 ^ jB p i/\b[i]?=some (aN b i:Int):=fun i hi=>by
  obtain⟨x,x1,x2,x3⟩:=f1 i ((hs1 i).2 hi);have:aN b i=x:=by unfold aN;rw[qqz,x3];simp
  rw[this];exact⟨x1,x2,x3⟩
 have hpre:((NG p).take gi).flatten.map (fun i=>(i,aN b i))=wg p a gi:=by
  unfold wg;apply qrw;intro i hi;have:aN b i=aN a i:=by unfold aN;rw[qqz,qqz,hout i fun h=>hdis i h hi]
  rw[this]
 have hfix:=Yc (p:=p) (R:=(qB p).1) (fx:=fx') (val:=aN b) g (wg p a gi) (fun i hi=>(hin i hi).1);have f3':0<jJ p (qB p).1 fx' g (wg p a gi):=f3;rw[hfix]at f3';have hok:okC p (qB p).1 (wg p a gi++g.map fun i=>(i,aN b i))=true:=by
  apply Classical.byContradiction;intro h;rw[if_neg h,qt3]at f3';omega
 have hpw:0<qaO p (aN b) g:=qs6 fun e=>by rw[e,qrT]at f3';omega
 refine⟨⟨by rw[hlen];exact ha.len,fun i v hi hm=>?_,fun i v x hi hm hx=>?_⟩,?_,hout,fun i hi=>⟨qaN hpw i hi,(hin i hi).2.1⟩⟩
 . rw[hout i fun h=>?_]
   . exact ha.st i v hi hm
   . obtain⟨v',hv',hm'⟩:=wR hv (hgm i h);rw[hi]at hv';cases hv';exact hm' hm
 . by_cases h:i∈g
   . have:=(hin i h).2.2;rw[hx]at this;have:x=(aN b i:Int):=Option.some.inj this;omega
   . rw[hout i h]at hx;exact ha.nn i v x hi hm hx
 . have e:wg p b (gi+1)=wg p a gi++g.map fun i=>(i,aN b i):=by
    rw[<- hpre];unfold wg;rw[qqT,hgs];simp
   rw[e];exact hok
theorem qoo {p:Problem}{gi:Nat}{a:List Int}(h:(WV p gi a).2=0):gi<(NG p).length/\zb p.vars a=true/\(WV p gi a).1=(jJ p (qB p).1 (fun _=>none) ((NG p).getD gi []) (wg p a gi):Nat)/\0<jJ p (qB p).1 (fun _=>none) ((NG p).getD gi []) (wg p a gi)/\jJ p (qB p).1 (fun _=>none) ((NG p).getD gi []) (wg p a gi)<lim:=by
 unfold WV at h⊢;split at h
 . cases h
 . rename_i hn;split at h
   . cases h
   . rename_i h1;split at h
     . cases h
     . rename_i h2;rw[if_neg hn,if_neg h1,if_neg h2];have hg:gi<(NG p).length:=by
        have:¬ ((NG p).length:Int)<=gi:=fun e=>hn (.inr (.inl e))
        omega
       have ha:zb p.vars a=true:=by
        cases hA:zb p.vars a with
        | true=>rfl
        | false=>exact absurd (.inr (.inr hA)) hn
       have e:qbY p (fun _=>none) a (gi:Int).toNat=sat (jJ p (qB p).1 (fun _=>none) ((NG p).getD gi []) (wg p a gi)):=qav _ _ _ _;rw[e]at h1 h2 ⊢;have h3:=sat_lt h2;rw[h3]at h1 ⊢;refine⟨hg,ha,rfl,qs6 h1,?_⟩;have:=qaF (jJ p (qB p).1 (fun _=>none) ((NG p).getD gi []) (wg p a gi));omega
structure EndA (p:Problem)(a:List Int)(gi:Nat):Prop where
 good:GoodA p a
 ok:okC p (qB p).1 (wg p a gi)=true
 pos:∀ i∈((NG p).take gi).flatten,0<wtP p i (aN a i)/\aN a i<2 ^ jB p i
theorem qiy {p:Problem}(hv:qk p=0):∀ (k gi:Nat) (a:List Int) (r:Rng),gi+k=(NG p).length->EndA p a gi->(qeE p (List.range' gi k) a r).2.2=0->EndA p (qeE p (List.range' gi k) a r).1 (NG p).length
 | 0,gi,a,r,hk,h,_=>by
  have:gi=(NG p).length:=by omega
  subst this;exact h
 | k+1,gi,a,r,hk,h,he=>by
  rw[qrQ]at he ⊢;unfold qeE at he ⊢;split at he
  . exact absurd he (by assumption)
  . rename_i h1;rw[if_neg h1];split at he
    . exact absurd he (by assumption)
    . rename_i h2;rw[if_neg h2];obtain⟨t1,t2,t3,t4,t5⟩:=qoo (qq8.1 h1);have hb:0<=(ym (WV p gi a).1 r).1/\(ym (WV p gi a).1 r).1<(WV p gi a).1:=by
       unfold ym at h2 ⊢;split at h2
       . exact absurd (show ((1:Int))≠0 by decide) h2
       . rename_i hc;rw[if_neg hc];exact Jw (by rw[t3];omega) r
      rw[t3]at hb;obtain⟨c1,c2,c3,c4⟩:=qji hv t1 h.good (idx:=(ym (WV p gi a).1 r).1) (by rw[t3];exact hb.1) (by rw[t3];exact hb.2) t5;refine qiy hv k (gi+1) _ _ (by omega) ⟨c1,c2,fun i hi=>?_⟩ he;obtain⟨g,hg⟩:∃ g,(NG p)[gi]?=some g:=⟨_,qqo t1⟩;have hgd:(NG p).getD gi []=g:=(by rw[qqz,hg];rfl);rw[qqT,hg]at hi;simp only[Option.toList,qrW,qqE]at hi;rcases hi with hi|hi
      . have hni:i∉(NG p).getD gi []:=fun h'=>by
         rw[hgd]at h';have hnf:=V3 hv;obtain⟨post,hpost⟩:=V0 hg;rw[hpost]at hnf;exact (qrt.1 (qrt.1 hnf).1).2.2 i hi i h' rfl
        have e:aN (j8 p gi a (ym (WV p gi a).1 r).1) i=aN a i:=by
         unfold aN;rw[qqz,qqz,c3 i hni]
        rw[e];exact h.pos i hi
      . rw[hgd]at c4;exact c4 i (by simpa using hi)
theorem qpT {p:Problem}(hv:qk p=0){a:List Int}(h:EndA p a (NG p).length):a∈QY p.vars/\QC p.vars (qB p).1 a=true:=by
 obtain⟨hg,hok,hpos⟩:=h;have htk:(NG p).take (NG p).length=NG p:=qqu (qqw _);unfold wg at hok;rw[htk]at hok hpos;unfold okC at hok;obtain⟨b,hb,hs⟩:=qqN.1 hok;rw[qqq]at hs;have hbo:=vl.1 hb;have hab:a=b:=by
  apply qrb;intro i
  cases hi:p.vars[i]? with
  | none=>
   have hl:=qsW.1 hi;rw[qqW (by rw[hg.len];exact hl),qqW (by rw[hbo.len];exact hl)]
  | some v=>
   by_cases hm:v.mode=0
   . obtain⟨x,hx,hc⟩:=wL hbo hi;rw[if_pos hm]at hc;rw[hg.st i v hi hm,hx,hc]
   . have hiF:=qdU hv hi hm;have h1:=qqy.1 hs.2 (i,aN a i) (qqS.2 ⟨i,hiF,rfl⟩);have h2:b[i]?=some (aN a i:Int):=of_decide_eq_true h1;have hil:=(qql.1 hi).1;obtain⟨x,h3⟩:∃ x,a[i]?=some x:=⟨_,qqo (by rw[hg.len];exact hil)⟩;have h4:=hg.nn i v _ hi hm h3;rw[h2,h3];congr 1;unfold aN;rw[qqz,h3];show x=(x.toNat:Int);omega
 rw[hab];exact⟨hb,hs.1⟩
theorem qhk {vs:List Var}{l m:List Ex}(h:∀ e,e∈l↔e∈m):jT vs l=jT vs m:=by
 have:∀ a,QC vs l a=QC vs m a:=fun a=>by
  unfold QC;rw[qrj,qqy,qqy];exact⟨fun h1 e he=>h1 e ((h e).2 he),fun h1 e he=>h1 e ((h e).1 he)⟩
 unfold jT;congr 1;funext a;exact this a
theorem YS (vs:List Var):∀ (L:List (Int×Ex)) (R:List Ex),jT vs R=true->jT vs (R++(kV vs R L).map (·.2))=true
 | [],R,h=>by simpa[kV] using h
 | x::r,R,h=>by
  unfold kV;split
  . rename_i h1;have:=YS vs r (R++[x.2]) h1;simpa using this
  . exact YS vs r R h
theorem Wa {p:Problem}(h:(qB p).2=0):qk p=0/\jT p.vars (zP p)=true/\jT p.vars (qB p).1=true/\∀ e∈zP p,e∈(qB p).1:=by
 rw[Qe]at h;obtain⟨h1,h2,h3,_⟩:=Q9 h;refine⟨h1,h2,?_,fun e he=>?_⟩
 . rw[h3];have:=YS p.vars (JF p.soft) (zP p) h2;rw[<- this];refine qhk fun e=>?_
   have hn:qcI p=zP p:=by
    unfold qcI zP;have:yq p=vH p:=if_pos h1;rw[this]
   unfold ZN;rw[hn];simp
 . rw[h3];exact qqX _ he
theorem qpa (p:Problem)(R:List Ex):okC p R []=jT p.vars R:=by
 unfold okC jT;congr 1;funext a;simp
theorem qkB {p:Problem}{r:Rng}(h:(zy p r).2.2=0):qk p=0/\(qB p).2=0/\EndA p (zy p r).1 (NG p).length/\(zy p r).1∈QY p.vars/\QC p.vars (qB p).1 (zy p r).1=true:=by
 unfold zy at h⊢;split at h
 . exact absurd h (by assumption)
 . rename_i h1;rw[if_neg h1];have h0:=qq8.1 h1;obtain⟨hv,_,hs,_⟩:=Wa h0;rw[qrR]at h ⊢;have he:=qiy hv (NG p).length 0 (qW p.vars) r (by omega) ⟨qf2 p,by
    have:wg p (qW p.vars) 0=[]:=by simp[wg]
    rw[this,qpa];exact hs,fun i hi=>by simp at hi⟩ h
   exact⟨hv,h0,he,qpT hv he⟩
theorem qeP {env:List Signal}{e:Ex}(h:yh env e≠0):Zv env e=0/\jX env e≠0:=by
 unfold yh at h;split at h
 . rename_i hc;refine⟨?_,h⟩;unfold Zv;rw[if_neg (by simp[hc.1]),if_pos hc.2]
 . exact absurd rfl h
theorem qiQ {p:Problem}(hv:qk p=0){a:List Int}(ha:a∈QY p.vars){i:Nat}{v:Var}{z:Int}(hi:p.vars[i]?=some v)(hz:a[i]?=some z):jn (kr p.vars a) v.name=some z/\0<=z/\z<(zZ v:Nat)\/v.mode=0:=by
 by_cases hm:v.mode=0
 . exact .inr hm
 . left;have hok:=vl.1 ha;obtain⟨x,hx,hxr⟩:=wL hok hi;rw[hz]at hx;cases hx;rw[if_neg hm]at hxr;have hve:=qR (zJ hv v (qqm hi));have h3:2 ^ v.width.toNat<=2 ^ 8:=qqL (by omega) (by omega);have hsz:zZ v=2 ^ v.width.toNat:=rfl;have hf:=vU (yo hv) hi hz;rw[Qb hxr.1 (by omega)]at hf;have hen:kr p.vars a=(p.vars.zip a).map fun q=>⟨q.1.name,q.2⟩:=by unfold kr;rw[if_pos hok.len]
   rw[hen];exact⟨hf,hxr⟩
theorem qfj {v:Var}(h:jF v=0):0<=v.value/\v.value<(2:Int) ^ v.width.toNat:=by
 unfold jF at h;split at h
 . cases h
 . split at h
   . cases h
   . rename_i hc;omega
theorem qmq {v:Var}{u:List Int}{q:Problem}:(∀ e∈q.hard,e∈(qc5 v u q).1.hard)/\((v.mode≠2/\(qc5 v u q).2=u)\/(qc5 v u q).2=[]\/((qc5 v u q).2=u/\u≠[]/\Vn v u∈(qc5 v u q).1.hard)):=by
 unfold qc5;split
 . rename_i h;refine⟨fun e he=>he,?_⟩;by_cases hm:v.mode=2
   . exact .inr (.inl (h.resolve_left fun h=>h hm))
   . exact .inl ⟨hm,rfl⟩
 . rename_i h;split
   . exact⟨fun e he=>he,.inr (.inl rfl)⟩
   . exact⟨fun e he=>by simp[Kw,he],.inr (.inr ⟨rfl,fun hu=>h (.inr hu),by simp[Kw]⟩)⟩
theorem qmp (q:Problem)(l:List (Var×List Int)):(∀ e∈q.hard,e∈(wz l q).1.hard)/\∀ (i:Nat) (u:List Int),(wz l q).2[i]?=some u->∃ x,l[i]?=some x/\((x.1.mode≠2/\u=x.2)\/u=[]\/(u=x.2/\u≠[]/\Vn x.1 x.2∈(wz l q).1.hard)):=by
 induction hn:l.length generalizing l with
 | zero=>
  have:l=[]:=qqA hn;subst this;exact⟨fun e he=>he,fun i u h=>by simp[wz]at h⟩
 | succ k ih=>
  obtain⟨d,x,rfl⟩:∃ d x,l=d++[x]:=⟨l.dropLast,l.getLast (by rintro rfl;simp at hn),(qry _).symm⟩;obtain⟨h1,h2⟩:=ih d (by simpa using hn);obtain⟨h3,h4⟩:=qmq (v:=x.1) (u:=x.2) (q:=(wz d q).1);have hd:=Zz q d;rw[vY];unfold qgA;refine⟨fun e he=>h3 e (h1 e he),fun i u h=>?_⟩;dsimp only at h⊢;by_cases hi:i<d.length
  . rw[qqv (by omega)]at h;obtain⟨y,hy,h5⟩:=h2 i u h;refine⟨y,by rw[qqv hi];exact hy,?_⟩;rcases h5 with h5|h5|⟨h5,h6,h7⟩
    . exact .inl h5
    . exact .inr (.inl h5)
    . exact .inr (.inr ⟨h5,h6,h3 _ h7⟩)
  . have hi2:i=d.length:=by
     have:=(qql.1 h).1;simp at this;omega
    subst hi2;rw[qqt (by omega),hd,qrB]at h;refine⟨x,by simp,?_⟩;simp at h;subst h;rcases h4 with ⟨a,b⟩|b|⟨b,c,d⟩
    . exact .inl ⟨a,b⟩
    . exact .inr (.inl b)
    . exact .inr (.inr ⟨b,by rw[b];exact c,d⟩)
theorem qni {v:Var}{l:List Int}(h:okV v l=true):(v.mode≠2->l=[])/\okL v.width l=true:=by
 unfold okV at h;by_cases hm:v.mode=2
 . exact⟨fun h'=>absurd hm h',by simpa[hm] using h⟩
 . refine⟨fun _=>?_,?_⟩
   . simp[hm]at h
     first | exact h.1 | exact h
   . simp[hm]at h
     first | exact h.2 | (subst h;rfl) | (rw[h];rfl)
structure FitS (p:Problem)(c:List (List Int))(a:List Int)(d:List (List Int)):Prop where
 vp:qk p=0
 fits:yH p.vars c=true
 all:a∈QY p.vars
 hard:∀ e∈p.hard,yh (kr p.vars a) e≠0
 dlen:d.length=p.vars.length
 row:∀ (i:Nat) (v:Var) (l u:List Int) (z:Int),p.vars[i]?=some v->c[i]?=some l->a[i]?=some z->d[i]?=some u->(v.mode≠2/\u=[])\/(v.mode=2/\u=[z])\/(v.mode=2/\l≠[]/\u=l++[z]/\z∈yF v.width l)
theorem qkC {p:Problem}{c:List (List Int)}{r:Rng}(hh:CycH p c)(h:(vy p c r).2.2.2=0):FitS p c (vy p c r).1 (vy p c r).2.1:=by
 unfold vy at h⊢;split at h
 . exact absurd h (by assumption)
 rename_i h1;split at h
 . exact absurd h (by decide)
 rename_i h2;split at h
 . exact absurd h (by assumption)
 rename_i h3;split at h
 . exact absurd h (by assumption)
 rename_i h4;rw[if_neg h1,if_neg h2,if_neg h3,if_neg h4];have hvp:=qq8.1 h1;have hf:yH p.vars c=true:=by cases hF:yH p.vars c with | true=>rfl | false=>exact absurd hF h2
 have hcl:c.length=p.vars.length:=by
  unfold yH at hf;simp only[qqq,decide_eq_true_eq]at hf;exact hf.1
 have hfi:=(Qn hcl).1 hf;have hPl:=qaS hcl;have hPm:∀ x∈wJ p.vars c,x.1∈p.vars:=fun x hx=>by
  obtain⟨y,hy,rfl⟩:=qqS.1 hx;exact (List.of_mem_zip hy).1
 have hmo:=qbL (fun v hv=>zJ hvp v hv) hh.vq.names (wJ p.vars c) hPm;obtain⟨hi1,hi2⟩:=qmp p (wJ p.vars c);have hul:=Zz p (wJ p.vars c);generalize hst:wz (wJ p.vars c) p=st at *;obtain⟨q,us⟩:=st;dsimp only at *;have h4':=qq8.1 h4;obtain⟨hvq,hrq,hend,hall,hsat⟩:=qkB h4';obtain⟨_,_,_,hneed⟩:=Wa hrq;rw[hmo.vars]at hall hsat;have hev:∀ e∈q.hard,yh (kr p.vars (zy q r).1) e≠0:=fun e he=>by
  unfold QC at hsat;exact of_decide_eq_true (qqy.1 hsat e (hneed e (qqX _ he)))
 have hal:(zy q r).1.length=p.vars.length:=(vl.1 hall).len;generalize (zy q r).1=a at *;refine⟨hvp,hf,hall,fun e he=>hev e (hi1 e he),Vf _ _ _ (by omega) hal,fun i v l u z hi hl hz hu=>?_⟩;obtain⟨v',u',z',a1,a2,a3,rfl⟩:=qcF _ _ _ i u hu;rw[hi]at a1;rw[hz]at a3;cases a1;cases a3;have hpu:=qd9 hi hl;obtain⟨x,hx,hc⟩:=hi2 i u' a2;rw[hpu]at hx;cases hx;have hok:=qni (hfi i v l hi hl);by_cases hm:v.mode=2
 . have e1:qlp v u' z=u'++[z]:=if_pos hm;rw[e1];rcases hc with ⟨h5,_⟩|rfl|⟨rfl,h6,h7⟩
   . exact absurd hm h5
   . exact .inr (.inl ⟨hm,rfl⟩)
   . dsimp only at h7;have hkl:Zn v l=l:=by
      unfold Zn at h6 ⊢;split
      . rfl
      . rename_i hx;rw[if_neg hx]at h6;exact absurd rfl h6
     rw[hkl]at h6 h7 ⊢;refine .inr (.inr ⟨hm,h6,rfl,?_⟩);obtain⟨_,hval⟩:=qeP (hev _ h7);have hmem:=(qfn (kr p.vars a) v.name (yF v.width l)).1 hval;rcases qiQ hvp hall hi hz with ⟨hf1,_⟩|hm0
     . rw[hf1]at hmem;exact hmem
     . rw[hm0]at hm;cases hm
 . have e1:qlp v u' z=u':=if_neg hm;rw[e1];refine .inl ⟨hm,?_⟩;have hl0:=hok.1 hm;subst hl0;rcases hc with ⟨_,h5⟩|h5|⟨_,h6,_⟩
   . rw[h5];unfold Zn;split<;>rfl
   . exact h5
   . dsimp only at *;rename_i h7 h8;have:Zn v []=[]:=by unfold Zn;split<;>rfl
     rename_i hh2;simp_all
theorem FitS.len {p:Problem}{c:List (List Int)}{a:List Int}{d:List (List Int)}(h:FitS p c a d):a.length=p.vars.length/\c.length=p.vars.length:=by
 refine⟨(vl.1 h.all).len,?_⟩;have hf:=h.fits;unfold yH at hf;simp only[qqq,decide_eq_true_eq]at hf;exact hf.1
theorem FitS.fit {p:Problem}{c:List (List Int)}{a:List Int}{d:List (List Int)}(h:FitS p c a d):yH p.vars d=true:=by
 obtain⟨h1,h2⟩:=h.len;have hfi:=(Qn h2).1 h.fits;refine (Qn h.dlen).2 fun i v u hi hu=>?_
 have hil:=(qql.1 hi).1;obtain⟨l,hl⟩:∃ l,c[i]?=some l:=⟨_,qqo (by omega)⟩;obtain⟨z,hz⟩:∃ z,a[i]?=some z:=⟨_,qqo (by omega)⟩;have hv:=hfi i v l hi hl;have hrng:v.mode=2->0<=z/\z<(2:Int) ^ v.width.toNat:=fun hm=>by
  rcases qiQ h.vp h.all hi hz with ⟨_,h3,h4⟩|hm0
  . refine⟨h3,?_⟩;have:((2 ^ v.width.toNat:Nat):Int)=(2:Int) ^ v.width.toNat:=by simp
    unfold zZ at h4;omega
  . rw[hm0]at hm;cases hm
 rcases h.row i v l u z hi hl hz hu with ⟨hm,rfl⟩|⟨hm,rfl⟩|⟨hm,h0,rfl,hmem⟩
 . unfold okV;simp[hm,okL]
 . obtain⟨r1,r2⟩:=hrng hm;unfold okV;have:okL v.width [z]=true:=Zg.2 fun k n hk=>by
    cases k with
    | zero=>simp at hk;subst hk;simp[okN,r1,r2]
    | succ k=>simp at hk
   simp[hm,this]
 . obtain⟨r1,r2⟩:=hrng hm;have hl2:=(qni hv).2;have:okL v.width (l++[z])=true:=Zg.2 fun k n hk=>by
    by_cases hkl:k<l.length
    . rw[qqv hkl]at hk;rw[qrf (by omega)];exact Zg.1 hl2 k n hk
    . have hk2:k=l.length:=by
       have:=(qql.1 hk).1;simp at this;omega
      subst hk2;rw[qqt (qqw _),qrB]at hk;simp at hk;subst hk;rw[List.take_left];have hno:(l.any fun y=>z==y)=false:=by
       rw[qrz];intro y hy he;exact (qaK.1 hmem).2 (by rw[eq_of_beq he];exact hy)
      simp[okN,r1,r2,hno]
   unfold okV;simp[hm,this]
noncomputable def qks (p:Problem)(R:List Ex)(fx:Nat->Option Nat)(a:List Int)(gi:Nat):Nat:=qcm p R fx ((NG p).getD gi []) (((NG p).take gi).flatten.map fun i=>(i,aN a i))
noncomputable def qcg (p:Problem)(R:List Ex)(gi:Int)(a:List Int):Int×Int :=
 if gi<0\/((NG p).length:Int)<=gi\/zb p.vars a=false then (0,1)
 else if qks p R (fun _=>none) a gi.toNat=0 then (0,11) else if qks p R (fun _=>none) a gi.toNat=lim then (0,3) else (qks p R (fun _=>none) a gi.toNat,0)
noncomputable def chPR (p:Problem)(R:List Ex)(a:List Int)(gi:Nat):List Nat->(Nat->Option Nat)->Int->List Int->List Int
 | [],_,_,out=>out
 | i::r,fx,idx,out=>
  let q:=j6 (fun x=>qks p R (yE fx i x) a gi) (2 ^ wdN p i) 0 idx
  chPR p R a gi r (yE fx i q.1) q.2 (out.set i q.1)
noncomputable def qeT (p:Problem)(R:List Ex)(gi:Nat)(a:List Int)(idx:Int):List Int:=chPR p R a gi (yj ((NG p).getD gi [])) (fun _=>none) idx a
noncomputable def qlZ (p:Problem)(R:List Ex):List Nat->List Int->Rng->List Int×Rng×Int
 | [],a,r=>(a,r,0)
 | gi::rest,a,r=>
  if (qcg p R gi a).2≠0 then ([],(0,0),(qcg p R gi a).2)
  else if (ym (qcg p R gi a).1 r).2.2≠0 then ([],(0,0),(ym (qcg p R gi a).1 r).2.2)
  else qlZ p R rest (qeT p R gi a (ym (qcg p R gi a).1 r).1) (ym (qcg p R gi a).1 r).2.1
noncomputable def qhj (p:Problem)(R:List Ex×Int)(r:Rng):List Int×Rng×Int:=if R.2≠0 then ([],(0,0),R.2) else qlZ p R.1 (List.range (NG p).length) (qW p.vars) r
theorem chP_R (p:Problem)(a:List Int)(gi:Nat):∀ (l:List Nat) (fx:Nat->Option Nat) (idx:Int) (out:List Int),chP p a gi l fx idx out=chPR p (qB p).1 a gi l fx idx out
 | [],_,_,_=>rfl
 | i::r,fx,idx,out=>by
  unfold chP chPR;exact chP_R p a gi r _ _ _
theorem totP_R (p:Problem)(gi:Int)(a:List Int):WV p gi a=qcg p (qB p).1 gi a:=rfl
theorem qjj (p:Problem)(gi:Nat)(a:List Int)(idx:Int):j8 p gi a idx=qeT p (qB p).1 gi a idx:=chP_R _ _ _ _ _ _ _
theorem qnz (p:Problem):∀ (l:List Nat) (a:List Int) (r:Rng),qeE p l a r=qlZ p (qB p).1 l a r
 | [],_,_=>rfl
 | gi::rest,a,r=>by
  unfold qeE qlZ;rw[totP_R,qjj,qnz p rest]
theorem qdM {p:Problem}{R:List Ex×Int}(h:qB p=R)(r:Rng):zy p r=qhj p R r:=by
 subst h;unfold zy qhj;rw[qnz]
theorem Wb {p:Problem}(hv:qk p=0)(hs:p.soft=[])(hd:p.dists=[])(h:jT p.vars p.hard=true):qB p=(p.hard,0):=by
 have hn:zP p=p.hard:=by
  unfold zP yq vH;rw[if_pos hv,hd];simp
 have hns:qcI p=p.hard:=by
  unfold qcI vH;rw[hd];simp
 unfold qB;rw[if_pos hv,hn,if_pos h];unfold qhu ZN;rw[hns,hs];simp[JF,kV]
def p1:Problem:={ vars:=[⟨[97],1,2,0⟩],hard:=[],soft:=[],dists:=[],groups:=[[0]] }
theorem kA:qk p1=0:=by
 have hn:zY [97]=true:=by kernel_rfl
 have he:yP [97]=none:=Vi (by decide);have hv:ku [97]=true:=by unfold ku;rw[hn];rfl
 have hE:jF ⟨[97],1,2,0⟩=0:=by
  unfold jF;rw[hv];simp
 have hg:jS p1.vars p1.groups:=by
  refine⟨by simp[p1],by simp[p1,yA],by simp[p1],fun i hi _=>?_⟩;simp[p1]at hi ⊢;exact hi
 unfold qk;have h1:zX p1.vars=0:=by
  unfold zX;simp[p1,qU,hE,qnK,vX,vz,Jp,he,yc]
 rw[h1];unfold zC;rw[if_pos hg];simp[p1,qU,yl]
theorem W0:qB p1=([],0):=Wb kA rfl rfl (by kernel_rfl)
theorem qkA:zy p1 (1,0)=([1],(1,1),0):=by
 rw[qdM W0]
 kernel_rfl
def v1:Var:=⟨[97],1,2,0⟩
theorem v1_ok:jF v1=0:=zJ kA v1 (by simp[p1,v1])
theorem sol_1:vy p1 [[]] (1,0)=([1],[[1]],(1,1),0):=by
 have hst:wz (wJ p1.vars [[]]) p1=(p1,[[]]):=by
  show qgA (p1,[]) (v1,[])=_;unfold qgA qc5;rw[if_pos (.inr rfl)];rfl
 unfold vy;rw[kA,W0,hst,qkA];have hf:yH p1.vars [[]]=true:=by kernel_rfl
 rw[hf];rfl
theorem sol_2:vy p1 [[1]] (1,1)=([0],[[1,0]],(1,2),0):=by
 have hm:MoreH p1 (Kw p1 (Vn v1 [1])) 1:=(MoreH.refl p1).add (YN v1_ok (by simp[v1,Fits]) [1]) (ZM (by simp[p1,v1]) v1_ok [1]);have hr:qB (Kw p1 (Vn v1 [1]))=([Vn v1 [1]],0):=Wb (hm.valid kA) rfl rfl (by kernel_rfl);have hst:wz (wJ p1.vars [[1]]) p1=(Kw p1 (Vn v1 [1]),[[1]]):=by
  show qgA (p1,[]) (v1,[1])=_;unfold qgA qc5;dsimp only;rw[if_neg (by simp[v1]),hr];rfl
 have hs:zy (Kw p1 (Vn v1 [1])) (1,1)=([0],(1,2),0):=by
  rw[qdM hr]
  kernel_rfl
 unfold vy;rw[kA,W0,hst,hs];have hf:yH p1.vars [[1]]=true:=by kernel_rfl
 rw[hf];rfl
theorem one53:Pure Tryz.prog GG 24 [.int .i64 1] (.agg (qL p1)):=by
 refine Pure.kO o0 false qe Tryz.func24 rfl (by kernel_rfl) ?_;simp[-getElem?_pos,qX,zu,qy,qh,qw];simp[p1,jZ,zj,Leq,qp,qN,qo,AV.atom]
def qoY:List (Nat×Sch×List Nat):=[(2,.step 0 [15,14,13,12,9,8,7,6,5,4] (.step 1 [15,14,13,12,9,8,7,6,5,4,2] (.step 2 [15,14,13,12,9,8,7,6,5,4] (.step 3 [15,14,13,12,9,8,7,6,5,4] (.step 4 [15,14,13,12,9,8,7,6,5] (.step 5 [15,14,13,12,9,8,7,6] (.step 6 [15,14,13,12] (.step 7 [15,14,13] (.step 8 [15,14] (.step 9 [15] (.fork (.cons 10 (.step 11 [15,14,13,12] (.step 12 [15,14,13] (.step 13 [15,14] (.step 14 [15] (.step 15 [] (.done)))))) (.cons 11 (.step 10 [15,14,13,12] (.step 12 [15,14,13] (.step 13 [15,14] (.step 14 [15] (.step 15 [] (.done)))))) (.nil))))))))))))),[])]
theorem awakeG:Pure Tryz.prog GG 8 [] (.bool true):=by
 refine Pure.kO ⟨false,qoY,[],[]⟩ false qe Tryz.func8 rfl (by kernel_rfl) ?_;have hvq:VQ p1:=by
  refine⟨by simp[p1],by simp[p1,Fits],by simp[p1],by simp[p1],by simp[p1],by simp[p1,Fits],by simp[p1],by simp[p1,Fits],by simp[p1,Fits]⟩
 have hcy:∀ c:List (List Int),c.length<=100->(∀ l∈c,l.length<=100)->CycH p1 c:=fun c h1 h2=>
  ⟨hvq,by simp[p1],by simp[p1],fun _=>by simp[p1,NG],by unfold qC;rw[if_neg (by simp[kA])];decide,by simp[p1],by simp[p1],by simp[p1],by omega,fun l hl=>by have:=h2 l hl;omega,fun _ v hv _=>by simp[p1]at hv;subst hv;decide⟩
 have hst:=qov p1 (by simp[p1]);have s1:=qc6 p1 [[]] (hcy _ (by simp) (by simp)) (1,0);have s2:=qc6 p1 [[1]] (hcy _ (by simp) (by simp)) (1,1);rw[sol_1]at s1;rw[sol_2]at s2;have hl:=qno p1 [[1]] 0 hvq ⟨by simp[Fits],by simp[Fits]⟩;have hva:=qcf p1 [[1,0]] hvq ⟨by simp[Fits],by simp[Fits]⟩;have hf1:yH p1.vars [[1]]=true:=by kernel_rfl
 have hf2:yH p1.vars [[1,0]]=true:=by kernel_rfl
 have el:QN p1 [[1]] 0=[0]:=by
  unfold QN wa;rw[kA,hf1];rfl
 have ev:wa p1 [[1,0]]=true:=by
  unfold wa;rw[kA,hf2];rfl
 rw[el]at hl;rw[ev]at hva;simp[-getElem?_pos];refine qd.call one53 (by simp) ?_;have e1:qL p1=[.sl 4 [[.str [97],.int .i64 1,.int .i64 2,.int .i64 0]] .none,.sl 4 [] .none,.sl 4 [] .none,.sl 2 [] .none,.sl 1 [[.sl 1 [[.int .i64 0]] .none]] .none]:=rfl;rw[e1]at hst s1 s2 hl hva ⊢;simp[-getElem?_pos];have hre:qc4 (List.replicate p1.vars.length [])=zW [[]]:=rfl;rw[hre]at hst;simp only[solV,zW,yi,qN,qo,qqx,qqQ]at hst s1 s2 hl hva;have w01:IntKind.i64.wrap 1=1:=wr (by omega) (by omega);rw[qH rfl];simp[-getElem?_pos,qP];refine qd.call hst (by simp) ?_;simp[-getElem?_pos,qP,qX,zu,qy];refine qd.call s1 (by simp) ?_;simp[-getElem?_pos,qP]
 repeat' with_reducible refine And.intro ?_ ?_
 all_goals
  refine qd.call s2 (by simp) ?_;simp[-getElem?_pos];refine qd.call hl (by simp) ?_;simp[-getElem?_pos];rw[QP (by rfl)];simp[-getElem?_pos,w01];refine qd.call hva (by simp) ?_;simp[-getElem?_pos,w01]
end Go.Proofs.YtoibbcnfhhggnaaGreatDoor
end
