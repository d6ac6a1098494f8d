import Derived.Test.YtimecmegnocamaaGreatDoorPq13
set_option maxHeartbeats 16000000
set_option maxRecDepth 100000
set_option linter.all false
set_option linter.defProp false
namespace Go.Proofs.YtimecmegnocamaaGreatDoor
open Go Go.Abs Tryz
def qib(H n)(d:List Nd):(d.map qN).map (·.map (frz H n))=d.map qN:=by
 rw[qCo];apply qCa;intro x _;simp[Zl]
def qeE{H B M t n d full}(h:H[B]?=some (.cells [.sl 3 (d.map qN) (.chain t n),.map M,.bool full])):frz H 8 (.ptr B 0)=qtO d full:=by
 have e2:frz H 7 (.sl 3 (d.map qN) (.chain t n))=.sl 3 (d.map qN) .none:=by
  rw[frz];simp only[qO,qib];simp
 rw[qkS h];simp only[qBZ,qA7,qBy,show frz H 7 (.map M)=.any by simp[frz,qO],e2,qaR];rfl
def valD(val:Bool->Bool->Bool->Bool)(d:List Nd)(x:Nd)(b:Nat->Bool):Bool:=val (evD d b x.1) (evD d b x.2.1) (evD d b x.2.2)
def mlv(d:List Nd)(x:Nd):Nat:=min (min (lvD d x.1) (lvD d x.2.1)) (lvD d x.2.2)
structure InD(d:List Nd)(x:Nd):Prop where
 a:x.1<d.length
 b:x.2.1<d.length
 c:x.2.2<d.length
def InD.grown{d d' x}(h:InD d x)(g:ze d d'):InD d' x:=⟨qBd h.a g.len,qBd h.b g.len,qBd h.c g.len⟩
def Ve{val d d' x}(hd:DagOk d)(h:InD d x)(g:ze d d')(b):valD val d' x b=valD val d x b:=by
 unfold valD;rw[g.ev hd b h.a,g.ev hd b h.b,g.ev hd b h.c]
def qcC{d d' x}(h:InD d x)(g:ze d d'):mlv d' x=mlv d x:=by
 unfold mlv;rw[g.lv h.a,g.lv h.b,g.lv h.c]
structure KOk(val d full)(E:List (Nd×AV×Nat)):Prop where
 keys:(E.map (·.1)).Nodup
 ent:∀q∈E,InD d q.1/\∃i:Nat,q.2.1=.int .i64 i/\i<d.length/\(full=false->mlv d q.1<=lvD d i/\∀b,evD d b i=valD val d q.1 b)
def KOk.grown{val d d' full full' E}(h:KOk val d full E)(hd:DagOk d)(g:ze d d')(hm:full=true->full'=true):KOk val d' full' E :=
 ⟨h.keys,fun q hq=>by
  obtain⟨h1,i,h2,h3,h4⟩:=h.ent q hq;refine⟨h1.grown g,i,h2,qBd h3 g.len,fun hf=>?_⟩;obtain⟨h5,h6⟩:=h4 (by cases full with|true=>rw[hm rfl]at hf;cases hf|false=>rfl);exact⟨by rw[qcC h1 g,g.lv h3];exact h5,fun b=>by rw[g.ev hd b h3,Ve hd h1 g];exact h6 b⟩⟩
structure AR(O B M t Kb vf:Nat)(d:List Nd)(full:Bool)(E:List (Nd×AV×Nat))(U:St):Prop where
 br:BR B M t d full U
 o:U.H[O]?=some (.cells [.ptr B 0,.fn vf [] [],.map Kb])
 k:∃clk,U.H[Kb]?=some (.map (E.map ndE) clk)
 oK:O≠Kb
 oB:O≠B
 oM:O≠M
 kB:Kb≠B
 kM:Kb≠M
def qgY(val:Bool->Bool->Bool->Bool)(O B M t Kb vf:Nat)(d:List Nd)(full:Bool)(x:Nd)(U:St)(r:AV)(U':St):Prop :=
 ∃ d' full' E' i,r=.int .i64 (i:Nat)/\AR O B M t Kb vf d' full' E' U'/\KOk val d' full' E'/\KpL [B,M,Kb] U.H U'.H/\ze d d'/\DagOk d'/\i<d'.length/\(full=true->full'=true)/\(full'=true->8192<=d'.length) /\
  (full'=false->mlv d x<=lvD d' i/\∀b,evD d' b i=valD val d x b)
def qc8(n):zI (Dof prog) 181 (.agg (qN n))=true:=by
 simp[zI,Wg,kv,qV,z9,qCk]
def qno:List (Nat×Sch×List Nat):=[(11,.step 0 [27,26] (.step 1 [27,26,25,24,16,8,4,3,2] (.step 2 [27,26,25,24,16,8,4,3] (.step 3 [27,26,25,24,16,8,4] (.step 4 [27,26,25,24,16,8] (.step 5 [27,26,25,24,16,8,6] (.step 6 [27,26,25,24,16,8] (.step 7 [27,26,25,24,16,8] (.step 8 [27,26,25,24,16] (.step 9 [27,26,25,24,16,12,11,10] (.step 10 [27,26,25,24,16,12,11] (.step 11 [27,26,25,24,16,12] (.step 12 [27,26,25,24,16] (.step 13 [27,26,25,24,16,14] (.step 14 [27,26,25,24,16] (.step 15 [27,26,25,24,16] (.step 16 [27,26,25,24] (.step 17 [27,26,25,24,20,19,18] (.step 18 [27,26,25,24,20,19] (.step 19 [27,26,25,24,20] (.step 20 [27,26,25,24] (.step 21 [27,26,25,24,22] (.step 22 [27,26,25,24] (.step 23 [27,26,25,24] (.step 24 [27,26,25] (.step 25 [27,26] (.step 26 [27] (.step 27 [] (.done)))))))))))))))))))))))))))),[26]),(12,.step 0 [27,26] (.step 1 [27,26,25,24,16,8,4,3,2] (.step 2 [27,26,25,24,16,8,4,3] (.step 3 [27,26,25,24,16,8,4] (.step 4 [27,26,25,24,16,8] (.step 5 [27,26,25,24,16,8,6] (.step 6 [27,26,25,24,16,8] (.step 7 [27,26,25,24,16,8] (.step 8 [27,26,25,24,16] (.step 9 [27,26,25,24,16,12,11,10] (.step 10 [27,26,25,24,16,12,11] (.step 11 [27,26,25,24,16,12] (.step 12 [27,26,25,24,16] (.step 13 [27,26,25,24,16,14] (.step 14 [27,26,25,24,16] (.step 15 [27,26,25,24,16] (.step 16 [27,26,25,24] (.step 17 [27,26,25,24,20,19,18] (.step 18 [27,26,25,24,20,19] (.step 19 [27,26,25,24,20] (.step 20 [27,26,25,24] (.step 21 [27,26,25,24,22] (.step 22 [27,26,25,24] (.step 23 [27,26,25,24] (.step 24 [27,26,25] (.step 25 [27,26] (.step 26 [27] (.step 27 [] (.done)))))))))))))))))))))))))))),[26]),(14,.step 0 [6,3,2,1] (.step 1 [6,3,2] (.step 2 [6,3] (.step 3 [6] (.step 4 [6] (.step 5 [6] (.step 6 [] (.done))))))),[])]
def qf7{d}(h:DagOk d)(x):mlv d x<=20:=by
 have:=qf8 h x.1;unfold mlv;omega
def qhV(k v)(E:List (Nd×AV×Nat))(j):(E.map ndE).modify j (fun e=>(.agg (qN k),v,e.2.2))=(E.modify j (fun e=>(k,v,e.2.2))).map ndE:=by
 apply qB2;intro i;rw[qCR,qBp,qBp,qCR]
 cases E[i]? with
 |none=>rfl
 |some q=>by_cases h:j=i<;>simp[h,ndE]
def que{Kb:Nat}{E:List (Nd×AV×Nat)}{clk:Nat}(k:Nd)(v:AV)(hn:(E.map (·.1)).Nodup):
 ∃(E':List (Nd×AV×Nat)) (clk':Nat),(∀(H:List Blk) (T:List (Option Nat)),H[Kb]?=some (.map (E.map ndE) clk)->zj (Dof prog) ⟨H,T⟩ 244 (.map Kb) (.agg (qN k)) v=some ⟨H.set Kb (.map (E'.map ndE) clk'),T⟩)/\(E'.map (·.1)).Nodup/\∀q∈E',q∈E\/(q.1=k/\q.2.1=v):=by
 have hfit:=qc8 k;by_cases hin:k∈E.map (·.1)
 . obtain⟨q,hq,hqe⟩:=qBj.1 hin;obtain⟨j,hf1,hf2⟩:=qaG (n:=k) E 0 hn q hq hqe;simp only[qCC]at hf1;refine⟨E.modify j (fun e=>(k,v,e.2.2)),clk,?_,?_,?_⟩
   . intro H T hK;simp only[zj,qxF,hfit,if_true,hK,hf1,qhV]
   . have:(E.modify j (fun e=>(k,v,e.2.2))).map (·.1)=E.map (·.1):=by
      apply qB2;intro i;rw[qBp,qBp,qCR];by_cases h:j=i
      . subst h;rw[hf2];simp[hqe]
      simp[h]
     rwa[this]
   intro q' hq';obtain⟨i,hi⟩:=qBB hq';rw[qCR]at hi
   cases hE:E[i]? with
   |none=>rw[hE]at hi;cases hi
   | some r=>
    rw[hE]at hi;by_cases h:j=i
    . simp[h]at hi;subst hi;exact .inr ⟨rfl,rfl⟩
    simp[h]at hi;subst hi;exact .inl (qAV hE)
 have hfind:=Jr (n:=k) E 0 fun q hq hqe=>hin (qBj.2 ⟨q,hq,hqe⟩)
 refine⟨E++[(k,v,clk)],clk+1,?_,?_,?_⟩
 . intro H T hK;simp only[zj,qxF,hfit,if_true,hK,hfind];simp[-qN,ndE]
 . rw[qBV,qCu];refine⟨hn,by simp,?_⟩;intro a ha b hb;simp at hb;subst hb;rintro rfl;exact hin ha
 intro q hq;rcases qBb.1 hq with h|h
 . exact .inl h
 simp at h;subst h;exact .inr ⟨rfl,rfl⟩
def qiz{val:Bool->Bool->Bool->Bool}{O B M t Kb vf:Nat}(hv:∀p q r,Pure prog GG vf [.bool p,.bool q,.bool r] (.bool (val p q r)))(L:Nat)
 (ih:∀(d:List Nd) (full:Bool) (E:List (Nd×AV×Nat)) (x:Nd) (U:St),AR O B M t Kb vf d full E U->KOk val d full E->DagOk d->InD d x->(full=true->8192<=d.length)->L<mlv d x->qj prog GG 207 [.ptr O 0,.agg (qN x)] U (qgY val O B M t Kb vf d full x U))
 (d:List Nd) (full:Bool) (E:List (Nd×AV×Nat)) (x:Nd) (U:St) (ha:AR O B M t Kb vf d full E U) (hk:KOk val d full E) (hd:DagOk d) (hx:InD d x) (hfl:full=true->8192<=d.length) (hL:mlv d x=L):
 qj prog GG 207 [.ptr O 0,.agg (qN x)] U (qgY val O B M t Kb vf d full x U):=by
 refine qFn ⟨false,qno,[],[]⟩ qg func207 rfl (by kernel_rfl) ?_;obtain⟨H,T⟩:=U;have hB:=ha.br.b;have hO:=ha.o;obtain⟨clk,hK⟩:=ha.k;simp only at hB hO hK;have hwr:=hx;have hle:=qf7 hd x;rw[hL]at hle;obtain⟨f,g,e⟩:=x;obtain⟨hfa,hga,hea⟩:=hx;simp only at hfa hga hea;obtain⟨nf,hnf⟩:∃n,d[f]?=some n:=⟨_,qAW hfa⟩;obtain⟨ng,hng⟩:∃n,d[g]?=some n:=⟨_,qAW hga⟩;obtain⟨ne,hne⟩:∃n,d[e]?=some n:=⟨_,qAW hea⟩;have hml:L<=lvD d f/\L<=lvD d g/\L<=lvD d e:=by rw[<- hL];unfold mlv;simp only;omega
 have hmin:qkm (.int .i64 nf.1) (.int .i64 ng.1) (.int .i64 ne.1)=some (.int .i64 L):=by
  rw[<- hL];simp only[qkm,mlv,zV hnf,zV hng,zV hne];congr 2;omega
 cases full
 . simp[qf hO,qf hB];rw[Ju rfl];simp[qf hO,qf hB,hnf,hng,hne,hmin];by_cases h20:L=20
   . subst h20;have two:∀j,j<d.length->20<=lvD d j->∀b,evD d b j=((j:Int)==1):=fun j hj hl b=>by
      have h2:=qpS hd hj (by have:=qf8 hd j;omega);rw[JC hd b (by omega)];rcases h2 with rfl|rfl<;>rfl
     simp;rw[Ju rfl];simp[qf hO];refine qFp (hv _ _ _) rfl ?_;have hval:∀b,valD val d (f,g,e) b=val ((f:Int)==1) ((g:Int)==1) ((e:Int)==1):=fun b=>by
      unfold valD;rw[two f hfa hml.1,two g hga hml.2.1,two e hea hml.2.2]
     have hAR:∀u,AR O B M t Kb vf d false E ⟨H++u,T⟩:=fun u=>⟨⟨qf hB _,qf ha.br.m _,ha.br.t⟩,qf hO _,⟨clk,qf hK _⟩,ha.oK,ha.oB,ha.oM,ha.kB,ha.kM⟩
     simp;have ht:=hd.two;refine⟨fun hh=>⟨d,false,E,1,rfl,hAR _,hk,qFX,qFU d,hd,by omega,id,hfl,fun _=>⟨by rw[qhY hd];exact qf7 hd _,fun b=>by rw[qeN hd,hval,hh]⟩⟩,
      fun hh=>⟨d,false,E,0,rfl,hAR _,hk,qFX,qFU d,hd,by omega,id,hfl,fun _=>⟨by rw[qhZ hd];exact qf7 hd _,fun b=>by rw[Yo hd,hval,hh]⟩⟩⟩
   have h20':¬(L:Int)=20:=(by omega);have hAR:∀u,AR O B M t Kb vf d false E ⟨H++u,T⟩:=fun u=>⟨⟨qf hB _,qf ha.br.m _,ha.br.t⟩,qf hO _,⟨clk,qf hK _⟩,ha.oK,ha.oB,ha.oM,ha.kB,ha.kM⟩
   have hfit:=qc8 (f,g,e);simp[h20'];rw[Ju rfl];by_cases hin:(f,g,e)∈E.map (·.1)
   . obtain⟨q,hq,hqe⟩:=qBj.1 hin;obtain⟨j,hf1,hf2⟩:=qaG (n:=(f,g,e)) E 0 hk.keys q hq hqe;obtain⟨_,i,hi1,hi2,hi3⟩:=hk.ent q hq;have hlk:∀(u:List Blk) (T:List (Option Nat)),zD (Dof prog) ⟨H++u,T⟩ 244 (.map Kb) (.agg (qN (f,g,e))) true=some (.tup [.int .i64 i,.bool true]):=by
      intro u T;simp only[zD,qxF,hfit,if_true];simp[*,-qN,qf hK]
     simp at hlk;simp[qf hO,hlk];rw[hqe]at hi3;exact⟨d,false,E,i,rfl,hAR _,hk,qFX,qFU d,hd,hi2,id,hfl,hi3⟩
   have hfind:=Jr (n:=(f,g,e)) E 0 fun q hq hqe=>hin (qBj.2 ⟨q,hq,hqe⟩)
   have hlk:∀(u:List Blk) (T:List (Option Nat)),zD (Dof prog) ⟨H++u,T⟩ 244 (.map Kb) (.agg (qN (f,g,e))) true=some (.tup [.int .i64 0,.bool false]):=by
    intro u T;simp only[zD,qxF,hfit,if_true];simp[-qN,qf hK,hfind,qbx]
   simp at hlk;simp[qf hO,hlk];rw[qU rfl];simp[qf hO,zg];have hz:∀(H':List Blk) (d':List Nd) (full' one:Bool) (n:Nat),H'[B]?=some (.cells [.sl 3 (d'.map qN) (.chain t d'.length),.map M,.bool full']) ->
    zm ([.ptr B 0,.int .i64 n,.int .i64 L,.bool one].map (frz H' 8)) [qtO d' full',.int .i64 n,.int .i64 L,.bool one]:=fun H' d' full' one n hb=>by
    simp only[qA7,qBy,qeE hb,Zl,qaR];exact qFx _
   have hL20:L<20:=(by omega);obtain⟨p1,p2,p3⟩:=kj hd hfa hL20 hml.1 false;obtain⟨q1,q2,q3⟩:=kj hd hga hL20 hml.2.1 false;obtain⟨r1,r2,r3⟩:=kj hd hea hL20 hml.2.2 false;refine qFr (Jw d false false f L hfa) rfl (hz _ d false false f (qf hB _)) ?_;simp[qf hO,zg];refine qFr (Jw d false false g L hga) rfl (hz _ d false false g (qf hB _)) ?_;simp[qf hO,zg];refine qFr (Jw d false false e L hea) rfl (hz _ d false false e (qf hB _)) ?_;simp[zg,zu,zZ,qP];have hlo:=ih d false E (yl d f L false,yl d g L false,yl d e L false) ⟨H++[.cells (qN (f,g,e))],T⟩ (hAR _) hk hd ⟨p1,q1,r1⟩ hfl (by unfold mlv;simp only;omega);simp at hlo;refine qFs hlo ?_;rintro v ⟨H1,T1⟩ ⟨d1,full1,E1,i1,rfl,ha1,hk1,kp1,g1,hd1,hi1,hm1,hfl1,hs1⟩;have hB1:=ha1.br.b;have hO1:=ha1.o;simp only at hB1 hO1;have hBl:=(qAU.1 hB).1;have hMl:=(qAU.1 ha.br.m).1;have hKl:=(qAU.1 hK).1;simp only at hMl;have hX1:H1[H.length]?=some (.cells [.int .i64 f,.int .i64 g,.int .i64 e]):=kp1.2 _ _ (by simp) (by simp;omega);simp[zg];rw[qU rfl];simp[*,zg];obtain⟨u1,u2,u3⟩:=kj hd1 (qBd hfa g1.len) hL20 (by rw[g1.lv hfa];exact hml.1) true;obtain⟨v1,v2,v3⟩:=kj hd1 (qBd hga g1.len) hL20 (by rw[g1.lv hga];exact hml.2.1) true;obtain⟨w1,w2,w3⟩:=kj hd1 (qBd hea g1.len) hL20 (by rw[g1.lv hea];exact hml.2.2) true;refine qFr (Jw d1 full1 true f L (qBd hfa g1.len)) rfl (hz _ d1 full1 true f hB1) ?_;simp[*,zg];refine qFr (Jw d1 full1 true g L (qBd hga g1.len)) rfl (hz _ d1 full1 true g hB1) ?_;simp[*,zg];refine qFr (Jw d1 full1 true e L (qBd hea g1.len)) rfl (hz _ d1 full1 true e hB1) ?_;simp[zg,zu,zZ,qP];have hhi:=ih d1 full1 E1 (yl d1 f L true,yl d1 g L true,yl d1 e L true) ⟨H1,T1⟩ ha1 hk1 hd1 ⟨u1,v1,w1⟩ hfl1 (by unfold mlv;simp only;omega);simp at hhi;refine qFs hhi ?_;rintro v ⟨H2,T2⟩ ⟨d2,full2,E2,i2,rfl,ha2,hk2,kp2,g2,hd2,hi2,hm2,hfl2,hs2⟩;have hB2:=ha2.br.b;have hO2:=ha2.o;simp only at hB2 hO2;have hX2:H2[H.length]?=some (.cells [.int .i64 f,.int .i64 g,.int .i64 e]):=kp2.2 _ _ hX1 (by simp;omega);have hff:full2=false->full1=false:=fun h=>by cases full1 with|true=>rw[hm2 rfl]at h;cases h|false=>rfl
   simp[hO2,zg];have hnode:=qkc (lv:=L) (lo:=i1) (hi:=i2) ha2.br hd2 hL20 (qBd hi1 g2.len) hi2 hfl2
    (fun h=>by
      rw[g2.lv hi1];refine qBd ?_ (hs1 (hff h)).1;unfold mlv;simp only;omega)
    (fun h=>by
      refine qBd ?_ (hs2 h).1;unfold mlv;simp only;omega)
   refine qFs hnode ?_;rintro v ⟨H3,T3⟩ ⟨d3,full3,i3,rfl,hn,hs3⟩;obtain⟨clk2,hK2⟩:=ha2.k;simp only at hK2;have hB3:=hn.br.b;simp only at hB3;have hO3:H3[O]?=some (.cells [.ptr B 0,.fn vf [] [],.map Kb]):=hn.kp.2 _ _ hO2 (by simp[ha.oB,ha.oM]);have hK3:H3[Kb]?=some (.map (E2.map ndE) clk2):=hn.kp.2 _ _ hK2 (by simp[ha.kB,ha.kM]);have hX3:H3[H.length]?=some (.cells [.int .i64 f,.int .i64 g,.int .i64 e]):=hn.kp.2 _ _ hX2 (by simp;omega);obtain⟨E3,clk3,hup,hE1,hE2⟩:=que (Kb:=Kb) (E:=E2) (clk:=clk2) (f,g,e) (.int .i64 (i3:Nat)) hk2.keys;have hup3:=hup H3 T3 hK3;simp at hup3;have hKl3:=(qAU.1 hK3).1;have hff3:full3=false->full2=false:=fun h=>by cases full2 with|true=>rw[hn.mono rfl]at h;cases h|false=>rfl
   have gg:=(g1.trans g2).trans hn.gr;have hval:full3=false->L<=lvD d3 i3/\∀b,evD d3 b i3=valD val d (f,g,e) b:=fun h=>by
    obtain⟨s1,s2⟩:=hs3 h;obtain⟨_,t2⟩:=hs2 (hff3 h);obtain⟨_,t1⟩:=hs1 (hff (hff3 h));refine⟨s1,fun b=>?_⟩;rw[s2 b]
    cases hb:b L with
    | false=>
     simp;rw[hn.gr.ev hd2 b (qBd hi1 g2.len),g2.ev hd1 b hi1,t1 b];unfold valD;simp only;rw[<- p3 b hb,<- q3 b hb,<- r3 b hb]
    | true=>
     simp;rw[hn.gr.ev hd2 b hi2,t2 b];unfold valD;simp only;rw[<- u3 b hb,<- v3 b hb,<- w3 b hb,g1.ev hd b hfa,g1.ev hd b hga,g1.ev hd b hea]
   have hk4:KOk val d3 full3 E3:=⟨hE1,fun q hq=>by
    rcases hE2 q hq with h|⟨h1,h2⟩
    . exact(hk2.grown hd2 hn.gr hn.mono).ent q h
    refine⟨by rw[h1];exact hwr.grown gg,i3,h2,hn.lt,fun hf=>?_⟩;rw[h1,qcC hwr gg,hL];obtain⟨z1,z2⟩:=hval hf;exact⟨z1,fun b=>by rw[z2 b,Ve hd hwr gg]⟩⟩
   simp;rw[qU rfl];simp[*,zg];refine⟨d3,full3,E3,i3,rfl,⟨⟨?_,?_,hn.br.t⟩,?_,⟨clk3,?_⟩,ha.oK,ha.oB,ha.oM,ha.kB,ha.kM⟩,hk4,?_,gg,hn.ok,hn.lt,?_,hn.fl,?_⟩
   . exact(qAX ha.kB).trans hB3
   . exact(qAX ha.kM).trans hn.br.m
   . exact(qAX (Ne.symm ha.oK)).trans hO3
   . exact qA0 hKl3
   . refine qFW (qFW (qFW (qFW qFX kp1) kp2) (hn.kp.sub ?_)) (qFY (by simp));intro b hb;simp at hb⊢;rcases hb with h|h
     . exact .inl h
     exact .inr (.inl h)
   . intro h;cases h
   intro h;rw[hL];exact hval h
 simp[qf hO,qf hB];refine⟨d,true,E,0,rfl,?_,hk,qFX,qFU d,hd,by have:=hd.two;omega,id,hfl,fun h=>by cases h⟩;exact⟨⟨qf hB _,qf ha.br.m _,ha.br.t⟩,qf hO _,⟨clk,qf hK _⟩,ha.oK,ha.oB,ha.oM,ha.kB,ha.kM⟩
def ql1{val:Bool->Bool->Bool->Bool}{O B M t Kb vf:Nat}(hv:∀p q r,Pure prog GG vf [.bool p,.bool q,.bool r] (.bool (val p q r))):
 ∀(n L:Nat),20-L<n->∀(d:List Nd) (full:Bool) (E:List (Nd×AV×Nat)) (x:Nd) (U:St),AR O B M t Kb vf d full E U->KOk val d full E->DagOk d->InD d x->(full=true->8192<=d.length)->mlv d x=L ->
 qj prog GG 207 [.ptr O 0,.agg (qN x)] U (qgY val O B M t Kb vf d full x U):=by
 intro n
 induction n with
 |zero=>intro L h;omega
 | succ n ih=>
  intro L hLn d full E x U ha hk hd hx hfl hL;refine qiz hv L ?_ d full E x U ha hk hd hx hfl hL;intro d' full' E' x' U' ha' hk' hd' hx' hfl' hL';have:=qf7 hd' x';exact ih (mlv d' x') (by omega) d' full' E' x' U' ha' hk' hd' hx' hfl' rfl
def qo9{val:Bool->Bool->Bool->Bool}{O B M t Kb vf:Nat}(hv:∀p q r,Pure prog GG vf [.bool p,.bool q,.bool r] (.bool (val p q r)))
 (d:List Nd) (full:Bool) (E:List (Nd×AV×Nat)) (x:Nd) (U:St) (ha:AR O B M t Kb vf d full E U) (hk:KOk val d full E) (hd:DagOk d) (hx:InD d x) (hfl:full=true->8192<=d.length):
 qj prog GG 207 [.ptr O 0,.agg (qN x)] U (qgY val O B M t Kb vf d full x U) :=
 ql1 hv _ _ (Nat.lt_succ_self _) d full E x U ha hk hd hx hfl rfl
def qny:List (Nat×Sch×List Nat):=[(4,.step 0 [13,12,11,10,9,8,7,3,2,1] (.step 1 [13,12,11,10,9,8,7,3,2] (.step 2 [13,12,11,10,9,8,7,3] (.step 4 [13,12,11,10,9,8,7,6] (.step 5 [13,12,11,10,9,8,7,6] (.fork (.cons 3 (.step 6 [13,12,11,10,9,8,7] (.step 7 [13,12,11,10,9,8] (.step 8 [13,12,11] (.step 9 [13,12,11] (.step 10 [13,12,11] (.step 11 [13,12] (.step 12 [13] (.step 13 [] (.done))))))))) (.cons 6 (.step 3 [13,12,11,10,9,8,7] (.step 7 [13,12,11,10,9,8] (.step 8 [13,12,11] (.step 9 [13,12,11] (.step 10 [13,12,11] (.step 11 [13,12] (.step 12 [13] (.step 13 [] (.done))))))))) (.nil)))))))),[6,7])]
def qt0(val:Bool->Bool->Bool->Bool)(d:List Nd)(x:Nd)(H:List Blk)(r:AV)(U':St):Prop :=
 KpL [] H U'.H/\(r=.tup [.agg [.sl 0 [] .nil],.int .i64 0,.int .i64 2] \/
  ∃d' i t,r=.tup [.agg [.sl 3 (d'.map qN) (.chain t d'.length)],.int .i64 (i:Nat),.int .i64 0]/\ze d d'/\DagOk d'/\i<d'.length/\mlv d x<=lvD d' i/\∀b,evD d' b i=valD val d x b)
def Qr{val:Bool->Bool->Bool->Bool}{vf:Nat}(hv:∀p q r,Pure prog GG vf [.bool p,.bool q,.bool r] (.bool (val p q r)))
 (d:List Nd) (hd:DagOk d) (x:Nd) (hx:InD d x) (H:List Blk) (T:List (Option Nat)):
 qj prog GG 134 [.agg (zO d),.agg (qN x),.fn vf [] []] ⟨H,T⟩ (qt0 val d x H):=by
 refine qFn ⟨false,qny,[],[]⟩ qg func134 rfl (by kernel_rfl) ?_;obtain⟨f,g,e⟩:=x;have hx':=hx;obtain⟨hf,hg,he⟩:=hx;simp only at hf hg he;simp[qi,qp];refine qb.less (qp1 d hd [f,g,e] (by simp) (by simp;omega) .none) (by simp) (by simp only[zm];exact⟨qFw _,Leq.sl (by simp),trivial⟩) ?_;simp[unA];refine qFs (qgL d hd _ _) ?_;rintro v ⟨H1,T1⟩ ⟨B,M,t,rfl,hb,hk1,hB1,hM1⟩;have hX1:H1[H.length+1]?=some (.cells [.int .i64 f,.int .i64 g,.int .i64 e]):=hk1.2 _ _ (by rw[qA4 (by omega)];simp) (by simp);have hkH:=qFX.trans hk1;simp[zu,zZ,qP];rw[qU rfl];have hBm:=hb.b;have hMm:=hb.m;simp only at hBm hMm;have hBl:=(qAU.1 hBm).1;have hMl:=(qAU.1 hMm).1;have hAR:AR (H1.length+1) B M t H1.length vf d false [] ⟨H1++[.map [] 0,.cells [.ptr B 0,.fn vf [] [],.map H1.length]],T1⟩ :=
  ⟨⟨qf hBm _,qf hMm _,hb.t⟩,by show(H1++_)[_]?=_;rw[qA4 (by omega)];simp,⟨0,by show(H1++_)[_]?=_;rw[qA4 (by omega)];simp⟩,by omega,by omega,by omega,by omega,by omega⟩
 have hap:=qo9 hv d false [] (f,g,e) _ hAR ⟨by simp,by simp⟩ hd hx' (by simp);simp only[qN]at hap;simp[qf hX1,zg,hAR.o];have hR1:H1[H.length+2]?=some (.cells [.sl 0 [] .nil]):=hk1.2 _ _ (by rw[qA4 (by omega)];simp[show H.length+2-H.length=2 by omega]) (by simp);simp only[qAY,qBc,qB8]at hB1 hM1;refine⟨qFs hap ?_,qFs hap ?_⟩
 all_goals
  rintro v ⟨H2,T2⟩ ⟨d2,full2,E2,i2,rfl,ha2,hk2,kp2,g2,hd2,hi2,hm2,hfl2,hs2⟩;have hO2:=ha2.o;have hB2:=ha2.br.b;simp only at hO2 hB2;have hR2:H2[H.length+2]?=some (.cells [.sl 0 [] .nil]):=kp2.2 _ _ (qf hR1 _) (by simp;omega);have hkH2:KpL [] H H2:=⟨by have:=hkH.1;have:=kp2.1;simp at this;omega,fun k x hk _=>by
   have hkl:=(qAU.1 hk).1;exact kp2.2 _ _ (qf (hkH.2 k x hk (by simp)) _) (by simp;omega)⟩
  simp[hO2,zg];refine qFs (qlj ha2.br i2) ?_;rintro v ⟨H3,T3⟩ ⟨rfl,hk3,rfl⟩;have hR3:H3[H.length+2]?=some (.cells [.sl 0 [] .nil]):=hk3.2 _ _ hR2 (by simp);have hRl3:=(qAU.1 hR3).1;have hkH3:∀y,KpL [] H (H3.set (H.length+2) y):=fun y=>(hkH2.trans hk3).setF (by omega)
  cases full2
  . simp[-getElem?_pos,hR3,hRl3,zg];exact⟨hkH3 _,.inr ⟨d2,i2,t,rfl,g2,hd2,hi2,hs2 rfl⟩⟩
  simp[-getElem?_pos,hR3,hRl3,zg];exact⟨hkH3 _,.inl rfl⟩
def qqp(d)(hd:DagOk d)(f g)(hf:f<d.length)(hg:g<d.length)(H T):
 qj prog GG 74 [.agg (zO d),.int .i64 f,.int .i64 g] ⟨H,T⟩ (qt0 (fun p q r=>p&&q) d (f,g,g) H):=by
 refine qFo qg func74 rfl (by kernel_rfl) ?_;simp[zu,zZ,qP];have hex:=fun H T=>Qr (val:=fun p q r=>p&&q) qv8 d hd (f,g,g) ⟨hf,hg,hg⟩ H T
 simp only[qN,zO]at hex;refine qFs (hex _ _) ?_;rintro v ⟨H2,T2⟩ ⟨hk,hr⟩;have hR:H2[H.length+1]?=some (.cells [.sl 0 [] .nil]):=hk.2 _ _ (by rw[qA4 (by omega)];simp) (by simp);have hRl:=(qAU.1 hR).1;have hkk:∀y,KpL [] H (H2.set (H.length+1) y):=fun y=>(qFX.trans hk).setF (by omega)
 rcases hr with rfl|⟨d2,i2,t,rfl,g2,hd2,hi2,hs2⟩
 . simp[-getElem?_pos,hR,hRl,qP];exact⟨hkk _,.inl rfl⟩
 simp[-getElem?_pos,hR,hRl,qP];exact⟨hkk _,.inr ⟨d2,i2,t,rfl,g2,hd2,hi2,hs2⟩⟩
def qyk(d)(hd:DagOk d)(f g)(hf:f<d.length)(hg:g<d.length)(H T):
 qj prog GG 267 [.agg (zO d),.int .i64 f,.int .i64 g] ⟨H,T⟩ (qt0 (fun p q r=>p||q) d (f,g,g) H):=by
 refine qFo qg func267 rfl (by kernel_rfl) ?_;simp[zu,zZ,qP];have hex:=fun H T=>Qr (val:=fun p q r=>p||q) qyj d hd (f,g,g) ⟨hf,hg,hg⟩ H T
 simp only[qN,zO]at hex;refine qFs (hex _ _) ?_;rintro v ⟨H2,T2⟩ ⟨hk,hr⟩;have hR:H2[H.length+1]?=some (.cells [.sl 0 [] .nil]):=hk.2 _ _ (by rw[qA4 (by omega)];simp) (by simp);have hRl:=(qAU.1 hR).1;have hkk:∀y,KpL [] H (H2.set (H.length+1) y):=fun y=>(qFX.trans hk).setF (by omega)
 rcases hr with rfl|⟨d2,i2,t,rfl,g2,hd2,hi2,hs2⟩
 . simp[-getElem?_pos,hR,hRl,qP];exact⟨hkk _,.inl rfl⟩
 simp[-getElem?_pos,hR,hRl,qP];exact⟨hkk _,.inr ⟨d2,i2,t,rfl,g2,hd2,hi2,hs2⟩⟩
def qt2(d)(hd:DagOk d)(f g)(hf:f<d.length)(hg:g<d.length)(H T):
 qj prog GG 319 [.agg (zO d),.int .i64 f,.int .i64 g] ⟨H,T⟩ (qt0 (fun p q r=>p ^^ q) d (f,g,g) H):=by
 refine qFo qg func319 rfl (by kernel_rfl) ?_;simp[zu,zZ,qP];have hex:=fun H T=>Qr (val:=fun p q r=>p ^^ q) qt1 d hd (f,g,g) ⟨hf,hg,hg⟩ H T
 simp only[qN,zO]at hex;refine qFs (hex _ _) ?_;rintro v ⟨H2,T2⟩ ⟨hk,hr⟩;have hR:H2[H.length+1]?=some (.cells [.sl 0 [] .nil]):=hk.2 _ _ (by rw[qA4 (by omega)];simp) (by simp);have hRl:=(qAU.1 hR).1;have hkk:∀y,KpL [] H (H2.set (H.length+1) y):=fun y=>(qFX.trans hk).setF (by omega)
 rcases hr with rfl|⟨d2,i2,t,rfl,g2,hd2,hi2,hs2⟩
 . simp[-getElem?_pos,hR,hRl,qP];exact⟨hkk _,.inl rfl⟩
 simp[-getElem?_pos,hR,hRl,qP];exact⟨hkk _,.inr ⟨d2,i2,t,rfl,g2,hd2,hi2,hs2⟩⟩
def qlC(d)(hd:DagOk d)(f g e)(hf:f<d.length)(hg:g<d.length)(he:e<d.length)(H T):
 qj prog GG 273 [.agg (zO d),.int .i64 f,.int .i64 g,.int .i64 e] ⟨H,T⟩ (qt0 (fun p q r=>p&&q||!p&&r) d (f,g,e) H):=by
 refine qFo qg func273 rfl (by kernel_rfl) ?_;simp[zu,zZ,qP];have hex:=fun H T=>Qr (val:=fun p q r=>p&&q||!p&&r) qlB d hd (f,g,e) ⟨hf,hg,he⟩ H T
 simp only[qN,zO]at hex;refine qFs (hex _ _) ?_;rintro v ⟨H2,T2⟩ ⟨hk,hr⟩;have hR:H2[H.length+1]?=some (.cells [.sl 0 [] .nil]):=hk.2 _ _ (by rw[qA4 (by omega)];simp) (by simp);have hRl:=(qAU.1 hR).1;have hkk:∀y,KpL [] H (H2.set (H.length+1) y):=fun y=>(qFX.trans hk).setF (by omega)
 rcases hr with rfl|⟨d2,i2,t,rfl,g2,hd2,hi2,hs2⟩
 . simp[-getElem?_pos,hR,hRl,qP];exact⟨hkk _,.inl rfl⟩
 simp[-getElem?_pos,hR,hRl,qP];exact⟨hkk _,.inr ⟨d2,i2,t,rfl,g2,hd2,hi2,hs2⟩⟩
def quW(d)(hd:DagOk d)(f)(hf:f<d.length)(H T):
 qj prog GG 269 [.agg (zO d),.int .i64 f] ⟨H,T⟩ (qt0 (fun p q r=>!p) d (f,f,f) H):=by
 refine qFo qg func269 rfl (by kernel_rfl) ?_;simp[zu,zZ,qP];have hex:=fun H T=>Qr (val:=fun p q r=>!p) quV d hd (f,f,f) ⟨hf,hf,hf⟩ H T
 simp only[qN,zO]at hex;refine qFs (hex _ _) ?_;rintro v ⟨H2,T2⟩ ⟨hk,hr⟩;have hR:H2[H.length+1]?=some (.cells [.sl 0 [] .nil]):=hk.2 _ _ (by rw[qA4 (by omega)];simp) (by simp);have hRl:=(qAU.1 hR).1;have hkk:∀y,KpL [] H (H2.set (H.length+1) y):=fun y=>(qFX.trans hk).setF (by omega)
 rcases hr with rfl|⟨d2,i2,t,rfl,g2,hd2,hi2,hs2⟩
 . simp[-getElem?_pos,hR,hRl,qP];exact⟨hkk _,.inl rfl⟩
 simp[-getElem?_pos,hR,hRl,qP];exact⟨hkk _,.inr ⟨d2,i2,t,rfl,g2,hd2,hi2,hs2⟩⟩
def qwg(d:List Nd)(lv lo hi:Nat)(H:List Blk)(r:AV)(U':St):Prop :=
 KpL [] H U'.H/\(r=.tup [.agg [.sl 0 [] .nil],.int .i64 0,.int .i64 2] \/
  ∃d' i t,r=.tup [.agg [.sl 3 (d'.map qN) (.chain t d'.length)],.int .i64 (i:Nat),.int .i64 0]/\ze d d'/\DagOk d'/\i<d'.length/\lv<=lvD d' i/\∀b,evD d' b i=evD d b (if b lv then hi else lo))
def qr4(d)(hd:DagOk d)(lv lo hi)(hlv:lv<20)(hlo:lo<d.length)(hhi:hi<d.length)(h1:lv<lvD d lo)(h2:lv<lvD d hi)(H T):
 qj prog GG 316 [.agg (zO d),.int .i64 lv,.int .i64 lo,.int .i64 hi] ⟨H,T⟩ (qwg d lv lo hi H):=by
 refine qFo qg func316 rfl (by kernel_rfl) ?_;obtain⟨a,hla⟩:∃n,d[lo]?=some n:=⟨_,qAW hlo⟩;obtain⟨c,hlc⟩:∃n,d[hi]?=some n:=⟨_,qAW hhi⟩;have hlt:¬(min (a.1:Int) (c.1:Int)<=(lv:Int)):=by rw[zV hla]at h1;rw[zV hlc]at h2;omega
 simp[qi,qp];refine qb.less (qp1 d hd [lo,hi] (by simp) (by simp;omega) .none) (by simp) (by simp only[zm];exact⟨qFw _,Leq.sl (by simp),trivial⟩) ?_;simp[unA];refine qFp (qh6 (lv:Int)) rfl ?_;have hmin:wV (.int .i64 (a.1:Int)) (.int .i64 (c.1:Int))=some (.int .i64 (min (a.1:Int) (c.1:Int))):=by
  have:(if(c.1:Int)<(a.1:Int) then(c.1:Int) else(a.1:Int))=min (a.1:Int) (c.1:Int):=by split<;>omega
  simp only[wV,this]
 generalize hmm:min (a.1:Int) (c.1:Int)=mm at hmin hlt;simp[unA,show(lv:Int)<20 by omega,hla,hlc,hmin,hlt];refine qFs (qgL d hd _ _) ?_;rintro v ⟨H1,T1⟩ ⟨B,M,t,rfl,hb,hk1,hB1,hM1⟩;simp;simp only[qAY,qBc,qB8]at hB1 hM1;have hR1:H1[H.length+1]?=some (.cells [.sl 0 [] .nil]):=hk1.2 _ _ (by rw[qA4 (by omega)];simp) (by simp);have hkH:KpL [] H H1:=qFX.trans hk1;refine qFs (qkc hb hd hlv hlo hhi (by simp) (fun _=>h1) (fun _=>h2)) ?_;rintro v ⟨H2,T2⟩ ⟨d2,full2,i2,rfl,hn,hs2⟩;have hR2:H2[H.length+1]?=some (.cells [.sl 0 [] .nil]):=hn.kp.2 _ _ hR1 (by simp;omega);have hkH2:KpL [] H H2:=⟨by have:=hkH.1;have:=hn.kp.1;simp at this;omega,fun k x hk _=>by
  have hkl:=(qAU.1 hk).1;exact hn.kp.2 _ _ (hkH.2 k x hk (by simp)) (by simp;omega)⟩
 simp;refine qFs (qlj hn.br i2) ?_;rintro v ⟨H3,T3⟩ ⟨rfl,hk3,rfl⟩;have hR3:H3[H.length+1]?=some (.cells [.sl 0 [] .nil]):=hk3.2 _ _ hR2 (by simp);have hRl3:=(qAU.1 hR3).1;have hkH3:∀y,KpL [] H (H3.set (H.length+1) y):=fun y=>(hkH2.trans hk3).setF (by omega)
 cases full2
 . simp[-getElem?_pos,hR3,hRl3,qP];exact⟨hkH3 _,.inr ⟨d2,i2,t,rfl,hn.gr,hn.ok,hn.lt,(hs2 rfl).1,fun b=>by rw[(hs2 rfl).2 b];exact hn.gr.ev hd b (by split<;>assumption)⟩⟩
 simp[-getElem?_pos,hR3,hRl3,qP];exact⟨hkH3 _,.inl rfl⟩
def qvW(d)(hd:DagOk d)(lv:Nat)(hlv:lv<20)(H T):
 qj prog GG 268 [.agg (zO d),.int .i64 lv] ⟨H,T⟩ (qwg d lv 0 1 H):=by
 refine qFo qg func268 rfl (by kernel_rfl) ?_;simp[qP];have ht:=hd.two;have hex:=fun H T=>qr4 d hd lv 0 1 hlv (by omega) (by omega) (by rwa[qhZ hd]) (by rwa[qhY hd]) H T
 simp only[zO,Int.ofNat_zero,Int.ofNat_one,Int.natCast_one]at hex;refine qFs (hex _ _) ?_;rintro v ⟨H2,T2⟩ ⟨hk,hr⟩;have hR:H2[H.length+1]?=some (.cells [.sl 0 [] .nil]):=hk.2 _ _ (by rw[qA4 (by omega)];simp) (by simp);have hRl:=(qAU.1 hR).1;have hkk:∀y,KpL [] H (H2.set (H.length+1) y):=fun y=>(qFX.trans hk).setF (by omega)
 rcases hr with rfl|⟨d2,i2,t,rfl,g2,hd2,hi2,hs2⟩
 . simp[-getElem?_pos,hR,hRl,qP];exact⟨hkk _,.inl rfl⟩
 simp[-getElem?_pos,hR,hRl,qP];exact⟨hkk _,.inr ⟨d2,i2,t,rfl,g2,hd2,hi2,hs2⟩⟩
