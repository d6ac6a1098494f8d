/- A part of the proof. -/
import Derived.Test.YtoibbcnfhhggnaaGreatDoorPc11
import Derived.Tactics
import Derived.Tactics2
import Derived.WalkKit
import Derived.WalkSmall
import Derived.RowKit3
set_option maxHeartbeats 16000000
set_option linter.unusedVariables false
set_option linter.unusedSimpArgs false
set_option maxRecDepth 100000
set_option linter.defProp false
section
namespace Go.Proofs.YtoibbcnfhhggnaaGreatDoor
open Go Go.Abs
theorem qf4 (H:List Blk)(n:Nat)(d:List Nd):(d.map qH).map (·.map (frz H n))=d.map qH:=by
 rw[qrp];apply qrd;intro x _;simp[wU]
theorem qcQ {H:List Blk}{B M t n:Nat}{d:List Nd}{full:Bool}(h:H[B]?=some (.cells [.sl 3 (d.map qH) (.chain t n),.map M,.bool full])):frz H 8 (.ptr B 0)=frzB d full:=by
 have e1:frz H 7 (.map M)=.any:=by simp[frz,qC]
 have e2:frz H 7 (.sl 3 (d.map qH) (.chain t n))=.sl 3 (d.map qH) .none:=by
  rw[frz];simp only[qC,qf4];simp
 rw[VI h];simp only[qrB,qqk,qqF,e1,e2,yP];rfl
def qg6 (val:Bool->Bool->Bool->Bool)(d:List Nd)(x:Nd)(b:Nat->Bool):Bool:=val (evD d b x.1) (evD d b x.2.1) (evD d b x.2.2)
def mlv (d:List Nd)(x:Nd):Nat:=min (min (lvD d x.1) (lvD d x.2.1)) (lvD d x.2.2)
structure InD (d:List Nd)(x:Nd):Prop where
 a:x.1<d.length
 b:x.2.1<d.length
 c:x.2.2<d.length
theorem InD.grown {d d':List Nd}{x:Nd}(h:InD d x)(g:q9 d d'):InD d' x:=⟨qqn h.a g.len,qqn h.b g.len,qqn h.c g.len⟩
theorem K8 {val:Bool->Bool->Bool->Bool}{d d':List Nd}{x:Nd}(hd:DagOk d)(h:InD d x)(g:q9 d d')(b:Nat->Bool):qg6 val d' x b=qg6 val d x b:=by
 unfold qg6;rw[g.ev hd b h.a,g.ev hd b h.b,g.ev hd b h.c]
theorem qa8 {d d':List Nd}{x:Nd}(h:InD d x)(g:q9 d d'):mlv d' x=mlv d x:=by
 unfold mlv;rw[g.lv h.a,g.lv h.b,g.lv h.c]
structure KOk (val:Bool->Bool->Bool->Bool)(d:List Nd)(full:Bool)(E:List (Nd×AV×Nat)):Prop where
 keys:(E.map (·.1)).Nodup
 ent:∀ q∈E,InD d q.1/\∃ i:Nat,q.2.1=.int .i64 i/\i<d.length/\(full=false->mlv d q.1<=lvD d i/\∀ b,evD d b i=qg6 val d q.1 b)
theorem KOk.grown {val:Bool->Bool->Bool->Bool}{d d':List Nd}{full full':Bool}{E:List (Nd×AV×Nat)}(h:KOk val d full E)(hd:DagOk d)(g:q9 d d')(hm:full=true->full'=true):KOk val d' full' E :=
 ⟨h.keys,fun q hq=>by
  obtain⟨h1,i,h2,h3,h4⟩:=h.ent q hq;refine⟨h1.grown g,i,h2,qqn h3 g.len,fun hf=>?_⟩;have hff:full=false:=by cases full with | true=>rw[hm rfl]at hf;cases hf | false=>rfl
  obtain⟨h5,h6⟩:=h4 hff;exact⟨by rw[qa8 h1 g,g.lv h3];exact h5,fun b=>by rw[g.ev hd b h3,K8 hd h1 g];exact h6 b⟩⟩
structure AR (O B M t Kb vf:Nat)(d:List Nd)(full:Bool)(E:List (Nd×AV×Nat))(U:St):Prop where
 br:BR B M t d full U
 o:U.H[O]?=some (.cells [.ptr B 0,.fn vf [] [],.map Kb])
 k:∃ clk,U.H[Kb]?=some (.map (E.map ndE) clk)
 oK:O≠Kb
 oB:O≠B
 oM:O≠M
 kB:Kb≠B
 kM:Kb≠M
def qe3 (val:Bool->Bool->Bool->Bool)(O B M t Kb vf:Nat)(d:List Nd)(full:Bool)(x:Nd)(U:St)(r:AV)(U':St):Prop :=
 ∃ d' full' E' i,r=.int .i64 (i:Nat)/\AR O B M t Kb vf d' full' E' U'/\KOk val d' full' E'/\KpL [B,M,Kb] U.H U'.H/\q9 d d'/\DagOk d'/\i<d'.length/\(full=true->full'=true)/\(full'=true->8192<=d'.length) /\
  (full'=false->mlv d x<=lvD d' i/\∀ b,evD d' b i=qg6 val d x b)
theorem qbG (n:Nd):zC (Dof Tryz.prog) 219 (.agg (qH n))=true:=by
 simp[zC,KV,kj,qS,z4,qrE]
def qkR:List (Nat×Sch×List Nat):=[(11,.step 0 [27,26] (.step 1 [27,26,25,24,16,8,4,3,2] (.step 2 [27,26,25,24,16,8,4,3] (.step 3 [27,26,25,24,16,8,4] (.step 4 [27,26,25,24,16,8] (.step 5 [27,26,25,24,16,8,6] (.step 6 [27,26,25,24,16,8] (.step 7 [27,26,25,24,16,8] (.step 8 [27,26,25,24,16] (.step 9 [27,26,25,24,16,12,11,10] (.step 10 [27,26,25,24,16,12,11] (.step 11 [27,26,25,24,16,12] (.step 12 [27,26,25,24,16] (.step 13 [27,26,25,24,16,14] (.step 14 [27,26,25,24,16] (.step 15 [27,26,25,24,16] (.step 16 [27,26,25,24] (.step 17 [27,26,25,24,20,19,18] (.step 18 [27,26,25,24,20,19] (.step 19 [27,26,25,24,20] (.step 20 [27,26,25,24] (.step 21 [27,26,25,24,22] (.step 22 [27,26,25,24] (.step 23 [27,26,25,24] (.step 24 [27,26,25] (.step 25 [27,26] (.step 26 [27] (.step 27 [] (.done)))))))))))))))))))))))))))),[26]),(12,.step 0 [27,26] (.step 1 [27,26,25,24,16,8,4,3,2] (.step 2 [27,26,25,24,16,8,4,3] (.step 3 [27,26,25,24,16,8,4] (.step 4 [27,26,25,24,16,8] (.step 5 [27,26,25,24,16,8,6] (.step 6 [27,26,25,24,16,8] (.step 7 [27,26,25,24,16,8] (.step 8 [27,26,25,24,16] (.step 9 [27,26,25,24,16,12,11,10] (.step 10 [27,26,25,24,16,12,11] (.step 11 [27,26,25,24,16,12] (.step 12 [27,26,25,24,16] (.step 13 [27,26,25,24,16,14] (.step 14 [27,26,25,24,16] (.step 15 [27,26,25,24,16] (.step 16 [27,26,25,24] (.step 17 [27,26,25,24,20,19,18] (.step 18 [27,26,25,24,20,19] (.step 19 [27,26,25,24,20] (.step 20 [27,26,25,24] (.step 21 [27,26,25,24,22] (.step 22 [27,26,25,24] (.step 23 [27,26,25,24] (.step 24 [27,26,25] (.step 25 [27,26] (.step 26 [27] (.step 27 [] (.done)))))))))))))))))))))))))))),[26]),(14,.step 0 [6,3,2,1] (.step 1 [6,3,2] (.step 2 [6,3] (.step 3 [6] (.step 4 [6] (.step 5 [6] (.step 6 [] (.done))))))),[])]
theorem qej {d:List Nd}(h:DagOk d)(x:Nd):mlv d x<=20:=by
 have:=qie h x.1;unfold mlv;omega
theorem qfQ (k:Nd)(v:AV)(E:List (Nd×AV×Nat))(j:Nat):(E.map ndE).modify j (fun e=>(.agg (qH k),v,e.2.2))=(E.modify j (fun e=>(k,v,e.2.2))).map ndE:=by
 apply qqW;intro i;rw[qrM,qqp,qqp,qrM]
 cases E[i]? with
 | none=>rfl
 | some q=>by_cases h:j=i<;>simp[h,ndE]
theorem upd_nd {Kb:Nat}{E:List (Nd×AV×Nat)}{clk:Nat}(k:Nd)(v:AV)(hn:(E.map (·.1)).Nodup) :
 ∃ (E':List (Nd×AV×Nat)) (clk':Nat),(∀ (H:List Blk) (T:List (Option Nat)),H[Kb]?=some (.map (E.map ndE) clk)->za (Dof Tryz.prog) ⟨H,T⟩ 262 (.map Kb) (.agg (qH k)) v=some ⟨H.set Kb (.map (E'.map ndE) clk'),T⟩)/\(E'.map (·.1)).Nodup/\∀ q∈E',q∈E\/(q.1=k/\q.2.1=v):=by
 have hfit:=qbG k;by_cases hin:k∈E.map (·.1)
 . obtain⟨q,hq,hqe⟩:=qqx.1 hin;obtain⟨j,hf1,hf2⟩:=Vx (n:=k) E 0 hn q hq hqe;simp only[qrX]at hf1;refine⟨E.modify j (fun e=>(k,v,e.2.2)),clk,?_,?_,?_⟩
   . intro H T hK;simp only[za,D262,hfit,if_true,hK,hf1,qfQ]
   . have:(E.modify j (fun e=>(k,v,e.2.2))).map (·.1)=E.map (·.1):=by
      apply qqW;intro i;rw[qqp,qqp,qrM];by_cases h:j=i
      . subst h;rw[hf2];simp[hqe]
      . simp[h]
     rw[this];exact hn
   . intro q' hq';obtain⟨i,hi⟩:=qqJ hq';rw[qrM]at hi
     cases hE:E[i]? with
     | none=>rw[hE]at hi;cases hi
     | some r=>
      rw[hE]at hi;by_cases h:j=i
      . simp[h]at hi;subst hi;exact .inr ⟨rfl,rfl⟩
      . simp[h]at hi;subst hi;exact .inl (qp6 hE)
 . have hfind:=ZR (n:=k) E 0 fun q hq hqe=>hin (qqx.2 ⟨q,hq,hqe⟩)
   refine⟨E++[(k,v,clk)],clk+1,?_,?_,?_⟩
   . intro H T hK;simp only[za,D262,hfit,if_true,hK,hfind];simp[-qH,ndE]
   . rw[qqY,qqZ];refine⟨hn,by simp,?_⟩;intro a ha b hb;simp at hb;subst hb;rintro rfl;exact hin ha
   . intro q hq;rcases qqo.1 hq with h|h
     . exact .inl h
     . simp at h;subst h;exact .inr ⟨rfl,rfl⟩
theorem qgx {val:Bool->Bool->Bool->Bool}{O B M t Kb vf:Nat}(hv:∀ p q r,Pure Tryz.prog GG vf [.bool p,.bool q,.bool r] (.bool (val p q r)))(L:Nat)
 (ih:∀ (d:List Nd) (full:Bool) (E:List (Nd×AV×Nat)) (x:Nd) (U:St),AR O B M t Kb vf d full E U->KOk val d full E->DagOk d->InD d x->(full=true->8192<=d.length)->L<mlv d x->qg Tryz.prog GG 245 [.ptr O 0,.agg (qH x)] U (qe3 val O B M t Kb vf d full x U))
 (d:List Nd) (full:Bool) (E:List (Nd×AV×Nat)) (x:Nd) (U:St) (ha:AR O B M t Kb vf d full E U) (hk:KOk val d full E) (hd:DagOk d) (hx:InD d x) (hfl:full=true->8192<=d.length) (hL:mlv d x=L) :
 qg Tryz.prog GG 245 [.ptr O 0,.agg (qH x)] U (qe3 val O B M t Kb vf d full x U):=by
 refine qg.kO ⟨false,qkR,[],[]⟩ qe Tryz.func245 rfl (by kernel_rfl) ?_;obtain⟨H,T⟩:=U;have hB:=ha.br.b;have hO:=ha.o;obtain⟨clk,hK⟩:=ha.k;simp only at hB hO hK;have hwr:InD d x:=hx;have hle:=qej hd x;rw[hL]at hle;obtain⟨f,g,e⟩:=x;obtain⟨hfa,hga,hea⟩:=hx;simp only at hfa hga hea;obtain⟨nf,hnf⟩:∃ n,d[f]?=some n:=⟨_,qp8 hfa⟩;obtain⟨ng,hng⟩:∃ n,d[g]?=some n:=⟨_,qp8 hga⟩;obtain⟨ne,hne⟩:∃ n,d[e]?=some n:=⟨_,qp8 hea⟩;have hml:L<=lvD d f/\L<=lvD d g/\L<=lvD d e:=by rw[<- hL];unfold mlv;simp only;omega
 have hmin:qh9 (.int .i64 nf.1) (.int .i64 ng.1) (.int .i64 ne.1)=some (.int .i64 L):=by
  rw[<- hL];simp only[qh9,mlv,jG hnf,jG hng,jG hne];congr 2;omega
 cases full
 . simp[-getElem?_pos,qa hO,qa hB];rw[QP rfl];simp[-getElem?_pos,qa hO,qa hB,hnf,hng,hne,hmin];by_cases h20:L=20
   . subst h20;have two:∀ j,j<d.length->20<=lvD d j->∀ b,evD d b j=((j:Int)==1):=fun j hj hl b=>by
      have h2:=qnc hd hj (by have:=qie hd j;omega);rw[qcZ hd b (by omega)];rcases h2 with rfl|rfl<;>rfl
     simp[-getElem?_pos];rw[QP rfl];simp[-getElem?_pos,qa hO];refine qc.call (hv _ _ _) (by simp) ?_;have hval:∀ b,qg6 val d (f,g,e) b=val ((f:Int)==1) ((g:Int)==1) ((e:Int)==1):=fun b=>by
      unfold qg6;rw[two f hfa hml.1,two g hga hml.2.1,two e hea hml.2.2]
     have hAR:∀ u,AR O B M t Kb vf d false E ⟨H++u,T⟩:=fun u=>⟨⟨qa hB _,qa ha.br.m _,ha.br.t⟩,qa hO _,⟨clk,qa hK _⟩,ha.oK,ha.oB,ha.oM,ha.kB,ha.kM⟩
     simp[-getElem?_pos];have ht:=hd.two;refine⟨fun hh=>⟨d,false,E,1,rfl,hAR _,hk,KpL.app,q9.refl d,hd,by omega,id,hfl,fun _=>⟨by rw[lvD_1 hd];exact qej hd _,fun b=>by rw[qc0 hd,hval,hh]⟩⟩,
      fun hh=>⟨d,false,E,0,rfl,hAR _,hk,KpL.app,q9.refl d,hd,by omega,id,hfl,fun _=>⟨by rw[lvD_0 hd];exact qej hd _,fun b=>by rw[JN hd,hval,hh]⟩⟩⟩
   . have h20':¬ (L:Int)=20:=(by omega);have hAR:∀ u,AR O B M t Kb vf d false E ⟨H++u,T⟩:=fun u=>⟨⟨qa hB _,qa ha.br.m _,ha.br.t⟩,qa hO _,⟨clk,qa hK _⟩,ha.oK,ha.oB,ha.oM,ha.kB,ha.kM⟩
     have hfit:=qbG (f,g,e);simp[-getElem?_pos,h20'];rw[QP rfl];by_cases hin:(f,g,e)∈E.map (·.1)
     . obtain⟨q,hq,hqe⟩:=qqx.1 hin;obtain⟨j,hf1,hf2⟩:=Vx (n:=(f,g,e)) E 0 hk.keys q hq hqe;obtain⟨_,i,hi1,hi2,hi3⟩:=hk.ent q hq;have hlk:∀ (u:List Blk) (T:List (Option Nat)),zx (Dof Tryz.prog) ⟨H++u,T⟩ 262 (.map Kb) (.agg (qH (f,g,e))) true=some (.tup [.int .i64 i,.bool true]):=by
        intro u T;simp only[zx,D262,hfit,if_true];simp[-qH,qa hK,hf1,hi1]
       simp only[qH]at hlk;simp[-getElem?_pos,qa hO,hlk];rw[hqe]at hi3;exact⟨d,false,E,i,rfl,hAR _,hk,KpL.app,q9.refl d,hd,hi2,id,hfl,hi3⟩
     . have hfind:=ZR (n:=(f,g,e)) E 0 fun q hq hqe=>hin (qqx.2 ⟨q,hq,hqe⟩)
       have hlk:∀ (u:List Blk) (T:List (Option Nat)),zx (Dof Tryz.prog) ⟨H++u,T⟩ 262 (.map Kb) (.agg (qH (f,g,e))) true=some (.tup [.int .i64 0,.bool false]):=by
        intro u T;simp only[zx,D262,hfit,if_true];simp[-qH,qa hK,hfind,WW]
       simp only[qH]at hlk;simp[-getElem?_pos,qa hO,hlk];rw[qG rfl];simp[-getElem?_pos,qa hO,qM];have hz:∀ (H':List Blk) (d':List Nd) (full' one:Bool) (n:Nat),H'[B]?=some (.cells [.sl 3 (d'.map qH) (.chain t d'.length),.map M,.bool full']) ->
        zm ([.ptr B 0,.int .i64 n,.int .i64 L,.bool one].map (frz H' 8)) [frzB d' full',.int .i64 n,.int .i64 L,.bool one]:=fun H' d' full' one n hb=>by
        simp only[qqk,qqF,qcQ hb,wU,yP];exact zm.refl _
       have hL20:L<20:=(by omega);obtain⟨p1,p2,p3⟩:=ko hd hfa hL20 hml.1 false;obtain⟨q1,q2,q3⟩:=ko hd hga hL20 hml.2.1 false;obtain⟨r1,r2,r3⟩:=ko hd hea hL20 hml.2.2 false;refine qc.lent (ZW d false false f L hfa) rfl (hz _ d false false f (qa hB _)) ?_;simp[-getElem?_pos,qa hO,qM];refine qc.lent (ZW d false false g L hga) rfl (hz _ d false false g (qa hB _)) ?_;simp[-getElem?_pos,qa hO,qM];refine qc.lent (ZW d false false e L hea) rfl (hz _ d false false e (qa hB _)) ?_;simp[-getElem?_pos,qM,qV,zu,qv];have hlo:=ih d false E (vA d f L false,vA d g L false,vA d e L false) ⟨H++[.cells (qH (f,g,e))],T⟩ (hAR _) hk hd ⟨p1,q1,r1⟩ hfl (by unfold mlv;simp only;omega);simp only[qH]at hlo;refine qc.acall hlo ?_;rintro v ⟨H1,T1⟩ ⟨d1,full1,E1,i1,rfl,ha1,hk1,kp1,g1,hd1,hi1,hm1,hfl1,hs1⟩;have hB1:=ha1.br.b;have hO1:=ha1.o;simp only at hB1 hO1;have hBl:=(qp5.1 hB).1;have hMl:=(qp5.1 ha.br.m).1;have hKl:=(qp5.1 hK).1;simp only at hMl;have hX1:H1[H.length]?=some (.cells [.int .i64 f,.int .i64 g,.int .i64 e]):=kp1.2 _ _ (by simp) (by simp;omega);simp[-getElem?_pos,qM];rw[qG rfl];simp[-getElem?_pos,hO1,hX1,qM];obtain⟨u1,u2,u3⟩:=ko hd1 (qqn hfa g1.len) hL20 (by rw[g1.lv hfa];exact hml.1) true;obtain⟨v1,v2,v3⟩:=ko hd1 (qqn hga g1.len) hL20 (by rw[g1.lv hga];exact hml.2.1) true;obtain⟨w1,w2,w3⟩:=ko hd1 (qqn hea g1.len) hL20 (by rw[g1.lv hea];exact hml.2.2) true;refine qc.lent (ZW d1 full1 true f L (qqn hfa g1.len)) rfl (hz _ d1 full1 true f hB1) ?_;simp[-getElem?_pos,hO1,hX1,qM];refine qc.lent (ZW d1 full1 true g L (qqn hga g1.len)) rfl (hz _ d1 full1 true g hB1) ?_;simp[-getElem?_pos,hO1,hX1,qM];refine qc.lent (ZW d1 full1 true e L (qqn hea g1.len)) rfl (hz _ d1 full1 true e hB1) ?_;simp[-getElem?_pos,qM,qV,zu,qv];have hhi:=ih d1 full1 E1 (vA d1 f L true,vA d1 g L true,vA d1 e L true) ⟨H1,T1⟩ ha1 hk1 hd1 ⟨u1,v1,w1⟩ hfl1 (by unfold mlv;simp only;omega);simp only[qH]at hhi;refine qc.acall hhi ?_;rintro v ⟨H2,T2⟩ ⟨d2,full2,E2,i2,rfl,ha2,hk2,kp2,g2,hd2,hi2,hm2,hfl2,hs2⟩;have hB2:=ha2.br.b;have hO2:=ha2.o;simp only at hB2 hO2;have hBl1:=(qp5.1 hB1).1;have hX2:H2[H.length]?=some (.cells [.int .i64 f,.int .i64 g,.int .i64 e]):=kp2.2 _ _ hX1 (by simp;omega);have hff:full2=false->full1=false:=fun h=>by cases full1 with | true=>rw[hm2 rfl]at h;cases h | false=>rfl
       simp[-getElem?_pos,hO2,qM];have g12:=g1.len;have hnode:=qhY (lv:=L) (lo:=i1) (hi:=i2) ha2.br hd2 hL20 (qqn hi1 g2.len) hi2 hfl2
        (fun h=>by
          rw[g2.lv hi1];refine qqn ?_ (hs1 (hff h)).1;unfold mlv;simp only;omega)
        (fun h=>by
          refine qqn ?_ (hs2 h).1;unfold mlv;simp only;omega)
       refine qc.acall hnode ?_;rintro v ⟨H3,T3⟩ ⟨d3,full3,i3,rfl,hn,hs3⟩;obtain⟨clk2,hK2⟩:=ha2.k;simp only at hK2;have hB3:=hn.br.b;simp only at hB3;have hO3:H3[O]?=some (.cells [.ptr B 0,.fn vf [] [],.map Kb]):=hn.kp.2 _ _ hO2 (by simp[ha.oB,ha.oM]);have hK3:H3[Kb]?=some (.map (E2.map ndE) clk2):=hn.kp.2 _ _ hK2 (by simp[ha.kB,ha.kM]);have hX3:H3[H.length]?=some (.cells [.int .i64 f,.int .i64 g,.int .i64 e]):=hn.kp.2 _ _ hX2 (by simp;omega);obtain⟨E3,clk3,hup,hE1,hE2⟩:=upd_nd (Kb:=Kb) (E:=E2) (clk:=clk2) (f,g,e) (.int .i64 (i3:Nat)) hk2.keys;have hup3:=hup H3 T3 hK3;simp only[qH]at hup3;have hKl3:=(qp5.1 hK3).1;have hff3:full3=false->full2=false:=fun h=>by cases full2 with | true=>rw[hn.mono rfl]at h;cases h | false=>rfl
       have gg:q9 d d3:=(g1.trans g2).trans hn.gr;have hval:full3=false->L<=lvD d3 i3/\∀ b,evD d3 b i3=qg6 val d (f,g,e) b:=fun h=>by
        obtain⟨s1,s2⟩:=hs3 h;obtain⟨_,t2⟩:=hs2 (hff3 h);obtain⟨_,t1⟩:=hs1 (hff (hff3 h));refine⟨s1,fun b=>?_⟩;rw[s2 b]
        cases hb:b L with
        | false=>
         simp only[qqq,if_false];rw[hn.gr.ev hd2 b (qqn hi1 g2.len),g2.ev hd1 b hi1,t1 b];unfold qg6;simp only;rw[<- p3 b hb,<- q3 b hb,<- r3 b hb]
        | true=>
         simp only[if_true];rw[hn.gr.ev hd2 b hi2,t2 b];unfold qg6;simp only;rw[<- u3 b hb,<- v3 b hb,<- w3 b hb,g1.ev hd b hfa,g1.ev hd b hga,g1.ev hd b hea]
       have hk3:KOk val d3 full3 E2:=hk2.grown hd2 hn.gr hn.mono;have hk4:KOk val d3 full3 E3:=⟨hE1,fun q hq=>by
        rcases hE2 q hq with h|⟨h1,h2⟩
        . exact hk3.ent q h
        . refine⟨by rw[h1];exact hwr.grown gg,i3,h2,hn.lt,fun hf=>?_⟩;rw[h1,qa8 hwr gg,hL];obtain⟨z1,z2⟩:=hval hf;exact⟨z1,fun b=>by rw[z2 b,K8 hd hwr gg]⟩⟩
       simp[-getElem?_pos];rw[qG rfl];simp[-getElem?_pos,hO3,hX3,qM,hup3];refine⟨d3,full3,E3,i3,rfl,⟨⟨?_,?_,hn.br.t⟩,?_,⟨clk3,?_⟩,ha.oK,ha.oB,ha.oM,ha.kB,ha.kM⟩,hk4,?_,gg,hn.ok,hn.lt,?_,hn.fl,?_⟩
       . exact (qp7 ha.kB).trans hB3
       . exact (qp7 ha.kM).trans hn.br.m
       . exact (qp7 (Ne.symm ha.oK)).trans hO3
       . exact qqa hKl3
       . refine KpL.trans (KpL.trans (KpL.trans (KpL.trans KpL.app kp1) kp2) (hn.kp.sub ?_)) (KpL.set (by simp));intro b hb;simp only[qqv,qry,or_false]at hb ⊢;rcases hb with h|h
         . exact .inl h
         . exact .inr (.inl h)
       . intro h;cases h
       . intro h;rw[hL];exact hval h
 . simp[-getElem?_pos,qa hO,qa hB];refine⟨d,true,E,0,rfl,?_,hk,KpL.app,q9.refl d,hd,by have:=hd.two;omega,id,hfl,fun h=>by cases h⟩;exact⟨⟨qa hB _,qa ha.br.m _,ha.br.t⟩,qa hO _,⟨clk,qa hK _⟩,ha.oK,ha.oB,ha.oM,ha.kB,ha.kM⟩
theorem qjI {val:Bool->Bool->Bool->Bool}{O B M t Kb vf:Nat}(hv:∀ p q r,Pure Tryz.prog GG vf [.bool p,.bool q,.bool r] (.bool (val p q r))) :
 ∀ (n L:Nat),20-L<n->∀ (d:List Nd) (full:Bool) (E:List (Nd×AV×Nat)) (x:Nd) (U:St),AR O B M t Kb vf d full E U->KOk val d full E->DagOk d->InD d x->(full=true->8192<=d.length)->mlv d x=L ->
 qg Tryz.prog GG 245 [.ptr O 0,.agg (qH x)] U (qe3 val O B M t Kb vf d full x U):=by
 intro n
 induction n with
 | zero=>intro L h;omega
 | succ n ih=>
  intro L hLn d full E x U ha hk hd hx hfl hL;refine qgx hv L ?_ d full E x U ha hk hd hx hfl hL;intro d' full' E' x' U' ha' hk' hd' hx' hfl' hL';have:=qej hd' x';exact ih (mlv d' x') (by omega) d' full' E' x' U' ha' hk' hd' hx' hfl' rfl
theorem qmD {val:Bool->Bool->Bool->Bool}{O B M t Kb vf:Nat}(hv:∀ p q r,Pure Tryz.prog GG vf [.bool p,.bool q,.bool r] (.bool (val p q r)))
 (d:List Nd) (full:Bool) (E:List (Nd×AV×Nat)) (x:Nd) (U:St) (ha:AR O B M t Kb vf d full E U) (hk:KOk val d full E) (hd:DagOk d) (hx:InD d x) (hfl:full=true->8192<=d.length) :
 qg Tryz.prog GG 245 [.ptr O 0,.agg (qH x)] U (qe3 val O B M t Kb vf d full x U) :=
 qjI hv _ _ (Nat.lt_succ_self _) d full E x U ha hk hd hx hfl rfl
def qk0:List (Nat×Sch×List Nat):=[(4,.step 0 [13,12,11,10,9,8,7,3,2,1] (.step 1 [13,12,11,10,9,8,7,3,2] (.step 2 [13,12,11,10,9,8,7,3] (.step 4 [13,12,11,10,9,8,7,6] (.step 5 [13,12,11,10,9,8,7,6] (.fork (.cons 3 (.step 6 [13,12,11,10,9,8,7] (.step 7 [13,12,11,10,9,8] (.step 8 [13,12,11] (.step 9 [13,12,11] (.step 10 [13,12,11] (.step 11 [13,12] (.step 12 [13] (.step 13 [] (.done))))))))) (.cons 6 (.step 3 [13,12,11,10,9,8,7] (.step 7 [13,12,11,10,9,8] (.step 8 [13,12,11] (.step 9 [13,12,11] (.step 10 [13,12,11] (.step 11 [13,12] (.step 12 [13] (.step 13 [] (.done))))))))) (.nil)))))))),[6,7])]
def ExtQ (val:Bool->Bool->Bool->Bool)(d:List Nd)(x:Nd)(H:List Blk)(r:AV)(U':St):Prop :=
 KpL [] H U'.H/\(r=.tup [.agg [.sl 0 [] .nil],.int .i64 0,.int .i64 2] \/
  ∃ d' i t,r=.tup [.agg [.sl 3 (d'.map qH) (.chain t d'.length)],.int .i64 (i:Nat),.int .i64 0]/\q9 d d'/\DagOk d'/\i<d'.length/\mlv d x<=lvD d' i/\∀ b,evD d' b i=qg6 val d x b)
theorem vX {val:Bool->Bool->Bool->Bool}{vf:Nat}(hv:∀ p q r,Pure Tryz.prog GG vf [.bool p,.bool q,.bool r] (.bool (val p q r)))
 (d:List Nd) (hd:DagOk d) (x:Nd) (hx:InD d x) (H:List Blk) (T:List (Option Nat)) :
 qg Tryz.prog GG 179 [.agg (zT d),.agg (qH x),.fn vf [] []] ⟨H,T⟩ (ExtQ val d x H):=by
 refine qg.kO ⟨false,qk0,[],[]⟩ qe Tryz.func179 rfl (by kernel_rfl) ?_;obtain⟨f,g,e⟩:=x;have hx':=hx;obtain⟨hf,hg,he⟩:=hx;simp only at hf hg he;simp[-getElem?_pos,qk,qA];refine qc.less (qnl d hd [f,g,e] (by simp) (by simp;omega) .none) (by simp) (by simp only[zm];exact⟨Leq.refl _,Leq.sl (by simp),trivial⟩) ?_;simp[-getElem?_pos,unA];refine qc.acall (qeT d hd _ _) ?_;rintro v ⟨H1,T1⟩ ⟨B,M,t,rfl,hb,hk1,hB1,hM1⟩;have hX1:H1[H.length+1]?=some (.cells [.int .i64 f,.int .i64 g,.int .i64 e]):=hk1.2 _ _ (by rw[qqd (by omega)];simp) (by simp);have hkH:KpL [] H H1:=KpL.app.trans hk1;simp[-getElem?_pos,qV,zu,qv];rw[qG rfl];have hBm:=hb.b;have hMm:=hb.m;simp only at hBm hMm;have hBl:=(qp5.1 hBm).1;have hMl:=(qp5.1 hMm).1;have hAR:AR (H1.length+1) B M t H1.length vf d false [] ⟨H1++[.map [] 0,.cells [.ptr B 0,.fn vf [] [],.map H1.length]],T1⟩ :=
  ⟨⟨qa hBm _,qa hMm _,hb.t⟩,by show (H1++_)[_]?=_;rw[qqd (by omega)];simp,⟨0,by show (H1++_)[_]?=_;rw[qqd (by omega)];simp⟩,by omega,by omega,by omega,by omega,by omega⟩
 have hap:=qmD hv d false [] (f,g,e) _ hAR ⟨by simp,by simp⟩ hd hx' (by simp);simp only[qH]at hap;have hOb:(H1++[Blk.map [] 0,Blk.cells [AV.ptr B 0,AV.fn vf [] [],AV.map H1.length]])[H1.length+1]?=some (.cells [.ptr B 0,.fn vf [] [],.map H1.length]):=hAR.o;simp[-getElem?_pos,qa hX1,qM,hOb];have hR1:H1[H.length+2]?=some (.cells [.sl 0 [] .nil]):=hk1.2 _ _ (by rw[qqd (by omega)];simp[show H.length+2-H.length=2 by omega]) (by simp);have hRl:=(qp5.1 hR1).1;simp only[qqb,qqm,qqK]at hB1 hM1;refine⟨qc.acall hap ?_,qc.acall hap ?_⟩
 all_goals
  rintro v ⟨H2,T2⟩ ⟨d2,full2,E2,i2,rfl,ha2,hk2,kp2,g2,hd2,hi2,hm2,hfl2,hs2⟩;have hO2:=ha2.o;have hB2:=ha2.br.b;simp only at hO2 hB2;have hR2:H2[H.length+2]?=some (.cells [.sl 0 [] .nil]):=kp2.2 _ _ (qa hR1 _) (by simp;omega);have hkH2:KpL [] H H2:=⟨by have:=hkH.1;have:=kp2.1;simp at this;omega,fun k x hk _=>by
   have hkl:=(qp5.1 hk).1;exact kp2.2 _ _ (qa (hkH.2 k x hk (by simp)) _) (by simp;omega)⟩
  simp[-getElem?_pos,hO2,qM];refine qc.acall (qi4 ha2.br i2) ?_;rintro v ⟨H3,T3⟩ ⟨rfl,hk3,rfl⟩;have hR3:H3[H.length+2]?=some (.cells [.sl 0 [] .nil]):=hk3.2 _ _ hR2 (by simp);have hRl3:=(qp5.1 hR3).1;have hkH3:∀ y,KpL [] H (H3.set (H.length+2) y):=fun y=>(hkH2.trans hk3).setF (by omega)
  cases full2
  . simp[-getElem?_pos,hR3,hRl3,qM,qv];exact⟨hkH3 _,.inr ⟨d2,i2,t,rfl,g2,hd2,hi2,hs2 rfl⟩⟩
  . simp[-getElem?_pos,hR3,hRl3,qM,qv];exact⟨hkH3 _,.inl rfl⟩
theorem qnC (d:List Nd)(hd:DagOk d)(f g:Nat)(hf:f<d.length)(hg:g<d.length)(H:List Blk)(T:List (Option Nat)) :
 qg Tryz.prog GG 129 [.agg (zT d),.int .i64 f,.int .i64 g] ⟨H,T⟩ (ExtQ (fun p q r=>p&&q) d (f,g,g) H):=by
 refine qg.k qe Tryz.func129 rfl (by kernel_rfl) ?_;simp[-getElem?_pos,qV,zu,qv];have hex:=fun H T=>vX (val:=fun p q r=>p&&q) and289 d hd (f,g,g) ⟨hf,hg,hg⟩ H T
 simp only[qH,zT]at hex;refine qc.acall (hex _ _) ?_;rintro v ⟨H2,T2⟩ ⟨hk,hr⟩;have hR:H2[H.length+1]?=some (.cells [.sl 0 [] .nil]):=hk.2 _ _ (by rw[qqd (by omega)];simp) (by simp);have hRl:=(qp5.1 hR).1;have hkk:∀ y,KpL [] H (H2.set (H.length+1) y):=fun y=>(KpL.app.trans hk).setF (by omega)
 rcases hr with rfl|⟨d2,i2,t,rfl,g2,hd2,hi2,hs2⟩
 . simp[-getElem?_pos,hR,hRl,qM,qv];exact⟨hkk _,.inl rfl⟩
 . simp[-getElem?_pos,hR,hRl,qM,qv];exact⟨hkk _,.inr ⟨d2,i2,t,rfl,g2,hd2,hi2,hs2⟩⟩
theorem or416 (d:List Nd)(hd:DagOk d)(f g:Nat)(hf:f<d.length)(hg:g<d.length)(H:List Blk)(T:List (Option Nat)) :
 qg Tryz.prog GG 280 [.agg (zT d),.int .i64 f,.int .i64 g] ⟨H,T⟩ (ExtQ (fun p q r=>p||q) d (f,g,g) H):=by
 refine qg.k qe Tryz.func280 rfl (by kernel_rfl) ?_;simp[-getElem?_pos,qV,zu,qv];have hex:=fun H T=>vX (val:=fun p q r=>p||q) or454 d hd (f,g,g) ⟨hf,hg,hg⟩ H T
 simp only[qH,zT]at hex;refine qc.acall (hex _ _) ?_;rintro v ⟨H2,T2⟩ ⟨hk,hr⟩;have hR:H2[H.length+1]?=some (.cells [.sl 0 [] .nil]):=hk.2 _ _ (by rw[qqd (by omega)];simp) (by simp);have hRl:=(qp5.1 hR).1;have hkk:∀ y,KpL [] H (H2.set (H.length+1) y):=fun y=>(KpL.app.trans hk).setF (by omega)
 rcases hr with rfl|⟨d2,i2,t,rfl,g2,hd2,hi2,hs2⟩
 . simp[-getElem?_pos,hR,hRl,qM,qv];exact⟨hkk _,.inl rfl⟩
 . simp[-getElem?_pos,hR,hRl,qM,qv];exact⟨hkk _,.inr ⟨d2,i2,t,rfl,g2,hd2,hi2,hs2⟩⟩
theorem xor458 (d:List Nd)(hd:DagOk d)(f g:Nat)(hf:f<d.length)(hg:g<d.length)(H:List Blk)(T:List (Option Nat)) :
 qg Tryz.prog GG 317 [.agg (zT d),.int .i64 f,.int .i64 g] ⟨H,T⟩ (ExtQ (fun p q r=>p ^^ q) d (f,g,g) H):=by
 refine qg.k qe Tryz.func317 rfl (by kernel_rfl) ?_;simp[-getElem?_pos,qV,zu,qv];have hex:=fun H T=>vX (val:=fun p q r=>p ^^ q) xor468 d hd (f,g,g) ⟨hf,hg,hg⟩ H T
 simp only[qH,zT]at hex;refine qc.acall (hex _ _) ?_;rintro v ⟨H2,T2⟩ ⟨hk,hr⟩;have hR:H2[H.length+1]?=some (.cells [.sl 0 [] .nil]):=hk.2 _ _ (by rw[qqd (by omega)];simp) (by simp);have hRl:=(qp5.1 hR).1;have hkk:∀ y,KpL [] H (H2.set (H.length+1) y):=fun y=>(KpL.app.trans hk).setF (by omega)
 rcases hr with rfl|⟨d2,i2,t,rfl,g2,hd2,hi2,hs2⟩
 . simp[-getElem?_pos,hR,hRl,qM,qv];exact⟨hkk _,.inl rfl⟩
 . simp[-getElem?_pos,hR,hRl,qM,qv];exact⟨hkk _,.inr ⟨d2,i2,t,rfl,g2,hd2,hi2,hs2⟩⟩
theorem qjl (d:List Nd)(hd:DagOk d)(f g e:Nat)(hf:f<d.length)(hg:g<d.length)(he:e<d.length)(H:List Blk)(T:List (Option Nat)) :
 qg Tryz.prog GG 286 [.agg (zT d),.int .i64 f,.int .i64 g,.int .i64 e] ⟨H,T⟩ (ExtQ (fun p q r=>p&&q||!p&&r) d (f,g,e) H):=by
 refine qg.k qe Tryz.func286 rfl (by kernel_rfl) ?_;simp[-getElem?_pos,qV,zu,qv];have hex:=fun H T=>vX (val:=fun p q r=>p&&q||!p&&r) qjk d hd (f,g,e) ⟨hf,hg,he⟩ H T
 simp only[qH,zT]at hex;refine qc.acall (hex _ _) ?_;rintro v ⟨H2,T2⟩ ⟨hk,hr⟩;have hR:H2[H.length+1]?=some (.cells [.sl 0 [] .nil]):=hk.2 _ _ (by rw[qqd (by omega)];simp) (by simp);have hRl:=(qp5.1 hR).1;have hkk:∀ y,KpL [] H (H2.set (H.length+1) y):=fun y=>(KpL.app.trans hk).setF (by omega)
 rcases hr with rfl|⟨d2,i2,t,rfl,g2,hd2,hi2,hs2⟩
 . simp[-getElem?_pos,hR,hRl,qM,qv];exact⟨hkk _,.inl rfl⟩
 . simp[-getElem?_pos,hR,hRl,qM,qv];exact⟨hkk _,.inr ⟨d2,i2,t,rfl,g2,hd2,hi2,hs2⟩⟩
theorem not418 (d:List Nd)(hd:DagOk d)(f:Nat)(hf:f<d.length)(H:List Blk)(T:List (Option Nat)) :
 qg Tryz.prog GG 282 [.agg (zT d),.int .i64 f] ⟨H,T⟩ (ExtQ (fun p q r=>!p) d (f,f,f) H):=by
 refine qg.k qe Tryz.func282 rfl (by kernel_rfl) ?_;simp[-getElem?_pos,qV,zu,qv];have hex:=fun H T=>vX (val:=fun p q r=>!p) not456 d hd (f,f,f) ⟨hf,hf,hf⟩ H T
 simp only[qH,zT]at hex;refine qc.acall (hex _ _) ?_;rintro v ⟨H2,T2⟩ ⟨hk,hr⟩;have hR:H2[H.length+1]?=some (.cells [.sl 0 [] .nil]):=hk.2 _ _ (by rw[qqd (by omega)];simp) (by simp);have hRl:=(qp5.1 hR).1;have hkk:∀ y,KpL [] H (H2.set (H.length+1) y):=fun y=>(KpL.app.trans hk).setF (by omega)
 rcases hr with rfl|⟨d2,i2,t,rfl,g2,hd2,hi2,hs2⟩
 . simp[-getElem?_pos,hR,hRl,qM,qv];exact⟨hkk _,.inl rfl⟩
 . simp[-getElem?_pos,hR,hRl,qM,qv];exact⟨hkk _,.inr ⟨d2,i2,t,rfl,g2,hd2,hi2,hs2⟩⟩
def MakeQ (d:List Nd)(lv lo hi:Nat)(H:List Blk)(r:AV)(U':St):Prop :=
 KpL [] H U'.H/\(r=.tup [.agg [.sl 0 [] .nil],.int .i64 0,.int .i64 2] \/
  ∃ d' i t,r=.tup [.agg [.sl 3 (d'.map qH) (.chain t d'.length)],.int .i64 (i:Nat),.int .i64 0]/\q9 d d'/\DagOk d'/\i<d'.length/\lv<=lvD d' i/\∀ b,evD d' b i=evD d b (if b lv then hi else lo))
theorem qo1 (d:List Nd)(hd:DagOk d)(lv lo hi:Nat)(hlv:lv<20)(hlo:lo<d.length)(hhi:hi<d.length)(h1:lv<lvD d lo)(h2:lv<lvD d hi)(H:List Blk)(T:List (Option Nat)) :
 qg Tryz.prog GG 314 [.agg (zT d),.int .i64 lv,.int .i64 lo,.int .i64 hi] ⟨H,T⟩ (MakeQ d lv lo hi H):=by
 refine qg.k qe Tryz.func314 rfl (by kernel_rfl) ?_;obtain⟨a,hla⟩:∃ n,d[lo]?=some n:=⟨_,qp8 hlo⟩;obtain⟨c,hlc⟩:∃ n,d[hi]?=some n:=⟨_,qp8 hhi⟩;have hlt:¬ (min (a.1:Int) (c.1:Int)<=(lv:Int)):=by rw[jG hla]at h1;rw[jG hlc]at h2;omega
 have hlen:=hd.most;simp[-getElem?_pos,qk,qA];refine qc.less (qnl d hd [lo,hi] (by simp) (by simp;omega) .none) (by simp) (by simp only[zm];exact⟨Leq.refl _,Leq.sl (by simp),trivial⟩) ?_;simp[-getElem?_pos,unA];have hl1:(lv:Int)<20:=by omega
 refine qc.call (qfZ (lv:Int)) (by simp) ?_;have hmin:Qx (.int .i64 (a.1:Int)) (.int .i64 (c.1:Int))=some (.int .i64 (min (a.1:Int) (c.1:Int))):=by
  have:(if (c.1:Int)<(a.1:Int) then (c.1:Int) else (a.1:Int))=min (a.1:Int) (c.1:Int):=by split<;>omega
  simp only[Qx,this]
 generalize hmm:min (a.1:Int) (c.1:Int)=mm at hmin hlt;simp[-getElem?_pos,unA,hl1,hla,hlc,hmin,hlt];refine qc.acall (qeT d hd _ _) ?_;rintro v ⟨H1,T1⟩ ⟨B,M,t,rfl,hb,hk1,hB1,hM1⟩;simp[-getElem?_pos];simp only[qqb,qqm,qqK]at hB1 hM1;have hR1:H1[H.length+1]?=some (.cells [.sl 0 [] .nil]):=hk1.2 _ _ (by rw[qqd (by omega)];simp) (by simp);have hkH:KpL [] H H1:=KpL.app.trans hk1;refine qc.acall (qhY hb hd hlv hlo hhi (by simp) (fun _=>h1) (fun _=>h2)) ?_;rintro v ⟨H2,T2⟩ ⟨d2,full2,i2,rfl,hn,hs2⟩;have hR2:H2[H.length+1]?=some (.cells [.sl 0 [] .nil]):=hn.kp.2 _ _ hR1 (by simp;omega);have hkH2:KpL [] H H2:=⟨by have:=hkH.1;have:=hn.kp.1;simp at this;omega,fun k x hk _=>by
  have hkl:=(qp5.1 hk).1;exact hn.kp.2 _ _ (hkH.2 k x hk (by simp)) (by simp;omega)⟩
 simp[-getElem?_pos,qM];refine qc.acall (qi4 hn.br i2) ?_;rintro v ⟨H3,T3⟩ ⟨rfl,hk3,rfl⟩;have hR3:H3[H.length+1]?=some (.cells [.sl 0 [] .nil]):=hk3.2 _ _ hR2 (by simp);have hRl3:=(qp5.1 hR3).1;have hkH3:∀ y,KpL [] H (H3.set (H.length+1) y):=fun y=>(hkH2.trans hk3).setF (by omega)
 cases full2
 . simp[-getElem?_pos,hR3,hRl3,qM,qv];exact⟨hkH3 _,.inr ⟨d2,i2,t,rfl,hn.gr,hn.ok,hn.lt,(hs2 rfl).1,fun b=>by rw[(hs2 rfl).2 b];exact hn.gr.ev hd b (by split<;>assumption)⟩⟩
 . simp[-getElem?_pos,hR3,hRl3,qM,qv];exact⟨hkH3 _,.inl rfl⟩
theorem bit417 (d:List Nd)(hd:DagOk d)(lv:Nat)(hlv:lv<20)(H:List Blk)(T:List (Option Nat)) :
 qg Tryz.prog GG 281 [.agg (zT d),.int .i64 lv] ⟨H,T⟩ (MakeQ d lv 0 1 H):=by
 refine qg.k qe Tryz.func281 rfl (by kernel_rfl) ?_;simp[-getElem?_pos,qV,zu,qv];have ht:=hd.two;have hex:=fun H T=>qo1 d hd lv 0 1 hlv (by omega) (by omega) (by rw[lvD_0 hd];exact hlv) (by rw[lvD_1 hd];exact hlv) H T
 simp only[zT,Int.ofNat_zero,Int.ofNat_one,qrz,qtu]at hex;refine qc.acall (hex _ _) ?_;rintro v ⟨H2,T2⟩ ⟨hk,hr⟩;have hR:H2[H.length+1]?=some (.cells [.sl 0 [] .nil]):=hk.2 _ _ (by rw[qqd (by omega)];simp) (by simp);have hRl:=(qp5.1 hR).1;have hkk:∀ y,KpL [] H (H2.set (H.length+1) y):=fun y=>(KpL.app.trans hk).setF (by omega)
 rcases hr with rfl|⟨d2,i2,t,rfl,g2,hd2,hi2,hs2⟩
 . simp[-getElem?_pos,hR,hRl,qM,qv];exact⟨hkk _,.inl rfl⟩
 . simp[-getElem?_pos,hR,hRl,qM,qv];exact⟨hkk _,.inr ⟨d2,i2,t,rfl,g2,hd2,hi2,hs2⟩⟩
end Go.Proofs.YtoibbcnfhhggnaaGreatDoor
end
section
namespace Go.Proofs.YtoibbcnfhhggnaaGreatDoor
open Go Go.Abs Go.RowKit
section
theorem kx {P:Program}{G:Glo}{o:Opts}{env:Env}{U:St}{ks:List Fr}{Q:Exit->Env->St->Prop}(n:Nat)(J:Nat->Env->St->Prop){c:Code}(h0:J 0 env U)
 (hs:∀ i env U (R:Env->St->Prop),(∀ env U,J (i+1) env U->R env U)->i<n->J i env U->kC P G o c env U (.loop R::ks) Q)
 (he:∀ env U,J n env U->kC P G o c env U (.loop (fun _ _=>False)::ks) Q) (hp:jY c=true:=by rfl):qL P G o c env U ks Q :=
 qL.count n J h0 (fun i env U h1 hJ=>hs i env U _ (fun _ _ h=>h) h1 hJ) he hp
structure Bc where
 B:Nat
 M:Nat
 rest:List AV
 mp:Blk
 H0:List Blk
abbrev XG (c:Bc):Glo:=⟨GG,fun cs τ=>cs=[{ v:=.iface 248 (.agg #[.int .i64 2]),recovered:=false }]/\KpL [c.B] c.H0 τ.H⟩
structure BX (c:Bc)(E:List Blk)(d:List Nd)(H:List Blk):Prop where
 b:∃ tok,H[c.B]?=some (.cells (.sl 3 (d.map qH) tok::c.rest))
 m:H[c.M]?=some c.mp
 ok:DagOk d
 kp0:KpL [c.B] c.H0 H
 kp:KpL [c.B] E H
 ne:c.M≠c.B
 b0:c.B<E.length
 m0:c.M<E.length
 h0:c.H0.length<=E.length
section
variable {c:Bc}{E H H':List Blk}{d d':List Nd}{U U':St}{T T':List (Option Nat)}
theorem BX.app (h:BX c E d H)(u:List Blk):BX c E d (H++u):=by
 obtain⟨tok,hb⟩:=h.b;exact⟨⟨tok,qa hb _⟩,qa h.m _,h.ok,h.kp0.trans KpL.app,h.kp.trans KpL.app,h.ne,h.b0,h.m0,h.h0⟩
theorem BX.set (h:BX c E d H){k:Nat}(hk:E.length<=k)(y:Blk):BX c E d (H.set k y):=by
 obtain⟨tok,hb⟩:=h.b;have:=h.b0;have:=h.m0;have:=h.h0;exact⟨⟨tok,by rw[qp7 (by omega)];exact hb⟩,by rw[qp7 (by omega)];exact h.m,h.ok,h.kp0.setF (by omega),h.kp.setF hk,h.ne,h.b0,h.m0,h.h0⟩
theorem BX.self (h:BX c E d H):BX c H d H:=⟨h.b,h.m,h.ok,h.kp0,KpL.refl,h.ne,qqn h.b0 h.kp.1,qqn h.m0 h.kp.1,qq9 h.h0 h.kp.1⟩
theorem BX.same (h:BX c E d H)(hk:KpL [] H H'):BX c E d H':=by
 obtain⟨tok,hb⟩:=h.b;exact⟨⟨tok,hk.2 _ _ hb (by simp)⟩,hk.2 _ _ h.m (by simp),h.ok,h.kp0.trans (hk.sub (by simp)),h.kp.trans (hk.sub (by simp)),h.ne,h.b0,h.m0,h.h0⟩
theorem BX.call (h:BX c E d H)(h':BX c H d' H'):BX c E d' H':=⟨h'.b,h'.m,h'.ok,h'.kp0,h.kp.trans h'.kp,h.ne,h.b0,h.m0,h.h0⟩
theorem BX.at (h:BX c E d H){k:Nat}(hk:E.length<=k):k≠c.B/\k≠c.M:=by have:=h.b0;have:=h.m0;omega
theorem BX.loc (h:BX c H d H'){k:Nat}{x:Blk}(hx:H[k]?=some x)(hk:k≠c.B):H'[k]?=some x:=h.kp.2 _ _ hx (by simpa using hk)
end
theorem wz (c:Bc){H:List Blk}{T:List (Option Nat)}{Q:AV->St->Prop}(hk:KpL [c.B] c.H0 H)(b:Nat)(n:Int) :
 qg Tryz.prog (XG c) 279 [.ptr b 0,.agg [.sl 0 [] .nil],.int .i64 n,.int .i64 2] ⟨H,T⟩ Q:=by
 refine⟨by kernel_rfl,fun w0 ro0 K w vs hw hvs=>?_⟩;simp only[qh,qf]at hvs;obtain⟨v1,r1,e1,⟨B,hB,rfl⟩,v2,r2,rfl,⟨cs,rfl,v3,r3,e3,hsl,rfl⟩,v4,r4,rfl,rfl,v5,r5,rfl,rfl,rfl⟩:=hvs;have hv3:qf K (.sl 0 [] .nil) v3:=by simp only[qf];exact hsl
 clear hsl;have evs:vs = #[.pointer (some ⟨B,0,none⟩),.agg cs,.int .i64 n,.int .i64 2]:=by apply Array.ext';simpa using e1
 have ecs:cs = #[v3]:=by apply Array.ext';simpa using e3
 subst evs ecs
 go_enter Tryz.func279,Tryz.ntmps279
 go_wp2
 simp only[bodyPost];have hw3:=hw.push (b:=.cells [.sl 0 [] .nil]) (o:=.cells #[v3] 135) ⟨#[v3],135,rfl,by simp,by simp,fun i a e=>by
  cases i with
  | zero=>simp at e;subst e;exact⟨_,rfl,hv3.mono (Kn.le_addM hw w.heap.size (jn (.cells #[v3] 135)))⟩
  | succ i=>simp at e⟩
 refine⟨trivial,.inr ⟨_,rfl,_,_,Kn.le_addM hw w.heap.size (jn (.cells #[v3] 135)),hw3,rfl,?_⟩⟩;exact hk.trans KpL.app
theorem ZU (c:Bc){E H:List Blk}{T:List (Option Nat)}{d d':List Nd}(h:BX c E d H)(hd:DagOk d')(i:Nat)(tok:Tok) :
 qg Tryz.prog (XG c) 279 [.ptr c.B 0,.agg [.sl 3 (d'.map qH) tok],.int .i64 i,.int .i64 0] ⟨H,T⟩ (fun r U'=>r=.int .i64 i/\BX c E d' U'.H):=by
 refine qg.k qe Tryz.func279 rfl (by kernel_rfl) ?_;obtain⟨t0,hb⟩:=h.b;have hbl:=(qp5.1 hb).1;simp[-getElem?_pos,qa hb,yO hb];have:=h.b0;have:=h.h0;have:=h.ne;exact⟨⟨tok,qa (qqa hbl) _⟩,qa (by rw[qp7 (Ne.symm h.ne)];exact h.m) _,hd,(h.kp0.trans (KpL.set (by simp))).trans KpL.app,(h.kp.trans (KpL.set (by simp))).trans KpL.app,h.ne,h.b0,h.m0,h.h0⟩
end
end Go.Proofs.YtoibbcnfhhggnaaGreatDoor
end
section
namespace Go.Proofs.YtoibbcnfhhggnaaGreatDoor
open Go Go.Abs
def NQ (c:Bc)(d:List Nd)(H:List Blk)(v:(Nat->Bool)->Bool)(r:AV)(U':St):Prop :=
 ∃ d' i,r=.int .i64 (i:Nat)/\BX c H d' U'.H/\q9 d d'/\i<d'.length/\∀ b,evD d' b i=v b
theorem QF (c:Bc){d:List Nd}{H:List Blk}{T:List (Option Nat)}(h:BX c H d H){f:Nat}(hf:f<d.length) :
 qg Tryz.prog (XG c) 233 [.ptr c.B 0,.int .i64 f] ⟨H,T⟩ (NQ c d H fun b=>!evD d b f):=by
 refine qg.k qe Tryz.func233 rfl (by kernel_rfl) ?_;obtain⟨t0,hb⟩:=h.b;simp[-getElem?_pos,hb];refine qc.acall ((not418 d h.ok f hf _ _).leq (args:=[.agg [.sl 3 (d.map qH) t0],.int .i64 f]) (by simp[zm,Leq,j6.refl])).glo ?_;rintro v ⟨H2,T2⟩ ⟨hk,rfl|⟨d2,i2,t2,rfl,g2,hd2,hi2,hm2,hs2⟩⟩
 . simp[-getElem?_pos];exact qc.acall (wz c (Q:=fun _ _=>False) (h.same hk).kp0 _ _) fun _ _ h=>h.elim
 . simp[-getElem?_pos];refine qc.acall (ZU c (h.same hk) hd2 i2 _) ?_;rintro v ⟨H3,T3⟩ ⟨rfl,hx⟩;simp[-getElem?_pos];exact⟨d2,i2,rfl,hx,g2,hi2,fun b=>by rw[hs2 b];rfl⟩
theorem QH (c:Bc){d:List Nd}{H:List Blk}{T:List (Option Nat)}(h:BX c H d H){f g:Nat}(hf:f<d.length)(hg:g<d.length) :
 qg Tryz.prog (XG c) 285 [.ptr c.B 0,.int .i64 f,.int .i64 g] ⟨H,T⟩ (NQ c d H fun b=>evD d b f&&evD d b g):=by
 refine qg.k qe Tryz.func285 rfl (by kernel_rfl) ?_;obtain⟨t0,hb⟩:=h.b;simp[-getElem?_pos,hb];refine qc.acall ((qnC d h.ok f g hf hg _ _).leq (args:=[.agg [.sl 3 (d.map qH) t0],.int .i64 f,.int .i64 g]) (by simp[zm,Leq,j6.refl])).glo ?_;rintro v ⟨H2,T2⟩ ⟨hk,rfl|⟨d2,i2,t2,rfl,g2,hd2,hi2,hm2,hs2⟩⟩
 . simp[-getElem?_pos];exact qc.acall (wz c (Q:=fun _ _=>False) (h.same hk).kp0 _ _) fun _ _ h=>h.elim
 . simp[-getElem?_pos];refine qc.acall (ZU c (h.same hk) hd2 i2 _) ?_;rintro v ⟨H3,T3⟩ ⟨rfl,hx⟩;simp[-getElem?_pos];exact⟨d2,i2,rfl,hx,g2,hi2,fun b=>by rw[hs2 b];rfl⟩
theorem qaX (c:Bc){d:List Nd}{H:List Blk}{T:List (Option Nat)}(h:BX c H d H){f g:Nat}(hf:f<d.length)(hg:g<d.length) :
 qg Tryz.prog (XG c) 229 [.ptr c.B 0,.int .i64 f,.int .i64 g] ⟨H,T⟩ (NQ c d H fun b=>evD d b f||evD d b g):=by
 refine qg.k qe Tryz.func229 rfl (by kernel_rfl) ?_;obtain⟨t0,hb⟩:=h.b;simp[-getElem?_pos,hb];refine qc.acall ((or416 d h.ok f g hf hg _ _).leq (args:=[.agg [.sl 3 (d.map qH) t0],.int .i64 f,.int .i64 g]) (by simp[zm,Leq,j6.refl])).glo ?_;rintro v ⟨H2,T2⟩ ⟨hk,rfl|⟨d2,i2,t2,rfl,g2,hd2,hi2,hm2,hs2⟩⟩
 . simp[-getElem?_pos];exact qc.acall (wz c (Q:=fun _ _=>False) (h.same hk).kp0 _ _) fun _ _ h=>h.elim
 . simp[-getElem?_pos];refine qc.acall (ZU c (h.same hk) hd2 i2 _) ?_;rintro v ⟨H3,T3⟩ ⟨rfl,hx⟩;simp[-getElem?_pos];exact⟨d2,i2,rfl,hx,g2,hi2,fun b=>by rw[hs2 b];rfl⟩
theorem qai (c:Bc){d:List Nd}{H:List Blk}{T:List (Option Nat)}(h:BX c H d H){f g:Nat}(hf:f<d.length)(hg:g<d.length) :
 qg Tryz.prog (XG c) 288 [.ptr c.B 0,.int .i64 f,.int .i64 g] ⟨H,T⟩ (NQ c d H fun b=>evD d b f ^^ evD d b g):=by
 refine qg.k qe Tryz.func288 rfl (by kernel_rfl) ?_;obtain⟨t0,hb⟩:=h.b;simp[-getElem?_pos,hb];refine qc.acall ((xor458 d h.ok f g hf hg _ _).leq (args:=[.agg [.sl 3 (d.map qH) t0],.int .i64 f,.int .i64 g]) (by simp[zm,Leq,j6.refl])).glo ?_;rintro v ⟨H2,T2⟩ ⟨hk,rfl|⟨d2,i2,t2,rfl,g2,hd2,hi2,hm2,hs2⟩⟩
 . simp[-getElem?_pos];exact qc.acall (wz c (Q:=fun _ _=>False) (h.same hk).kp0 _ _) fun _ _ h=>h.elim
 . simp[-getElem?_pos];refine qc.acall (ZU c (h.same hk) hd2 i2 _) ?_;rintro v ⟨H3,T3⟩ ⟨rfl,hx⟩;simp[-getElem?_pos];exact⟨d2,i2,rfl,hx,g2,hi2,fun b=>by rw[hs2 b];rfl⟩
theorem qjm (c:Bc){d:List Nd}{H:List Blk}{T:List (Option Nat)}(h:BX c H d H){f g e:Nat}(hf:f<d.length)(hg:g<d.length)(he:e<d.length) :
 qg Tryz.prog (XG c) 240 [.ptr c.B 0,.int .i64 f,.int .i64 g,.int .i64 e] ⟨H,T⟩ (NQ c d H fun b=>evD d b f&&evD d b g||!evD d b f&&evD d b e):=by
 refine qg.k qe Tryz.func240 rfl (by kernel_rfl) ?_;obtain⟨t0,hb⟩:=h.b;simp[-getElem?_pos,hb];refine qc.acall ((qjl d h.ok f g e hf hg he _ _).leq (args:=[.agg [.sl 3 (d.map qH) t0],.int .i64 f,.int .i64 g,.int .i64 e]) (by simp[zm,Leq,j6.refl])).glo ?_;rintro v ⟨H2,T2⟩ ⟨hk,rfl|⟨d2,i2,t2,rfl,g2,hd2,hi2,hm2,hs2⟩⟩
 . simp[-getElem?_pos];exact qc.acall (wz c (Q:=fun _ _=>False) (h.same hk).kp0 _ _) fun _ _ h=>h.elim
 . simp[-getElem?_pos];refine qc.acall (ZU c (h.same hk) hd2 i2 _) ?_;rintro v ⟨H3,T3⟩ ⟨rfl,hx⟩;simp[-getElem?_pos];exact⟨d2,i2,rfl,hx,g2,hi2,fun b=>by rw[hs2 b];rfl⟩
section
section
variable {k:IntKind}{a b:Int}
theorem qaZ:zQ .add k a b=some (.int k (k.wrap (a+b))):=rfl
theorem qhQ:zQ .sub k a b=some (.int k (k.wrap (a-b))):=rfl
theorem op_mul:zQ .mul k a b=some (.int k (k.wrap (a*b))):=rfl
theorem qd8:zQ .lss k a b=some (.bool (decide (a<b))):=rfl
theorem qm6:zQ .gtr k a b=some (.bool (decide (a > b))):=rfl
theorem qaY:zQ .eql k a b=some (.bool (a==b)):=rfl
theorem qhR:zQ .neq k a b=some (.bool (a != b)):=rfl
end
def qu (w:List Nat):List AV:=w.map fun (n:Nat)=>.int .i64 (n:Int)
@[simp]theorem jt (w:List Nat):(qu w).length=w.length:=by simp[qu]
@[simp]theorem encW_atom (w:List Nat):(qu w).all AV.atom=true:=by simp[qu]
@[simp]theorem qpz:∀ (w:List Nat),qq (qu w)=true
 | []=>rfl
 | a::r=>by simp only[qu,qqk,qq,qC,qrm];exact qpz r
@[simp]theorem encW_fin1 (H:List Blk)(w:List Nat):(qu w).map (kv H)=qu w:=by simp[qu]
theorem yR (w:List Nat)(i n:Nat):(qu w).set i (.int .i64 (n:Int))=qu (w.set i n):=by simp[qu,List.map_set]
theorem zS {w:List Nat}{i x:Nat}(h:w[i]?=some x):(qu w).drop i=.int .i64 (x:Int)::(qu w).drop (i+1):=by
 have hl:i<(qu w).length:=by rw[jt];exact (qp5.1 h).1
 rw[qqt hl];congr 1;obtain⟨_,h2⟩:=qp5.1 h;simp[qu,h2]
theorem qm {w:List Nat}(h:w.length=16):(qu w).take 16=qu w:=qqg (by simp[h])
theorem qot:∀ (new Z:List AV),Z.length=new.length->zt Z 0 new=new:=fun new Z h=>by
 have:=wK new Z [] h;simpa using this
theorem zl {w:List Nat}(h:w.length=16){Z:List AV}(hZ:Z.length=16):zt Z 0 (qu w)=qu w:=qot _ _ (by simp[h,hZ])
theorem jP (w:List Nat):qK (.agg (qu w))=some (qu w):=by simp
section
variable {α:Type}{H t:List α}{p q r s u v:α}
theorem lk0:(H++p::t)[H.length]?=some p:=by rw[qqd (qqf _),qrl];rfl
theorem lk1:(H++p::q::t)[H.length+1]?=some q:=by rw[qqd (by omega),qq2];rfl
theorem lk2:(H++p::q::r::t)[H.length+2]?=some r:=by rw[qqd (by omega),qq2];rfl
theorem lk3:(H++p::q::r::s::t)[H.length+3]?=some s:=by rw[qqd (by omega),qq2];rfl
theorem lk4:(H++p::q::r::s::u::t)[H.length+4]?=some u:=by rw[qqd (by omega),qq2];rfl
end
def zb:List Nat:=List.replicate 16 0
theorem qO:zb.length=16:=rfl
theorem kI {d:List Nd}(h:DagOk d):qZ d zb:=⟨rfl,fun i hi=>by rw[zb,qrF]at hi;rw[hi.2];have:=h.two;omega⟩
theorem jy : [AV.int .i64 0,.int .i64 0,.int .i64 0,.int .i64 0,.int .i64 0,.int .i64 0,.int .i64 0,.int .i64 0,.int .i64 0,.int .i64 0,.int .i64 0,.int .i64 0,.int .i64 0,.int .i64 0,.int .i64 0,.int .i64 0]=qu zb:=rfl
theorem yV {d:List Nd}(h:DagOk d)(b:Nat->Bool)(k:Nat):qn d b zb k=false:=by
 unfold qn;have:zb.getD k 0=0:=by
  simp only[zb,qqh,qsr];split<;>rfl
 rw[this,JN h]
def WQ (c:Bc)(d:List Nd)(H:List Blk)(v:(Nat->Bool)->Int)(r:AV)(U':St):Prop :=
 ∃ d' W,r=.agg (qu W)/\BX c H d' U'.H/\q9 d d'/\qZ d' W/\∀ b,zU d' b W=v b
def BQ (c:Bc)(d:List Nd)(H:List Blk)(v:(Nat->Bool)->Nat->Bool)(r:AV)(U':St):Prop :=
 ∃ d' W,r=.agg (qu W)/\BX c H d' U'.H/\q9 d d'/\qZ d' W/\∀ b k,k<16->qn d' b W k=v b k
theorem qZ.get {d:List Nd}{w:List Nat}(h:qZ d w){k:Nat}(hk:k<16):∃ x,w[k]?=some x/\x<d.length/\w.getD k 0=x/\∀ b,qn d b w k=evD d b x:=by
 have hl:k<w.length:=by rw[h.1];exact hk
 refine⟨w[k],qp8 hl,h.2 _ (qsm hl),by simp[List.getD,hl],fun b=>by simp[qn,List.getD,hl]⟩
theorem qZ.set {d:List Nd}{w:List Nat}(h:qZ d w){k x:Nat}(hx:x<d.length):qZ d (w.set k x):=⟨by simp[h.1],fun i hi=>by
 rcases qrU hi with hi|rfl
 . exact h.2 i hi
 . exact hx⟩
theorem wF {d:List Nd}{w:List Nat}{k x j:Nat}{b:Nat->Bool}(hk:k<w.length):qn d b (w.set k x) j=if j=k then evD d b x else qn d b w j:=by
 unfold qn;by_cases h:j=k
 . subst h;simp[List.getD,hk]
 . simp[List.getD,qp7 (Ne.symm h),h]
section
variable {c:Bc}{d:List Nd}{H:List Blk}{T:List (Option Nat)}
theorem ZC (h:BX c H d H){X:List Nat}(hX:qZ d X) :
 qg Tryz.prog (XG c) 234 [.ptr c.B 0,.agg (qu X)] ⟨H,T⟩ (BQ c d H fun b k=>!qn d b X k):=by
 refine qg.k qe Tryz.func234 rfl (by kernel_rfl) ?_;simp[-getElem?_pos,jP];refine kx 16 (fun i ev U=>ev 0=.ptr c.B 0/\ev 3=.ptr H.length 0/\ev 4=.ptr (H.length+1) 0/\ev 6=.int .i64 (i:Int) /\
  ∃ d' W,BX c H d' U.H/\q9 d d'/\qZ d' W/\U.H[H.length]?=some (.cells (qu W))/\(∃ Z,Z.length=16/\U.H[H.length+1]?=some (.cells Z))/\∀ b k,k<16->qn d' b W k=if k<i then !qn d b X k else qn d b X k) ?_ ?_ ?_
 . refine⟨by simp,by simp,by simp,by simp,d,X,(h.app _),q9.refl d,hX,by simp,⟨_,rfl,by simp;rfl⟩,fun b k hk=>by simp⟩
 . rintro i ev ⟨H1,T1⟩ R hR hi ⟨e0,e3,e4,e6,d1,W,hx,hg,hW,hH,⟨Z,hZ,hH2⟩,hb⟩;obtain⟨x,hx1,hx2,hx3,hx4⟩:=hW.get hi;simp only at hx hH hH2;have hWl:=hW.1;have hi':(i:Int)<16:=(by omega);have hi1:i+1<=16:=hi;have hdr:=zS hx1;have hw:=wr (n:=(i:Int)+1) (by omega) (by omega);simp[-getElem?_pos,e0,e3,e4,e6,hi',hi,hi1,hH,hWl,hdr];refine qc.acall (QF c hx.self hx2) ?_;rintro v ⟨H2,T2⟩ ⟨d2,y,rfl,hxx,hg2,hy,hv⟩;dsimp only at hv;have hx2':=hx.call hxx;have hH2':=hxx.loc hH (h.at (qqf _)).1;have hHl:=(qp5.1 hH2').1;have hZ2:=hxx.loc hH2 (h.at (by omega)).1;simp[-getElem?_pos,e0,e3,e4,e6,hi',hi,hi1,hH2',hWl,yR,hw];refine hR _ _ ⟨by simp[e0],by simp[e3],by simp[e4],by simp,d2,W.set i y,hx2'.set (qqf _) _,hg.trans hg2,(hW.grown hg2).set hy,by simp[hHl],⟨Z,hZ,by rw[qp7 (by omega)];exact hZ2⟩,fun b k hk=>?_⟩;rw[wF (by omega)];by_cases hki:k=i
   . subst hki;have:=hb b k hk;rw[hx4,if_neg (by omega)]at this;rw[if_pos rfl,if_pos (by omega),hv,this]
   . rw[if_neg hki,zI hx.ok hg2 hW b hk,hb b k hk];by_cases hk2:k<i
     . rw[if_pos hk2,if_pos (by omega)]
     . rw[if_neg hk2,if_neg (by omega)]
 . rintro ev ⟨H1,T1⟩ ⟨e0,e3,e4,e6,d1,W,hx,hg,hW,hH,⟨Z,hZ,hH2⟩,hb⟩;simp only at hx hH hH2;have hWl:=hW.1;have hHl:=(qp5.1 hH2).1;simp[-getElem?_pos,e0,e3,e4,e6,hH,hH2,hWl,qm hWl,zl hWl hZ,hZ,hHl];refine⟨d1,W,rfl,hx.set (by omega) _,hg,hW,fun b k hk=>by rw[hb b k hk,if_pos hk]⟩
end
end
section
section
variable {c:Bc}{d:List Nd}{H:List Blk}{T:List (Option Nat)}
theorem qZ.getG {d d':List Nd}{w:List Nat}(h:qZ d w)(hd:DagOk d)(hg:q9 d d'){k:Nat}(hk:k<16):∃ x,w[k]?=some x/\x<d'.length/\∀ b,evD d' b x=qn d b w k:=by
 obtain⟨x,h1,h2,h3,h4⟩:=h.get hk;exact⟨x,h1,qqn h2 hg.len,fun b=>by rw[hg.ev hd b h2,h4 b]⟩
theorem Qd (h:BX c H d H){X:List Nat}(hX:qZ d X) :
 qg Tryz.prog (XG c) 177 [.ptr c.B 0,.agg (qu X)] ⟨H,T⟩ (NQ c d H fun b=>ZG (qn d b X) 16):=by
 refine qg.k qe Tryz.func177 rfl (by kernel_rfl) ?_;have hXl:=hX.1;simp[-getElem?_pos,jP,hXl,qm hXl];refine kx 16 (fun i ev U=>ev 0=.ptr c.B 0/\ev 8=.agg (qu X)/\ev 9=.int .i64 (i:Int) /\
  ∃ d' t,ev 5=.int .i64 (t:Nat)/\BX c H d' U.H/\q9 d d'/\t<d'.length/\∀ b,evD d' b t=ZG (qn d b X) i) ?_ ?_ ?_
 . exact⟨by simp,by simp,by simp,d,0,by simp,h.app _,q9.refl d,by have:=h.ok.two;omega,fun b=>JN h.ok b⟩
 . rintro i ev ⟨H1,T1⟩ R hR hi ⟨e0,e8,e9,d1,t,e5,hx,hg,ht,hv⟩;obtain⟨x,hx1,hx2,hx3⟩:=hX.getG h.ok hg hi;have hi':(i:Int)<16:=(by omega);have hi1:i+1<=16:=hi;have hw:=wr (n:=(i:Int)+1) (by omega) (by omega);simp[-getElem?_pos,e0,e5,e8,e9,hi',hi,hi1,hXl,zS hx1];refine qc.acall (qaX c hx.self ht hx2) ?_;rintro v ⟨H2,T2⟩ ⟨d2,y,rfl,hxx,hg2,hy,hv2⟩;dsimp only at hv2;simp[-getElem?_pos,e0,e5,e8,e9,hw];exact hR _ _ ⟨by simp[e0],by simp[e8],by simp,d2,y,by simp,hx.call hxx,hg.trans hg2,hy,fun b=>by rw[hv2,hv,hx3];rfl⟩
 . rintro ev ⟨H1,T1⟩ ⟨e0,e8,e9,d1,t,e5,hx,hg,ht,hv⟩;simp[-getElem?_pos,e0,e5,e8,e9];exact⟨d1,t,rfl,hx,hg,ht,hv⟩
theorem qjM (n i:Nat)(hn:n<2 ^ 63):zQ .and .i64 ((n:Int).fdiv (2 ^ i)) 1=some (.int .i64 ((if n.testBit i=true then 1 else 0:Nat):Int)):=by
 have h1:((n:Int).fdiv (2 ^ i))=((n / 2 ^ i:Nat):Int):=by rw[qsf _ (Int.pow_nonneg (by omega))];simp
 have h2:n / 2 ^ i<2 ^ 64:=by have:=qs1 n (2 ^ i);omega
 have h3:n / 2 ^ i % 2=if n.testBit i=true then 1 else 0:=by
  rw[Nat.testBit_eq_decide_div_mod_eq];have:=Nat.mod_two_eq_zero_or_one (n / 2 ^ i);rcases this with h|h<;>simp[h]
 rw[h1];generalize n / 2 ^ i=m at *;have h4:(BitVec.ofInt 64 (m:Int) &&& BitVec.ofInt 64 1).toNat=m % 2:=by
  rw[BitVec.ofInt_natCast,show BitVec.ofInt 64 1=1#64 from rfl,BitVec.toNat_and,BitVec.toNat_ofNat,BitVec.toNat_ofNat,qrJ h2];exact Nat.and_one_is_mod _
 show some (AV.int .i64 (IntKind.i64.wrap ((BitVec.ofInt 64 (m:Int) &&& BitVec.ofInt 64 1).toNat:Int)))=_;rw[h4,h3];split<;>rfl
theorem yb (n:Nat)(hn:n<65536):Pure Tryz.prog GG 230 [.int .i64 (n:Int)] (.agg (qu ((List.range 16).map fun k=>if n.testBit k=true then 1 else 0))):=by
 refine Pure.k qe Tryz.func230 rfl (by kernel_rfl) ?_;simp[-getElem?_pos];refine kx 16 (fun i ev U=>ev 0=.int .i64 (n:Int)/\ev 2=.ptr 0 0/\ev 3=.ptr 1 0/\ev 5=.int .i64 (i:Int) /\
  ∃ W Z,W.length=16/\U=⟨[.cells Z,.cells (qu W)],[]⟩/\Z.length=16/\∀ k,k<i->W[k]?=some (if n.testBit k=true then 1 else 0)) ?_ ?_ ?_
 . exact⟨by simp,by simp,by simp,by simp,List.replicate 16 0,_,by simp,rfl,rfl,fun k hk=>absurd hk (by omega)⟩
 . rintro i ev U R hR hi ⟨e0,e2,e3,e5,W,Z,hW,rfl,hZ,hb⟩;have hi':(i:Int)<16:=(by omega);have hi1:i+1<=16:=hi;have hw:=wr (n:=(i:Int)+1) (by omega) (by omega);have hmin:min i 64=i:=(by omega);have hneg:¬ (i:Int)<0:=(by omega);have hand:=qjM n i (by omega);obtain⟨v,hv⟩:∃ v:Nat,v=if n.testBit i=true then 1 else 0:=⟨_,rfl⟩
   rw[<- hv]at hand;simp[-getElem?_pos,-zQ,qd8,qaZ,e0,e2,e3,e5,hi',hi,hi1,hW,hmin,IntKind.bits,hand,hneg];refine hR _ _ ⟨by simp[e0],by simp[e2],by simp[e3],by simp[hw],W.set i v,Z,by simp[hW],by simp[yR],hZ,fun k hk=>?_⟩;by_cases hki:k=i
   . subst hki;rw[qqa (by omega),hv]
   . rw[qp7 (Ne.symm hki)];exact hb k (by omega)
 . rintro ev U ⟨e0,e2,e3,e5,W,Z,hW,rfl,hZ,hb⟩;have:W=(List.range 16).map fun k=>if n.testBit k=true then 1 else 0:=by
    apply qqW;intro k;by_cases hk:k<16
    . rw[hb k hk];simp[hk]
    . rw[qqG (by omega),qqG (by simp;omega)]
   rw[<- this];simp[-getElem?_pos,e0,e2,e3,e5,hW,qm hW,zl hW hZ,hZ]
end
end
section
section
variable {c:Bc}{d:List Nd}{H:List Blk}{T:List (Option Nat)}
def qmT (x y:Nat->Bool)(c:Bool)(k:Nat):Bool:=(x k ^^ y k) ^^ qah x y c k
def qkP:List (Nat×Sch×List Nat):=[(5,.step 0 [8,7] (.step 1 [8,7,3,2] (.step 2 [8,7,3] (.step 3 [8,7] (.step 4 [8,7,6,5] (.step 5 [8,7,6] (.step 6 [8,7] (.step 7 [8] (.step 8 [] (.done))))))))),[7]),(8,.step 0 [8,7] (.step 1 [8,7,3,2] (.step 2 [8,7,3] (.step 3 [8,7] (.step 4 [8,7,6,5] (.step 5 [8,7,6] (.step 6 [8,7] (.step 7 [8] (.step 8 [] (.done))))))))),[7])]
theorem qdF (h:BX c H d H){X Y:List Nat}(hX:qZ d X)(hY:qZ d Y){cn:Nat}(hc:cn<d.length) :
 qg Tryz.prog (XG c) 283 [.ptr c.B 0,.agg (qu X),.agg (qu Y),.int .i64 (cn:Int)] ⟨H,T⟩ (BQ c d H fun b=>qmT (qn d b X) (qn d b Y) (evD d b cn)):=by
 refine qg.kO ⟨false,qkP,[],[]⟩ qe Tryz.func283 rfl (by kernel_rfl) ?_;have hXl:=hX.1;have hYl:=hY.1;simp[-getElem?_pos,jP];refine kx 16 (fun i ev U=>ev 0=.ptr c.B 0/\ev 5=.ptr H.length 0/\ev 6=.ptr (H.length+1) 0/\ev 8=.ptr (H.length+2) 0/\ev 9=.ptr (H.length+3) 0/\ev 14=.int .i64 (i:Int) /\
  ∃ d' W cn',ev 3=.int .i64 (cn':Nat)/\BX c H d' U.H/\q9 d d'/\qZ d' W/\cn' < d'.length/\U.H[H.length]?=some (.cells (qu X))/\U.H[H.length+1]?=some (.cells (qu Y))/\(∃ Z,Z.length=16/\U.H[H.length+2]?=some (.cells Z))/\U.H[H.length+3]?=some (.cells (qu W)) /\
   (i<=15->∀ b,evD d' b cn'=qah (qn d b X) (qn d b Y) (evD d b cn) i) /\
   ∀ b k,k<i->qn d' b W k=qmT (qn d b X) (qn d b Y) (evD d b cn) k) ?_ ?_ ?_
 . refine⟨by simp,by simp,by simp,by simp,by simp,by simp,d,zb,cn,by simp,h.app _,q9.refl d,kI h.ok,hc,lk0,lk1,⟨_,qO,lk2⟩,lk3,fun _ b=>rfl,fun b k hk=>absurd hk (by omega)⟩
 . rintro i ev ⟨H1,T1⟩ R hR hi ⟨e0,e5,e6,e8,e9,e14,d1,W,cn1,e3,hx,hg,hW,hc1,hHX,hHY,⟨Z,hZ,hHZ⟩,hHW,hcar,hb⟩;obtain⟨x,hx1,hx2,hx3⟩:=hX.getG h.ok hg hi;obtain⟨y,hy1,hy2,hy3⟩:=hY.getG h.ok hg hi;simp only at hx hHX hHY hHZ hHW;have hWl:=hW.1;have hi':(i:Int)<16:=(by omega);have hi1:i+1<=16:=hi;have hdx:=zS hx1;have hdy:=zS hy1;have hw:=wr (n:=(i:Int)+1) (by omega) (by omega);simp[-getElem?_pos,e0,e3,e5,e6,e8,e9,e14,hi',hi,hi1];rw[qG rfl];simp[-getElem?_pos,qM,e0,e3,e5,e6,e8,e9,e14,hi',hi,hi1,hHX,hHY,hXl,hYl,hdx,hdy];refine qc.acall (qai c hx.self hx2 hy2) ?_;rintro v ⟨H2,T2⟩ ⟨d2,z,rfl,hxx,hg2,hz,hv2⟩;dsimp only at hv2;have hk:∀ j,H.length+j≠c.B:=fun j=>(h.at (by omega)).1
   have hX2:=hxx.loc hHX (hk 0);have hY2:=hxx.loc hHY (hk 1);have hZ2:=hxx.loc hHZ (hk 2);have hW2:=hxx.loc hHW (hk 3);have hx2':=hx.call hxx;have hc2:=qqn hc1 hg2.len;simp[-getElem?_pos,e0,e3,e5,e6,e8,e9,e14,hi',hi,hi1];refine qc.acall (qai c hx2'.self hz hc2) ?_;rintro v ⟨H3,T3⟩ ⟨d3,o,rfl,hxx3,hg3,ho,hv3⟩;dsimp only at hv3;have hX3:=hxx3.loc hX2 (hk 0);have hY3:=hxx3.loc hY2 (hk 1);have hZ3:=hxx3.loc hZ2 (hk 2);have hW3:=hxx3.loc hW2 (hk 3);have hx3':=hx2'.call hxx3;have hl3:=(qp5.1 hW3).1;have hx4:=hx3'.set (k:=H.length+3) (by omega) (.cells (qu (W.set i o)));have hX4:(H3.set (H.length+3) (.cells (qu (W.set i o))))[H.length]?=some (.cells (qu X)):=(by rw[qp7 (by omega)];exact hX3);have hY4:(H3.set (H.length+3) (.cells (qu (W.set i o))))[H.length+1]?=some (.cells (qu Y)):=(by rw[qp7 (by omega)];exact hY3);have hZ4:(H3.set (H.length+3) (.cells (qu (W.set i o))))[H.length+2]?=some (.cells Z):=(by rw[qp7 (by omega)];exact hZ3);have hW4:(H3.set (H.length+3) (.cells (qu (W.set i o))))[H.length+3]?=some (.cells (qu (W.set i o))):=qqa hl3;have hg3':=hg.trans (hg2.trans hg3);have hWok:=(hW.grown (hg2.trans hg3)).set (k:=i) ho;have hcar1:=hcar (by omega);have hhv:∀ b,evD d2 b z=(qn d b X i ^^ qn d b Y i):=fun b=>by rw[hv2,hx3,hy3]
   have hov:∀ b,evD d3 b o=qmT (qn d b X) (qn d b Y) (evD d b cn) i:=fun b=>by
    rw[hv3,hhv,hg2.ev hx.ok b hc1,hcar1];rfl
   have hbits:∀ b k,k<i+1->qn d3 b (W.set i o) k=qmT (qn d b X) (qn d b Y) (evD d b cn) k:=fun b k hk=>by
    rw[wF (by omega)];by_cases hki:k=i
    . subst hki;rw[if_pos rfl,hov]
    . rw[if_neg hki,zI hx.ok (hg2.trans hg3) hW b (by omega),hb b k (by omega)]
   by_cases h15:i<15
   . have h15':(i:Int)<15:=(by omega);simp[-getElem?_pos,e0,e3,e5,e6,e8,e9,e14,hi',hi,hi1,hW3,hWl,yR,h15'];generalize H3.set (H.length+3) (.cells (qu (W.set i o)))=H4 at *;have hx2'':x<d3.length:=qqn hx2 (hg2.trans hg3).len;have hy2'':y<d3.length:=qqn hy2 (hg2.trans hg3).len;rw[qG rfl];simp[-getElem?_pos,qM,e0,e3,e5,e6,e8,e9,e14,hi',hi,hi1,hX4,hY4,hXl,hYl,hdx,hdy];refine qc.acall (QH c hx4.self hx2'' hy2'') ?_;rintro v ⟨H5,T5⟩ ⟨d5,g,rfl,hxx5,hg5,hgl,hv5⟩;dsimp only at hv5;have hx5:=hx4.call hxx5;simp[-getElem?_pos,e0,e3,e5,e6,e8,e9,e14];refine qc.acall (QH c hx5.self (f:=z) (g:=cn1) (qqn hz (hg3.trans hg5).len) (qqn hc2 (hg3.trans hg5).len)) ?_;rintro v ⟨H6,T6⟩ ⟨d6,hh,rfl,hxx6,hg6,hhl,hv6⟩;dsimp only at hv6;have hx6:=hx5.call hxx6;simp[-getElem?_pos,e0,e3,e5,e6,e8,e9,e14];refine qc.acall (qaX c hx6.self (f:=g) (g:=hh) (qqn hgl hg6.len) hhl) ?_;rintro v ⟨H7,T7⟩ ⟨d7,c7,rfl,hxx7,hg7,hc7,hv7⟩;dsimp only at hv7;have hx7:=hx6.call hxx7;simp[-getElem?_pos,e0,e3,e5,e6,e8,e9,e14,hw];have hgg:=hg5.trans (hg6.trans hg7);have up:∀ {k:Nat} {x:Blk},H4[H.length+k]?=some x->H7[H.length+k]?=some x:=fun {k x} hq=>hxx7.loc (hxx6.loc (hxx5.loc hq (hk k)) (hk k)) (hk k)
     refine hR _ _ ⟨by simp[e0],by simp[e5],by simp[e6],by simp[e8],by simp[e9],by simp,d7,W.set i o,c7,by simp,hx7,hg3'.trans hgg,hWok.grown hgg,hc7,up (k:=0) hX4,up hY4,⟨Z,hZ,up hZ4⟩,up hW4,fun _ b=>?_,fun b k hk=>?_⟩
     . rw[hv7,hg6.ev hx5.ok b hgl,hv5,hv6,(hg3.trans hg5).ev hx2'.ok b hz,(hg3.trans hg5).ev hx2'.ok b hc2,hhv,(hg2.trans hg3).ev hx.ok b hx2,(hg2.trans hg3).ev hx.ok b hy2,hx3,hy3,hg2.ev hx.ok b hc1,hcar1];rfl
     . rw[zI hx4.ok hgg hWok b (by omega),hbits b k hk]
   . have h15':¬ (i:Int)<15:=(by omega);simp[-getElem?_pos,e0,e3,e5,e6,e8,e9,e14,hi',hi,hi1,hW3,hWl,yR,h15',hw];generalize H3.set (H.length+3) (.cells (qu (W.set i o)))=H4 at *;refine hR _ _ ⟨by simp[e0],by simp[e5],by simp[e6],by simp[e8],by simp[e9],by simp,d3,W.set i o,cn1,by simp[e3],hx4,hg3',hWok,qqn hc2 hg3.len,hX4,hY4,⟨Z,hZ,hZ4⟩,hW4,fun hi=>absurd hi (by omega),hbits⟩
 . rintro ev ⟨H1,T1⟩ ⟨e0,e5,e6,e8,e9,e14,d1,W,cn1,e3,hx,hg,hW,hc1,hHX,hHY,⟨Z,hZ,hHZ⟩,hHW,hcar,hb⟩;simp only at hx hHX hHY hHZ hHW;have hWl:=hW.1;have hHl:=(qp5.1 hHZ).1;simp[-getElem?_pos,e0,e8,e9,e14,hHW,hHZ,hWl,qm hWl,zl hWl hZ,hZ,hHl];exact⟨d1,W,rfl,hx.set (by omega) _,hg,hW,fun b k hk=>hb b k hk⟩
end
end
section
theorem Jb {x x' y y':Nat->Bool}{c:Bool}:∀ {k:Nat},(∀ j,j<k->x j=x' j)->(∀ j,j<k->y j=y' j)->qah x y c k=qah x' y' c k
 | 0,_,_=>rfl
 | k+1,hx,hy=>by
  unfold qah;rw[hx k (by omega),hy k (by omega),Jb (k:=k) (fun j hj=>hx j (by omega)) (fun j hj=>hy j (by omega))]
section
variable {c:Bc}{d:List Nd}{H:List Blk}{T:List (Option Nat)}
theorem jd (n:Nat):Pure Tryz.prog GG 232 [.int .i64 (n:Int)] (.agg (qu (n::List.replicate 15 0))):=by
 refine Pure.k qe Tryz.func232 rfl (by kernel_rfl) ?_;simp[-getElem?_pos,qV,zu];exact zm.refl _
def qkL:List (Nat×Sch×List Nat):=[(5,.step 0 [13,12] (.step 1 [13,12] (.step 2 [13,12,11] (.step 3 [13,12,11,10] (.step 4 [13,12,11,10,6,5] (.step 5 [13,12,11,10,6] (.step 6 [13,12,11,10] (.step 7 [13,12,11,10,9,8] (.step 8 [13,12,11,10,9] (.step 9 [13,12,11,10] (.step 10 [13,12,11] (.step 11 [13,12] (.step 12 [13] (.step 13 [] (.done)))))))))))))),[10,11,12])]
theorem VP (h:BX c H d H){X Y:List Nat}(hX:qZ d X)(hY:qZ d Y) :
 qg Tryz.prog (XG c) 318 [.ptr c.B 0,.agg (qu X),.agg (qu Y)] ⟨H,T⟩ (NQ c d H fun b=>eqT (qn d b X) (qn d b Y) 16):=by
 refine qg.kO ⟨false,qkL,[],[]⟩ qe Tryz.func318 rfl (by kernel_rfl) ?_;have hXl:=hX.1;have hYl:=hY.1;have hk:∀ j,H.length+j≠c.B:=fun j=>(h.at (by omega)).1
 simp[-getElem?_pos];refine kx 16 (fun i ev U=>ev 0=.ptr c.B 0/\ev 4=.ptr H.length 0/\ev 5=.ptr (H.length+1) 0/\ev 9=.int .i64 (i:Int) /\
  ∃ d' t,ev 7=.int .i64 (t:Nat)/\BX c H d' U.H/\q9 d d'/\t<d'.length/\U.H[H.length]?=some (.cells (qu X))/\U.H[H.length+1]?=some (.cells (qu Y)) /\
   ∀ b,evD d' b t=eqT (qn d b X) (qn d b Y) i) ?_ ?_ ?_
 . exact⟨by simp,by simp,by simp,by simp,d,1,by simp,h.app _,q9.refl d,by have:=h.ok.two;omega,lk0,lk1,fun b=>qc0 h.ok b⟩
 . rintro i ev ⟨H1,T1⟩ R hR hi ⟨e0,e4,e5,e9,d1,t,e7,hx,hg,ht,hHX,hHY,hv⟩;obtain⟨x,hx1,hx2,hx3⟩:=hX.getG h.ok hg hi;obtain⟨y,hy1,hy2,hy3⟩:=hY.getG h.ok hg hi;simp only at hx hHX hHY;have hi':(i:Int)<16:=(by omega);have hi1:i+1<=16:=hi;have hdx:=zS hx1;have hdy:=zS hy1;have hw:=wr (n:=(i:Int)+1) (by omega) (by omega);simp[-getElem?_pos,e9,hi'];rw[qG rfl];simp[-getElem?_pos,qM,e0,e4,e5,e7,hi',hi1,hHX,hHY,hXl,hYl,hdx,hdy];refine qc.acall (qai c hx.self hx2 hy2) ?_;rintro v ⟨H2,T2⟩ ⟨d2,z,rfl,hxx2,hg2,hz,hv2⟩;dsimp only at hv2;have hx2':=hx.call hxx2;simp[-getElem?_pos,qM];refine qc.acall (QF c hx2'.self hz) ?_;rintro v ⟨H3,T3⟩ ⟨d3,u,rfl,hxx3,hg3,hu,hv3⟩;dsimp only at hv3;have hx3':=hx2'.call hxx3;simp[-getElem?_pos,qM];have hg23:=hg2.trans hg3;refine qc.acall (QH c hx3'.self (f:=t) (g:=u) (qqn ht hg23.len) hu) ?_;rintro v ⟨H4,T4⟩ ⟨d4,w,rfl,hxx4,hg4,hw4,hv4⟩;dsimp only at hv4;have hx4':=hx3'.call hxx4;have up:∀ {k:Nat} {x:Blk},H1[H.length+k]?=some x->H4[H.length+k]?=some x:=fun {k x} hq=>hxx4.loc (hxx3.loc (hxx2.loc hq (hk k)) (hk k)) (hk k)
   simp[-getElem?_pos,qM,e9,hw];refine hR _ _ ⟨by simp[e0],by simp[e4],by simp[e5],by simp,d4,w,by simp,hx4',hg.trans (hg23.trans hg4),hw4,up (k:=0) hHX,up hHY,fun b=>?_⟩;rw[hv4,hg23.ev hx.ok b ht,hv3,hv2,hv,hx3,hy3];rfl
 . rintro ev ⟨H1,T1⟩ ⟨e0,e4,e5,e9,d1,t,e7,hx,hg,ht,hHX,hHY,hv⟩;simp[-getElem?_pos,e7,e9];exact⟨d1,t,rfl,hx,hg,ht,hv⟩
def qkO:List (Nat×Sch×List Nat):=[(5,.step 0 [10,9] (.step 1 [10,9,5] (.step 2 [10,9,5,4,3] (.step 3 [10,9,5,4] (.step 4 [10,9,5] (.step 6 [10,9,8,7] (.step 7 [10,9,8] (.fork (.cons 5 (.step 8 [10,9] (.step 9 [10] (.step 10 [] (.done)))) (.cons 8 (.step 5 [10,9] (.step 9 [10] (.step 10 [] (.done)))) (.nil)))))))))),[5,9]),(6,.step 0 [13,12] (.step 1 [13,12,10] (.step 2 [13,12,10,9] (.step 3 [13,12,10,9,5,4] (.step 4 [13,12,10,9,5] (.step 5 [13,12,10,9] (.step 6 [13,12,10,9,8,7] (.step 7 [13,12,10,9,8] (.step 8 [13,12,10,9] (.step 11 [13,12] (.step 9 [13,12,10] (.step 10 [13,12] (.step 12 [13] (.step 13 [] (.done)))))))))))))),[9,10,12])]
theorem VB (h:BX c H d H){X Y:List Nat}(hX:qZ d X)(hY:qZ d Y) :
 qg Tryz.prog (XG c) 284 [.ptr c.B 0,.agg (qu X),.agg (qu Y)] ⟨H,T⟩ (NQ c d H fun b=>qcI (qn d b X) (qn d b Y) 16):=by
 refine qg.kO ⟨false,qkO,[],[]⟩ qe Tryz.func284 rfl (by kernel_rfl) ?_;have hXl:=hX.1;have hYl:=hY.1;have hk:∀ j,H.length+j≠c.B:=fun j=>(h.at (by omega)).1
 simp[-getElem?_pos];refine kx 16 (fun i ev U=>ev 0=.ptr c.B 0/\ev 4=.ptr H.length 0/\ev 5=.ptr (H.length+1) 0/\ev 11=.int .i64 (i:Int) /\
  ∃ d' t,ev 7=.int .i64 (t:Nat)/\BX c H d' U.H/\q9 d d'/\t<d'.length/\U.H[H.length]?=some (.cells (qu X))/\U.H[H.length+1]?=some (.cells (qu Y)) /\
   ∀ b,evD d' b t=qcI (qn d b X) (qn d b Y) i) ?_ ?_ ?_
 . exact⟨by simp,by simp,by simp,by simp,d,0,by simp,h.app _,q9.refl d,by have:=h.ok.two;omega,lk0,lk1,fun b=>JN h.ok b⟩
 . rintro i ev ⟨H1,T1⟩ R hR hi ⟨e0,e4,e5,e11,d1,t,e7,hx,hg,ht,hHX,hHY,hv⟩;obtain⟨x,hx1,hx2,hx3⟩:=hX.getG h.ok hg hi;obtain⟨y,hy1,hy2,hy3⟩:=hY.getG h.ok hg hi;simp only at hx hHX hHY;have hi':(i:Int)<16:=(by omega);have hi1:i+1<=16:=hi;have hdx:=zS hx1;have hdy:=zS hy1;have hw:=wr (n:=(i:Int)+1) (by omega) (by omega);simp[-getElem?_pos,e11,hi'];rw[qG rfl];simp[-getElem?_pos,qM,e0,e4,e5,hi',hi1,hHX,hHY,hXl,hYl,hdx,hdy];have key:=QF c hx.self hx2 (T:=T1);refine⟨qc.acall key ?_,qc.acall key ?_⟩
   all_goals
    rintro v ⟨H2,T2⟩ ⟨d2,z,rfl,hxx2,hg2,hz,hv2⟩;dsimp only at hv2;have hx2':=hx.call hxx2;have hX2:=hxx2.loc hHX (hk 0);have hY2:=hxx2.loc hHY (hk 1);dsimp only at hX2 hY2;simp[-getElem?_pos,qM,hi1,hY2,hYl,hdy];refine qc.acall (QH c hx2'.self (f:=z) (g:=y) hz (qqn hy2 hg2.len)) ?_;rintro v ⟨H3,T3⟩ ⟨d3,u,rfl,hxx3,hg3,hu,hv3⟩;dsimp only at hv3;have hx3':=hx2'.call hxx3;have hX3:=hxx3.loc hX2 (hk 0);have hY3:=hxx3.loc hY2 (hk 1);dsimp only at hX3 hY3;have hg23:=hg2.trans hg3;simp[-getElem?_pos];rw[qG rfl];simp[-getElem?_pos,qM,e0,e4,e5,e7,hi',hi1,hX3,hY3,hXl,hYl,hdx,hdy];refine qc.acall (qai c hx3'.self (f:=x) (g:=y) (qqn hx2 hg23.len) (qqn hy2 hg23.len)) ?_;rintro v ⟨H4,T4⟩ ⟨d4,q,rfl,hxx4,hg4,hq,hv4⟩;dsimp only at hv4;have hx4':=hx3'.call hxx4;simp[-getElem?_pos,qM];refine qc.acall (QF c hx4'.self hq) ?_;rintro v ⟨H5,T5⟩ ⟨d5,nq,rfl,hxx5,hg5,hnq,hv5⟩;dsimp only at hv5;have hx5':=hx4'.call hxx5;simp[-getElem?_pos,qM];have hg35:=hg4.trans hg5;have hg15:=hg23.trans hg35;refine qc.acall (QH c hx5'.self (f:=nq) (g:=t) hnq (qqn ht hg15.len)) ?_;rintro v ⟨H6,T6⟩ ⟨d6,a6,rfl,hxx6,hg6,ha6,hv6⟩;dsimp only at hv6;have hx6':=hx5'.call hxx6;simp[-getElem?_pos,qM,e0];have hg36:=hg35.trans hg6;refine qc.acall (qaX c hx6'.self (f:=u) (g:=a6) (qqn hu hg36.len) ha6) ?_;rintro v ⟨H7,T7⟩ ⟨d7,a7,rfl,hxx7,hg7,ha7,hv7⟩;dsimp only at hv7;have hx7':=hx6'.call hxx7;have up:∀ {k:Nat} {x:Blk},H3[H.length+k]?=some x->H7[H.length+k]?=some x:=fun {k x} hq=>hxx7.loc (hxx6.loc (hxx5.loc (hxx4.loc hq (hk k)) (hk k)) (hk k)) (hk k)
    simp[-getElem?_pos,e11,hw];refine hR _ _ ⟨by simp[e0],by simp[e4],by simp[e5],by simp,d7,a7,by simp,hx7',hg.trans (hg15.trans (hg6.trans hg7)),ha7,up (k:=0) hX3,up hY3,fun b=>?_⟩;rw[hv7,hg36.ev hx3'.ok b hu,hv3,hv2,hg2.ev hx.ok b hy2,hv6,hv5,hv4,hg23.ev hx.ok b hx2,hg23.ev hx.ok b hy2,hg15.ev hx.ok b ht,hv,hx3,hy3];rfl
 . rintro ev ⟨H1,T1⟩ ⟨e0,e4,e5,e11,d1,t,e7,hx,hg,ht,hHX,hHY,hv⟩;simp[-getElem?_pos,e7,e11];exact⟨d1,t,rfl,hx,hg,ht,hv⟩
def qkV:List (Nat×Sch×List Nat):=[(1,.step 0 [6,5] (.step 2 [6,5,4] (.step 3 [6,5,4] (.fork (.cons 1 (.step 4 [6,5] (.step 5 [6] (.step 6 [] (.done)))) (.cons 4 (.step 1 [6,5] (.step 5 [6] (.step 6 [] (.done)))) (.nil)))))),[4,5])]
theorem Zz (h:BX c H d H){X Y:List Nat}(hX:qZ d X)(hY:qZ d Y) :
 qg Tryz.prog (XG c) 235 [.ptr c.B 0,.agg (qu X),.agg (qu Y)] ⟨H,T⟩ (BQ c d H fun b=>qmT (qn d b X) (fun k=>!qn d b Y k) true):=by
 refine qg.kO ⟨false,qkV,[],[]⟩ qe Tryz.func235 rfl (by kernel_rfl) ?_;have hXl:=hX.1;have hYl:=hY.1;have hk:∀ j,H.length+j≠c.B:=fun j=>(h.at (by omega)).1
 simp[-getElem?_pos];rw[qG rfl,jy];have hx1:=h.app [.cells (qu X),.cells (qu Y),.cells (qu zb)];have hHX:(H++[Blk.cells (qu X),.cells (qu Y),.cells (qu zb)])[H.length]?=some (.cells (qu X)):=lk0;have hHY:(H++[Blk.cells (qu X),.cells (qu Y),.cells (qu zb)])[H.length+1]?=some (.cells (qu Y)):=lk1;have hHZ:(H++[Blk.cells (qu X),.cells (qu Y),.cells (qu zb)])[H.length+2]?=some (.cells (qu zb)):=lk2;generalize H++[Blk.cells (qu X),.cells (qu Y),.cells (qu zb)]=H1 at *;simp[-getElem?_pos,qM,hHX,hHY,hXl,hYl,qm hXl,qm hYl];have key:=ZC hx1.self hY (T:=T);refine⟨qc.acall key ?_,qc.acall key ?_⟩
 all_goals
  rintro v ⟨H2,T2⟩ ⟨d2,W,rfl,hxx2,hg2,hW,hv2⟩;dsimp only at hv2;have hx2':=hx1.call hxx2;have hX2:=hxx2.loc hHX (hk 0);have hZ2:=hxx2.loc hHZ (hk 2);dsimp only at hX2 hZ2;simp[-getElem?_pos,qM,hX2,hXl,qm hXl];have ht:=hx2'.ok.two;refine qc.acall (qdF hx2'.self (hX.grown hg2) hW (cn:=1) (by omega)) ?_;rintro v ⟨H3,T3⟩ ⟨d3,V,rfl,hxx3,hg3,hV,hv3⟩;dsimp only at hv3;have hx3':=hx2'.call hxx3;have hZ3:=hxx3.loc hZ2 (hk 2);dsimp only at hZ3;have hVl:=hV.1;have hl3:=(qp5.1 hZ3).1;simp[-getElem?_pos,qM,hZ3,hVl,qm hVl,zl hVl (show (qu zb).length=16 from rfl),qO,hl3];refine⟨d3,V,rfl,hx3'.set (by omega) _,hg2.trans hg3,hV,fun b k hk=>?_⟩;rw[hv3 b k hk];unfold qmT;rw[hv2 b k hk,zI h.ok hg2 hX b hk,qc0 hx2'.ok];congr 1;exact Jb (fun j hj=>zI h.ok hg2 hX b (by omega)) (fun j hj=>hv2 b j (by omega))
end
end
section
def UQ (c:Bc)(d:List Nd)(H:List Blk)(v:(Nat->Bool)->Nat)(r:AV)(U':St):Prop :=
 ∃ d' W,r=.agg (qu W)/\BX c H d' U'.H/\q9 d d'/\qZ d' W/\∀ b,zo (qn d' b W) 16=v b
theorem qeO:((List.range 16).map fun k=>if Nat.testBit 0 k=true then 1 else 0)=zb:=by decide
theorem wl {d d':List Nd}(hd:DagOk d)(hg:q9 d d'){w:List Nat}(h:qZ d w)(b:Nat->Bool):zo (qn d' b w) 16=zo (qn d b w) 16:=zq fun k hk=>zI hd hg h b hk
section
variable {c:Bc}{d:List Nd}{H:List Blk}{T:List (Option Nat)}
def qkN:List (Nat×Sch×List Nat):=[(9,.step 0 [12,11] (.step 1 [12,11,10] (.step 2 [12,11,10,6,5,4] (.step 3 [12,11,10,6,5,4] (.step 4 [12,11,10,6,5] (.step 5 [12,11,10,6] (.step 6 [12,11,10] (.step 7 [12,11,10,9,8] (.step 8 [12,11,10,9] (.step 9 [12,11,10] (.step 10 [12,11] (.step 11 [12] (.step 12 [] (.done))))))))))))),[10])]
theorem qfC (h:BX c H d H){X Y:List Nat}(hX:qZ d X)(hY:qZ d Y) :
 qg Tryz.prog (XG c) 287 [.ptr c.B 0,.agg (qu X),.agg (qu Y)] ⟨H,T⟩ (UQ c d H fun b=>qoZ (zo (qn d b X) 16) (qn d b Y) 16 16):=by
 refine qg.kO ⟨false,qkN,[],[]⟩ qe Tryz.func287 rfl (by kernel_rfl) ?_;have hXl:=hX.1;have hYl:=hY.1;have hk:∀ j,H.length<=j->j≠c.B:=fun j hj=>(h.at hj).1
 have hc0:=yb 0 (by omega);rw[qeO]at hc0;simp only[qrz]at hc0;simp[-getElem?_pos];refine qc.call hc0 (by simp) ?_;simp[-getElem?_pos,jy,zl (w:=zb) rfl (show (qu zb).length=16 from rfl),qO];refine kx 16 (fun i ev U=>ev 0=.ptr c.B 0/\ev 4=.ptr H.length 0/\ev 5=.ptr (H.length+1) 0/\ev 6=.ptr (H.length+2) 0/\ev 7=.ptr (H.length+3) 0/\ev 12=.int .i64 (i:Int) /\
  ∃ d' S,BX c H d' U.H/\q9 d d'/\qZ d' S/\U.H[H.length]?=some (.cells (qu X))/\U.H[H.length+1]?=some (.cells (qu Y))/\U.H[H.length+2]?=some (.cells (qu zb))/\U.H[H.length+3]?=some (.cells (qu S)) /\
   ∀ b,zo (qn d' b S) 16=qoZ (zo (qn d b X) 16) (qn d b Y) 16 i) ?_ ?_ ?_
 . refine⟨by simp,by simp,by simp,by simp,by simp,by simp,d,zb,h.app _,q9.refl d,kI h.ok,lk0,lk1,lk2,lk3,fun b=>?_⟩
   . rw[kc fun k _=>yV h.ok b k];rfl
 . rintro i ev ⟨H1,T1⟩ R hR hi ⟨e0,e4,e5,e6,e7,e12,d1,S,hx,hg,hS,hHX,hHY,hHZ,hHS,hv⟩;obtain⟨y,hy1,hy2,hy3⟩:=hY.getG h.ok hg hi;dsimp only at hx hHX hHY hHZ hHS;have hi':(i:Int)<16:=(by omega);have hi1:i+1<=16:=hi;have hdy:=zS hy1;have hw:=wr (n:=(i:Int)+1) (by omega) (by omega);have hHl:=hx.kp.1;simp[-getElem?_pos,e12,hi',jy];have hx0:=hx.app [.cells (qu zb)];have aHX:=qa hHX [.cells (qu zb)];have aHY:=qa hHY [.cells (qu zb)];have aHZ:=qa hHZ [.cells (qu zb)];have aHS:=qa hHS [.cells (qu zb)];have aHP:(H1++[Blk.cells (qu zb)])[H1.length]?=some (.cells (qu zb)):=lk0;have hSl:=(qp5.1 hHS).1;have hPn:H.length+3<H1.length:=hSl;generalize H1.length=N at *;generalize H1++[Blk.cells (qu zb)]=H1' at *;refine qL.gen (fun n ev U=>ev 0=.ptr c.B 0/\ev 4=.ptr H.length 0/\ev 5=.ptr (H.length+1) 0/\ev 6=.ptr (H.length+2) 0/\ev 7=.ptr (H.length+3) 0/\ev 8=.int .i64 (i:Int)/\ev 9=.ptr N 0/\ev 12=.int .i64 (i:Int) /\
    ∃ j d' P,n=16-j/\i<=j/\j<=16/\ev 10=.int .i64 (j:Int)/\BX c H d' U.H/\q9 d1 d'/\qZ d' P/\U.H[H.length]?=some (.cells (qu X))/\U.H[H.length+1]?=some (.cells (qu Y))/\U.H[H.length+2]?=some (.cells (qu zb))/\U.H[H.length+3]?=some (.cells (qu S))/\U.H[N]?=some (.cells (qu P)) /\
    ∀ b k,k<16->qn d' b P k=(decide (k<j)&&(qn d b Y i&&(decide (i<=k)&&qn d b X (k-i))))) (16-i) ?_ ?_
   . refine⟨by simp[e0],by simp[e4],by simp[e5],by simp[e6],by simp[e7],by simp,by simp,by simp[e12],i,d1,zb,rfl,qqf _,by omega,by simp,hx0,q9.refl d1,kI hx.ok,aHX,aHY,aHZ,aHS,aHP,fun b k hk=>?_⟩;rw[yV hx.ok];by_cases h1:k<i
     . have:¬ i<=k:=by omega
       simp[this]
     . simp[h1]
   . rintro n ev ⟨H2,T2⟩ R2 hR2 ⟨e0,e4,e5,e6,e7,e8,e9,e12,j,d2,P,rfl,hij,hj16,e10,hx2,hg2,hP,bX,bY,bZ,bS,bP,hb⟩;dsimp only at hx2 bX bY bZ bS bP;have hPl:=hP.1;have hSl2:=hS.1;have hg02:=hg.trans hg2;by_cases hj:j<16
     . have hj':(j:Int)<16:=(by omega);have hj1:j+1<=16:=hj;have hwj:=wr (n:=(j:Int)+1) (by omega) (by omega);have hwd:=wr (n:=(j:Int)-i) (by omega) (by omega);have hsub:(j:Int)-i=((j-i:Nat):Int):=(by omega);rw[hsub]at hwd;have hjl:j-i<16:=(by omega);have hjl1:j-i+1<=16:=(by omega);have hjl2:((j-i:Nat):Int)<16:=(by omega);obtain⟨x,hx1,hx2',hx3⟩:=hX.getG h.ok hg02 hjl;have hdx:=zS hx1;have hyl:y<d2.length:=qqn hy2 hg2.len;have hki:¬ j<i:=(by omega);generalize hm:j-i=m at *;simp[-getElem?_pos,e10,hj'];rw[qG rfl];simp[-getElem?_pos,qM,e0,e4,e5,e8,e10,hi',hi1,hsub,hwd,hjl1,hjl2,bX,bY,hXl,hYl,hdx,hdy];refine qc.acall (QH c hx2.self hx2' hyl) ?_;rintro v ⟨H3,T3⟩ ⟨d3,z,rfl,hxx3,hg3,hz,hv3⟩;dsimp only at hv3;have hx3':=hx2.call hxx3;have up:∀ {k:Nat} {x:Blk},H.length<=k->H2[k]?=some x->H3[k]?=some x:=fun {k x} hl hq=>hxx3.loc hq (hk k hl)
       have cP:=up (by omega) bP;have hPl3:=(qp5.1 cP).1;simp[-getElem?_pos,qM,e9,e10,hj',hj1,cP,hPl,yR,hwj];refine hR2 (16-(j+1)) _ _ (by omega) ⟨by simp[e0],by simp[e4],by simp[e5],by simp[e6],by simp[e7],by simp[e8],by simp[e9],by simp[e12],j+1,d3,P.set j z,rfl,by omega,by omega,by simp,hx3'.set (by omega) _,hg2.trans hg3,(hP.grown hg3).set hz,?_,?_,?_,?_,qqa hPl3,fun b k hk=>?_⟩
       . rw[qp7 (by omega)];exact up (by omega) bX
       . rw[qp7 (by omega)];exact up (by omega) bY
       . rw[qp7 (by omega)];exact up (by omega) bZ
       . rw[qp7 (by omega)];exact up (by omega) bS
       . rw[wF (by omega)];by_cases hkj:k=j
         . subst hkj;rw[if_pos rfl,hv3,hx3,hg2.ev hx.ok b hy2,hy3,hm];simp[hij,Bool.and_comm]
         . rw[if_neg hkj,zI hx2.ok hg3 hP b hk,hb b k hk];by_cases h1:k<j
           . have h2:k<j+1:=(by omega);simp[h1,h2]
           . have h2:¬ k<j+1:=(by omega);simp[h1,h2]
     . have hj0:j=16:=(by omega);subst hj0;simp[-getElem?_pos,e0,e7,e9,e10,bS,bP,hSl2,hPl,qm hSl2,qm hPl];have ht:=hx2.ok.two;have hSS:=hS.grown hg2;refine qc.acall (qdF hx2.self hSS hP (cn:=0) (by omega)) ?_;rintro v ⟨H3,T3⟩ ⟨d3,V,rfl,hxx3,hg3,hV,hv3⟩;dsimp only at hv3;have hx3':=hx2.call hxx3;have up:∀ {k:Nat} {x:Blk},H.length<=k->H2[k]?=some x->H3[k]?=some x:=fun {k x} hl hq=>hxx3.loc hq (hk k hl)
       have cS:=up (by omega) bS;have hSl3:=(qp5.1 cS).1;have hVl:=hV.1;simp[-getElem?_pos,e7,e12,cS,hVl,hSl2,zl hVl (show (qu S).length=16 by rw[jt,hSl2]),hw];refine hR _ _ ⟨by simp[e0],by simp[e4],by simp[e5],by simp[e6],by simp[e7],by simp,d3,V,hx3'.set (by omega) _,hg02.trans hg3,hV,?_,?_,?_,qqa hSl3,fun b=>?_⟩
       . rw[qp7 (by omega)];exact up (by omega) bX
       . rw[qp7 (by omega)];exact up (by omega) bY
       . rw[qp7 (by omega)];exact up (by omega) bZ
       . have hs:zo (qn d3 b V) 16=zo (fun k=>(qn d2 b S k ^^ qn d2 b P k) ^^ qah (qn d2 b S) (qn d2 b P) false k) 16:=zq fun k hk=>by rw[hv3 b k hk,JN hx2.ok];rfl
         have hp:zo (qn d2 b P) 16=cond (qn d b Y i) ((zo (qn d b X) 16*2 ^ i) % 2 ^ 16) 0:=by
          cases hy:qn d b Y i with
          | true=>
           rw[cond_true,<- qg3];exact zq fun k hk=>by rw[hb b k hk,hy];simp[hk]
          | false=>
           rw[cond_false];exact kc fun k hk=>by rw[hb b k hk,hy];simp
         rw[hs,kL,hp,wl hx.ok hg2 hS b,hv b];simp[qoZ,b2n]
 . rintro ev ⟨H1,T1⟩ ⟨e0,e4,e5,e6,e7,e12,d1,S,hx,hg,hS,hHX,hHY,hHZ,hHS,hv⟩;dsimp only at hx hHX hHY hHZ hHS;have hSl:=hS.1;have hHl:=(qp5.1 hHZ).1;simp[-getElem?_pos,e6,e7,e12,hHS,hHZ,hSl,qm hSl,zl hSl (show (qu zb).length=16 from rfl),qO,hHl];exact⟨d1,S,rfl,hx.set (by omega) _,hg,hS,hv⟩
end
end
section
section
variable {c:Bc}{d:List Nd}{H:List Blk}{T:List (Option Nat)}
def qkS:List (Nat×Sch×List Nat):=[(4,.step 0 [10,9] (.step 1 [10,9,8] (.step 2 [10,9,8,4,3] (.step 3 [10,9,8,4] (.step 4 [10,9,8] (.step 5 [10,9,8,7,6] (.step 6 [10,9,8,7] (.step 7 [10,9,8] (.step 8 [10,9] (.step 9 [10] (.step 10 [] (.done))))))))))),[8])]
theorem JW (h:BX c H d H){X Y:List Nat}(hX:qZ d X)(hY:qZ d Y){g:Nat}{first cap:List AV}{F:(Nat->Bool)->Bool->Bool->Bool}
 (hF:∀ d1 H1 T1 (x y:Nat),BX c H d1 H1->q9 d d1->x<d1.length->y<d1.length->qg Tryz.prog (XG c) g (j5 first [.int .i64 x,.int .i64 y] cap) ⟨H1,T1⟩ (NQ c d1 H1 fun b=>F b (evD d1 b x) (evD d1 b y))) :
 qg Tryz.prog (XG c) 238 [.agg (qu X),.agg (qu Y),.fn g first cap] ⟨H,T⟩ (BQ c d H fun b k=>F b (qn d b X k) (qn d b Y k)):=by
 refine qg.kO ⟨false,qkS,[],[]⟩ qe Tryz.func238 rfl (by kernel_rfl) ?_;have hXl:=hX.1;have hYl:=hY.1;have hk:∀ j,H.length<=j->j≠c.B:=fun j hj=>(h.at hj).1
 simp[-getElem?_pos,jP,jy];refine kx 16 (fun i ev U=>ev 2=.fn g first cap/\ev 3=.ptr H.length 0/\ev 4=.ptr (H.length+1) 0/\ev 6=.ptr (H.length+2) 0/\ev 8=.int .i64 (i:Int) /\
  ∃ d' W,BX c H d' U.H/\q9 d d'/\qZ d' W/\U.H[H.length]?=some (.cells (qu W))/\U.H[H.length+1]?=some (.cells (qu Y))/\U.H[H.length+2]?=some (.cells (qu zb)) /\
   ∀ b k,k<16->qn d' b W k=if k<i then F b (qn d b X k) (qn d b Y k) else qn d b X k) ?_ ?_ ?_
 . exact⟨by simp,by simp,by simp,by simp,by simp,d,X,h.app _,q9.refl d,hX,lk0,lk1,lk2,fun b k hk=>by simp⟩
 . rintro i ev ⟨H1,T1⟩ R hR hi ⟨e2,e3,e4,e6,e8,d1,W,hx,hg,hW,hHX,hHY,hHZ,hb⟩;obtain⟨x,hx1,hx2,_,hx3⟩:=hW.get hi;obtain⟨y,hy1,hy2,hy3⟩:=hY.getG h.ok hg hi;dsimp only at hx hHX hHY hHZ;have hWl:=hW.1;have hi':(i:Int)<16:=(by omega);have hi1:i+1<=16:=hi;have hdx:=zS hx1;have hdy:=zS hy1;have hw:=wr (n:=(i:Int)+1) (by omega) (by omega);simp[-getElem?_pos,e2,e3,e4,e6,e8,hi',hi,hi1];rw[qG rfl];simp[-getElem?_pos,-j5,qM,e2,e3,e4,e6,e8,hi',hi,hi1,hHX,hHY,hWl,hYl,hdx,hdy];refine qc.acall (hF d1 H1 T1 x y hx hg hx2 hy2) ?_;rintro v ⟨H2,T2⟩ ⟨d2,z,rfl,hxx2,hg2,hz,hv2⟩;dsimp only at hv2;have hx2':=hx.call hxx2;have up:∀ {k:Nat} {x:Blk},H.length<=k->H1[k]?=some x->H2[k]?=some x:=fun {k x} hl hq=>hxx2.loc hq (hk k hl)
   have cX:=up (by omega) hHX;have hl2:=(qp5.1 cX).1;simp[-getElem?_pos,qM,e2,e3,e4,e6,e8,hi',hi,hi1,cX,hWl,yR,hw];refine hR _ _ ⟨by simp[e2],by simp[e3],by simp[e4],by simp[e6],by simp,d2,W.set i z,hx2'.set (by omega) _,hg.trans hg2,(hW.grown hg2).set hz,qqa hl2,?_,?_,fun b k hk=>?_⟩
   . rw[qp7 (by omega)];exact up (by omega) hHY
   . rw[qp7 (by omega)];exact up (by omega) hHZ
   . rw[wF (by omega)];by_cases hki:k=i
     . subst hki;have hbk:=hb b k hk;rw[if_neg (by omega)]at hbk;rw[if_pos rfl,if_pos (by omega),hv2,hy3,<- hx3,hbk]
     . rw[if_neg hki,zI hx.ok hg2 hW b hk,hb b k hk];by_cases h1:k<i
       . rw[if_pos h1,if_pos (by omega)]
       . rw[if_neg h1,if_neg (by omega)]
 . rintro ev ⟨H1,T1⟩ ⟨e2,e3,e4,e6,e8,d1,W,hx,hg,hW,hHX,hHY,hHZ,hb⟩;dsimp only at hx hHX hHY hHZ;have hWl:=hW.1;have hHl:=(qp5.1 hHZ).1;simp[-getElem?_pos,e3,e6,e8,hHX,hHZ,hWl,qm hWl,zl hWl (show (qu zb).length=16 from rfl),qO,hHl];exact⟨d1,W,rfl,hx.set (by omega) _,hg,hW,fun b k hk=>by rw[hb b k hk,if_pos hk]⟩
def qkU:List (Nat×Sch×List Nat):=[(5,.step 0 [5,4] (.step 1 [5,4] (.step 2 [5,4,3] (.step 3 [5,4] (.step 4 [5] (.step 5 [] (.done)))))),[4])]
theorem qa0 {d:List Nd}(h:DagOk d){n:Nat}(hn:n<d.length):qZ d (n::List.replicate 15 0):=⟨rfl,fun i hi=>by
 rcases qqv.1 hi with rfl|hi
 . exact hn
 . rw[qrF]at hi;rw[hi.2];have:=h.two;omega⟩
theorem qec {d:List Nd}(h:DagOk d)(b:Nat->Bool)(n k:Nat):qn d b (n::List.replicate 15 0) k=(decide (k=0)&&evD d b n):=by
 unfold qn
 cases k with
 | zero=>simp
 | succ k=>
  have:(n::List.replicate 15 0).getD (k+1) 0=0:=by
   simp only[qqh,qsq,qsr];split<;>rfl
  rw[this,JN h];simp
theorem qoK (h:BX c H d H){X:List Nat}(hX:qZ d X) :
 qg Tryz.prog (XG c) 236 [.ptr c.B 0,.agg (qu X)] ⟨H,T⟩ (UQ c d H fun b=>Vm (qn d b X) 16):=by
 refine qg.kO ⟨false,qkU,[],[]⟩ qe Tryz.func236 rfl (by kernel_rfl) ?_;have hXl:=hX.1;have hk:∀ j,H.length<=j->j≠c.B:=fun j hj=>(h.at hj).1
 have hc0:=yb 0 (by omega);rw[qeO]at hc0;simp only[qrz]at hc0;simp[-getElem?_pos,jP];refine qc.call hc0 (by simp) ?_;simp[-getElem?_pos,jP,hXl,qm hXl,jy,zl (w:=zb) rfl (show (qu zb).length=16 from rfl),qO];refine kx 16 (fun i ev U=>ev 0=.ptr c.B 0/\ev 4=.ptr (H.length+1) 0/\ev 5=.ptr (H.length+2) 0/\ev 9=.agg (qu X)/\ev 10=.int .i64 (i:Int) /\
  ∃ d' S,BX c H d' U.H/\q9 d d'/\qZ d' S/\U.H[H.length+1]?=some (.cells (qu zb))/\U.H[H.length+2]?=some (.cells (qu S)) /\
   ∀ b,zo (qn d' b S) 16=Vm (qn d b X) i) ?_ ?_ ?_
 . exact⟨by simp,by simp,by simp,by simp,by simp,d,zb,h.app _,q9.refl d,kI h.ok,lk1,lk2,fun b=>by rw[kc fun k _=>yV h.ok b k];rfl⟩
 . rintro i ev ⟨H1,T1⟩ R hR hi ⟨e0,e4,e5,e9,e10,d1,S,hx,hg,hS,hHZ,hHS,hv⟩;obtain⟨x,hx1,hx2,hx3⟩:=hX.getG h.ok hg hi;dsimp only at hx hHZ hHS;have hSl:=hS.1;have hi':(i:Int)<16:=(by omega);have hi1:i+1<=16:=hi;have hdx:=zS hx1;have hw:=wr (n:=(i:Int)+1) (by omega) (by omega);simp[-getElem?_pos,e0,e4,e5,e9,e10,hi',hi,hi1,hXl,hdx];rw[qG rfl];simp[-getElem?_pos,qM,e0,e4,e5,e9,e10,hHS,hSl,qm hSl];refine qc.call (jd x) (by simp) ?_;simp[-getElem?_pos,qM,e0,e4,e5,e9,e10];have ht:=hx.ok.two;have h1:=qa0 hx.ok hx2;have hs:=qdF hx.self hS h1 (cn:=0) (T:=T1) (by omega);simp only[List.reduceReplicate,qrz]at hs;refine qc.acall hs ?_;rintro v ⟨H2,T2⟩ ⟨d2,V,rfl,hxx2,hg2,hV,hv2⟩;dsimp only at hv2;have hx2':=hx.call hxx2;have up:∀ {k:Nat} {x:Blk},H.length<=k->H1[k]?=some x->H2[k]?=some x:=fun {k x} hl hq=>hxx2.loc hq (hk k hl)
   have cS:=up (by omega) hHS;have hl2:=(qp5.1 cS).1;have hVl:=hV.1;simp[-getElem?_pos,qM,e0,e4,e5,e9,e10,cS,hVl,hSl,zl hVl (show (qu S).length=16 by rw[jt,hSl]),hw];refine hR _ _ ⟨by simp[e0],by simp[e4],by simp[e5],by simp[e9],by simp,d2,V,hx2'.set (by omega) _,hg.trans hg2,hV,?_,qqa hl2,fun b=>?_⟩
   . rw[qp7 (by omega)];exact up (by omega) hHZ
   . have e1:zo (qn d2 b V) 16=zo (fun k=>(qn d1 b S k ^^ (decide (k=0)&&evD d1 b x)) ^^ qah (qn d1 b S) (fun k=>decide (k=0)&&evD d1 b x) false k) 16:=zq fun k hk=>by
      rw[hv2 b k hk,JN hx.ok];have:=qec hx.ok b x;simp only[List.reduceReplicate]at this;unfold qmT;rw[this k,Jb (x':=qn d1 b S) (y':=fun k=>decide (k=0)&&evD d1 b x) (fun j _=>rfl) (fun j _=>this j)]
     rw[e1,kL,W7 _ 15,hv b,hx3];have:=qd9 (qn d b X) i;have h2:b2n (qn d b X i)<=1:=(by cases qn d b X i<;>simp[b2n]);show (Vm _ i+b2n _+0) % 2 ^ 16=Vm _ i+b2n _;rw[qri];exact qrJ (by omega)
 . rintro ev ⟨H1,T1⟩ ⟨e0,e4,e5,e9,e10,d1,S,hx,hg,hS,hHZ,hHS,hv⟩;dsimp only at hx hHZ hHS;have hSl:=hS.1;have hHl:=(qp5.1 hHZ).1;simp[-getElem?_pos,e0,e4,e5,e10,hHS,hHZ,hSl,qm hSl,zl hSl (show (qu zb).length=16 from rfl),qO,hHl];exact⟨d1,S,rfl,hx.set (by omega) _,hg,hS,hv⟩
end
end
end Go.Proofs.YtoibbcnfhhggnaaGreatDoor
end
