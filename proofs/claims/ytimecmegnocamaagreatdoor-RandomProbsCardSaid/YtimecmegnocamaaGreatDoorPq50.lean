import Derived.Test.YtimecmegnocamaaGreatDoorPq49
set_option maxHeartbeats 16000000
set_option maxRecDepth 100000
set_option linter.all false
set_option linter.defProp false
namespace Go.Proofs.YtimecmegnocamaaGreatDoor
open Go Go.Abs Proofs.Tryz
structure FoB where
 E:Nat
 D:Nat
 G:Nat
 V:Nat
 C:Nat
 K:Nat
 DL:Nat
 KL:Nat
def qsP(b:Bool):AV:=.bool b
def qoy(n:Int):AV:=.int .i64 n
structure FoOk(B:FoB)(nv cf:AV)(e0 e1:Int)(f:Nat)(val:Nat->Int)(H:List Blk):Prop where
 e:H[B.E]?=some (.cells [.int .i64 e0,.int .i64 e1])
 d:H[B.D]?=some (.cells [.ms B.DL 0 (f+1) 1])
 g:H[B.G]?=some (.cells [nv])
 v:H[B.V]?=some (.cells [.fn 161 [] [.ptr B.E 0,.ptr B.D 0,.ptr B.G 0,.ptr B.V 0,.ptr B.C 0,.ptr B.K 0]])
 c:H[B.C]?=some (.cells [cf])
 k:H[B.K]?=some (.cells [.ms B.KL 0 (f+1) 1])
 ne:B.DL≠B.KL
 o:∀b∈[B.E,B.D,B.G,B.V,B.C,B.K],b≠B.DL/\b≠B.KL
 r:∃(dn:List Bool) (kn:List Int),H[B.DL]?=some (.cells (dn.map qsP))/\H[B.KL]?=some (.cells (kn.map qoy))/\dn.length=f+1/\kn.length=f+1/\∀j,dn[j]?=some true->kn[j]?=some (val j)
def FoOk.keep{B nv cf e0 e1 f val H H'}(h:FoOk B nv cf e0 e1 f val H)(hk:KpL [] H H'):FoOk B nv cf e0 e1 f val H':=by
 obtain⟨dn,kn,h1,h2,h3⟩:=h.r;exact⟨hk.2 _ _ h.e (by simp),hk.2 _ _ h.d (by simp),hk.2 _ _ h.g (by simp),hk.2 _ _ h.v (by simp),hk.2 _ _ h.c (by simp),hk.2 _ _ h.k (by simp),h.ne,h.o,dn,kn,hk.2 _ _ h1 (by simp),hk.2 _ _ h2 (by simp),h3⟩
def FoQ(B:FoB)(nv cf:AV)(e0 e1:Int)(f:Nat)(val:Nat->Int)(k:Nat)(H:List Blk)(r:AV)(U':St):Prop:=r=.int .i64 (val k)/\KpL [B.DL,B.KL] H U'.H/\FoOk B nv cf e0 e1 f val U'.H
def qnx:List (Nat×Sch×List Nat):=[(5,.step 0 [9,8,7,3] (.step 1 [9,8,7,3,2] (.step 2 [9,8,7,3] (.step 5 [9,8,7,6] (.fork (.cons 3 (.step 4 [9,8,7] (.step 6 [9,8,7] (.step 7 [9,8] (.step 8 [9] (.step 9 [] (.done)))))) (.cons 4 (.fork (.cons 3 (.step 6 [9,8,7] (.step 7 [9,8] (.step 8 [9] (.step 9 [] (.done))))) (.cons 6 (.step 3 [9,8,7] (.step 7 [9,8] (.step 8 [9] (.step 9 [] (.done))))) (.nil)))) (.cons 6 (.fork (.cons 3 (.step 4 [9,8,7] (.step 7 [9,8] (.step 8 [9] (.step 9 [] (.done))))) (.cons 4 (.step 3 [9,8,7] (.step 7 [9,8] (.step 8 [9] (.step 9 [] (.done))))) (.nil)))) (.nil)))))))),[3,7]),(6,.step 1 [12,11,10,9] (.step 3 [12,11] (.step 4 [12,11,10,9,8] (.step 5 [12,11,10,9,8] (.step 6 [12,11,10,9,8] (.step 7 [12,11,10,9,8] (.fork (.cons 0 (.fork (.cons 2 (.step 8 [12,11,10,9] (.step 9 [12,11,10] (.step 10 [12,11] (.step 11 [12] (.step 12 [] (.done)))))) (.cons 8 (.step 9 [12,11,10] (.fork (.cons 2 (.step 10 [12,11] (.step 11 [12] (.step 12 [] (.done)))) (.cons 10 (.step 2 [12,11] (.step 11 [12] (.step 12 [] (.done)))) (.nil))))) (.nil)))) (.cons 2 (.fork (.cons 0 (.step 8 [12,11,10,9] (.step 9 [12,11,10] (.step 10 [12,11] (.step 11 [12] (.step 12 [] (.done)))))) (.cons 8 (.step 0 [12,11,10,9] (.step 9 [12,11,10] (.step 10 [12,11] (.step 11 [12] (.step 12 [] (.done)))))) (.nil)))) (.cons 8 (.step 0 [12,11,10,9] (.step 9 [12,11,10] (.fork (.cons 2 (.step 10 [12,11] (.step 11 [12] (.step 12 [] (.done)))) (.cons 10 (.step 2 [12,11] (.step 11 [12] (.step 12 [] (.done)))) (.nil)))))) (.nil)))))))))),[8])]
def qsS{dn:List Bool}{k b}(h:dn[k]?=some b):(dn.map qsP).drop k=.bool b::(dn.map qsP).drop (k+1):=by
 have h':(dn.map qsP)[k]?=some (.bool b):=by rw[qBp,h];rfl
 obtain⟨h1,h2⟩:=qAU.1 h';rw[qA9 h1,h2]
def qsb{kn:List Int}{k b}(h:kn[k]?=some b):(kn.map qoy).drop k=.int .i64 b::(kn.map qoy).drop (k+1):=by
 have h':(kn.map qoy)[k]?=some (.int .i64 b):=by rw[qBp,h];rfl
 obtain⟨h1,h2⟩:=qAU.1 h';rw[qA9 h1,h2]
def qsy{B nv cf e0 e1 f val H0 H k r}{dn:List Bool}{kn:List Int}(h:FoOk B nv cf e0 e1 f val H)(hk:k<=f)(h1:H[B.DL]?=some (.cells (dn.map qsP)))(h2:H[B.KL]?=some (.cells (kn.map qoy)))(l1:dn.length=f+1)(l2:kn.length=f+1)
 (hv:∀j,dn[j]?=some true->kn[j]?=some (val j)) (hr:r=val k) (hkp:KpL [B.DL,B.KL] H0 H) (T):FoQ B nv cf e0 e1 f val k H0 (.int .i64 r) ⟨(H.set B.KL (.cells ((kn.map qoy).set k (.int .i64 r)))).set B.DL (.cells ((dn.map qsP).set k (.bool true))),T⟩:=by
 have lD:=(qAU.1 h1).1;have lK:=(qAU.1 h2).1;have hs:∀b∈[B.E,B.D,B.G,B.V,B.C,B.K],∀y z,((H.set B.KL y).set B.DL z)[b]?=H[b]?:=fun b hb y z=>by
  obtain⟨o1,o2⟩:=h.o b hb;rw[qAX (Ne.symm o1),qAX (Ne.symm o2)]
 refine⟨by rw[hr],hkp.trans (qFW (qFY (by simp)) (qFY (by simp))),?_⟩;refine⟨by rw[hs _ (by simp)];exact h.e,by rw[hs _ (by simp)];exact h.d,by rw[hs _ (by simp)];exact h.g,by rw[hs _ (by simp)];exact h.v,by rw[hs _ (by simp)];exact h.c,by rw[hs _ (by simp)];exact h.k,h.ne,h.o,dn.set k true,kn.set k r,?_,?_,by simp[l1],by simp[l2],?_⟩
 . dsimp only;rw[qA0 (by rwa[qCj]),qEf];rfl
 . dsimp only;rw[qAX h.ne,qA0 lK,qEf];rfl
 intro j hj;by_cases hjk:k=j
 . subst hjk;rw[qA0 (by omega),hr]
 rw[qAX hjk]at hj⊢;exact hv j hj
def qsx{B:FoB}(Rc:Nat->Prop){d:List Nd}{tok:Abs.Tok}(hd:DagOk d){c:Nat}{cfr:List AV}{e0 e1:Int}{f:Nat}{val:Nat->Int}(hf:f<d.length)(P:List Blk->Prop)(hP:∀H H',P H->KpL [B.DL,B.KL] H H'->P H')
 (comb:Nd->Int->Int->Int) (hv0:val 0=e0) (hv1:val 1=e1) (hv2:∀k n,Rc k->2<=k->d[k]?=some n->Rc n.2.1/\Rc n.2.2/\val k=comb n (val n.2.1) (val n.2.2))
 (hc:∀k n (H:List Blk) (T:List (Option Nat)),Rc k->2<=k->d[k]?=some n->P H->qj prog GG c ([.agg (qN n),.int .i64 (val n.2.1),.int .i64 (val n.2.2)]++cfr) ⟨H,T⟩ (fun r U'=>r=.int .i64 (comb n (val n.2.1) (val n.2.2))/\KpL [] H U'.H)):
 ∀ (m k:Nat),k<m->k<=f->Rc k->∀(H:List Blk) (T:List (Option Nat)),P H->FoOk B (.sl 3 (d.map qN) tok) (.fn c [] cfr) e0 e1 f val H ->
  qj prog GG 161 [.int .i64 k,.ptr B.E 0,.ptr B.D 0,.ptr B.G 0,.ptr B.V 0,.ptr B.C 0,.ptr B.K 0] ⟨H,T⟩ (FoQ B (.sl 3 (d.map qN) tok) (.fn c [] cfr) e0 e1 f val k H):=by
 intro m
 induction m with
 |zero=>intro k hk;omega
 | succ m ih=>
  intro k hkm hkf hRk H T hPH hok;refine qFn ⟨false,qnx,[],[]⟩ qg func161 rfl (by kernel_rfl) ?_;obtain⟨dn,kn,hdn,hkn,ldn,lkn,hval⟩:=hok.r;obtain⟨bE,bD,bG,bV,bC,bK,hne,ho,-⟩:=id hok;by_cases h2:k<2
  . have fin:∀u,FoQ B (.sl 3 (d.map qN) tok) (.fn c [] cfr) e0 e1 f val k H (.int .i64 (val k)) ⟨H++u,T⟩:=fun u=>⟨rfl,qFX,hok.keep qFX⟩
    have hk01:k=0\/k=1:=(by omega);rcases hk01 with rfl|rfl
    . rw[hv0]at fin;simp[bE];have:=fin [];simpa using this
    rw[hv1]at fin;simp[bE];have:=fin [];simpa using this
  have h2':¬(k:Int)<2:=by omega
  have h2b:2<=k:=by omega
  obtain⟨n,hn⟩:∃n,d[k]?=some n:=⟨_,qAW (by omega)⟩;obtain⟨b,hb⟩:∃b,dn[k]?=some b:=⟨_,qAW (by omega)⟩;have hdr:=qsS hb;have hkl':(k:Int)<f+1:=by omega
  cases b with
  | true=>
   have hkv:=hval k hb;have hdk:=qsb hkv;simp[h2',hkf,bD,bK,hdn,hkn,hdr,hdk,hkl',ldn,lkn];exact⟨rfl,qFV,hok⟩
  | false=>
   obtain⟨hn20,hlo,hhi,-⟩:=hd.node k n h2b hn;obtain⟨nl,lo,hi⟩:=n;dsimp only at hlo hhi;simp[*];rw[qU rfl];have bV0:=qf bV;simp[zg,bV0];have hP0:P (H++[.cells [.int .i64 nl,.int .i64 lo,.int .i64 hi]]):=hP _ _ hPH qFX;have hv2k:=hv2 k _ hRk h2b hn;dsimp only at hv2k;have c1:=ih lo (by omega) (by omega) hv2k.1 (H++[.cells [.int .i64 nl,.int .i64 lo,.int .i64 hi]]) T hP0 (hok.keep qFX);have hlD:=(qAU.1 hdn).1;have hlK:=(qAU.1 hkn).1;have hbX:H.length≠B.DL/\H.length≠B.KL:=⟨by omega,by omega⟩
   repeat' with_reducible refine And.intro ?_ ?_
   all_goals
    refine qFs c1 ?_;rintro r ⟨H1,T1⟩ ⟨rfl,hk1,ok1⟩;have bX1:=hk1.2 _ _ lk0 (by simpa using hbX);have bV1:=ok1.v;have P1:=hP _ _ hP0 hk1;have c2:=ih hi (by omega) (by omega) hv2k.2.1 H1 T1 P1 ok1;simp[*,zg];refine qFs c2 ?_;rintro r ⟨H2,T2⟩ ⟨rfl,hk2,ok2⟩;have bX2:=hk2.2 _ _ bX1 (by simpa using hbX);have P2:=hP _ _ P1 hk2;obtain⟨dn2,kn2,hdn2,hkn2,ldn2,lkn2,hval2⟩:=ok2.r;obtain⟨bE2,bD2,bG2,bV2,bC2,bK2,-,-,-⟩:=id ok2;simp[zg];rw[qU rfl];simp[*,zg]
    repeat' with_reducible refine And.intro ?_ ?_
    all_goals
     have c3:=hc k (nl,lo,hi) H2 T2 hRk h2b hn P2;simp at c3;refine qFs c3 ?_;rintro r ⟨H3,T3⟩ ⟨rfl,hk3⟩;have ok3:=ok2.keep hk3;have hdn3:=hk3.2 _ _ hdn2 (by simp);have hkn3:=hk3.2 _ _ hkn2 (by simp);have bK3:=ok3.k;have bD3:=ok3.d;have lK3:=(qAU.1 hkn3).1;have oK:=ho B.K (by simp);have oD:=ho B.D (by simp);have fin:=qsy (r:=comb (nl,lo,hi) (val lo) (val hi)) ok3 hkf hdn3 hkn3 ldn2 lkn2 hval2 (hv2k.2.2).symm (qFW (qFX.trans (hk1.trans hk2)) (hk3.sub (by simp))) T3;have q1:∀y,(H3.set B.KL y)[B.D]?=some (.cells [.ms B.DL 0 (f+1) 1]):=fun y=>by rw[qAX (Ne.symm oD.2)];exact bD3
     have q2:∀y,(H3.set B.KL y)[B.K]?=some (.cells [.ms B.KL 0 (f+1) 1]):=fun y=>by rw[qAX (Ne.symm oK.2)];exact bK3
     have q3:∀y,(H3.set B.KL y)[B.DL]?=some (.cells (dn2.map qsP)):=fun y=>by rw[qAX (Ne.symm hne)];exact hdn3
     have q4:∀y z,((H3.set B.KL y).set B.DL z)[B.K]?=some (.cells [.ms B.KL 0 (f+1) 1]):=fun y z=>by rw[qAX (Ne.symm oK.1)];exact q2 y
     have q5:∀y z,((H3.set B.KL y).set B.DL z)[B.KL]?=some y:=fun y z=>by rw[qAX hne];exact qA0 lK3
     have q6:∀x,((kn2.map qoy).set k x).drop k=x::(kn2.map qoy).drop (k+1):=fun x=>by
      have hl:k<((kn2.map qoy).set k x).length:=(by simp;omega);rw[qA9 hl,List.getElem_set_self,List.drop_set_of_lt (by omega)]
     simp[zg,q6,bK3,bD3,hkn3,q1,q3,q4,q5,hkf,ldn2,lkn2,hkl'];exact fin
def qkY(Rc:Nat->Prop){d:List Nd}(hd:DagOk d){c:Nat}{cfr:List AV}{e0 e1:Int}{f:Nat}{val:Nat->Int}(hf:f<d.length)(hRf:Rc f)
 (comb:Nd->Int->Int->Int) (hv0:val 0=e0) (hv1:val 1=e1) (hv2:∀k n,Rc k->2<=k->d[k]?=some n->Rc n.2.1/\Rc n.2.2/\val k=comb n (val n.2.1) (val n.2.2)) (H:List Blk) (T:List (Option Nat))
 (hc:∀k n (H':List Blk) (T':List (Option Nat)),Rc k->2<=k->d[k]?=some n->KpL [] H H'->qj prog GG c ([.agg (qN n),.int .i64 (val n.2.1),.int .i64 (val n.2.2)]++cfr) ⟨H',T'⟩ (fun r U'=>r=.int .i64 (comb n (val n.2.1) (val n.2.2))/\KpL [] H' U'.H)):
 qj prog GG 108 [.agg [.sl 3 (d.map qN) .none],.int .i64 f,.agg [.int .i64 e0,.int .i64 e1],.fn c [] cfr] ⟨H,T⟩ (fun r U'=>r=.int .i64 (val f)/\KpL [] H U'.H):=by
 refine qFo qg func108 rfl (by kernel_rfl) ?_;have hdm:=hd.most;have hw:=wr (n:=(f:Int)+1) (by omega) (by omega);have h1:(f:Int)+1<=549755813888:=by omega
 have h2:(0:Int)<=(f:Int)+1:=by omega
 simp[*,qG,show ¬(f:Int)+1=0 by omega];have lk:∀(a b c d e f g h:Blk),(H++[a,b,c,d,e,f,g,h])[H.length]?=some a/\(H++[a,b,c,d,e,f,g,h])[H.length+1]?=some b/\(H++[a,b,c,d,e,f,g,h])[H.length+2]?=some c/\(H++[a,b,c,d,e,f,g,h])[H.length+3]?=some d/\(H++[a,b,c,d,e,f,g,h])[H.length+4]?=some e/\(H++[a,b,c,d,e,f,g,h])[H.length+5]?=some f/\(H++[a,b,c,d,e,f,g,h])[H.length+6]?=some g/\(H++[a,b,c,d,e,f,g,h])[H.length+7]?=some h:=by
  intros
  refine⟨?_,?_,?_,?_,?_,?_,?_,?_⟩<;>simp[]
 have hfo:=qsx (B:=⟨H.length+1,H.length+6,H.length,H.length+7,H.length+2,H.length+4,H.length+5,H.length+3⟩) Rc (tok:=.none) hd (c:=c) (cfr:=cfr) (e0:=e0) (e1:=e1) (f:=f) (val:=val) hf (fun H'=>KpL [] H H')
  (fun H1 H2 h1 h2=>⟨qBN h1.1 h2.1,fun k x hk _=>h2.2 k x (h1.2 k x hk (by simp)) (by have:=(qAU.1 hk).1;simp;omega)⟩) comb hv0 hv1 hv2 hc (f+1) f (by omega) (qA5 _) hRf
 refine qFs (hfo _ _ qFX ?_) ?_
 . obtain⟨a0,a1,a2,a3,a4,a5,a6,a7⟩:=lk (.cells [.sl 3 (d.map qN) .none]) (.cells [.int .i64 e0,.int .i64 e1]) (.cells [.fn c [] cfr]) (.cells (List.replicate (f+1) (.int .i64 0))) (.cells [.ms (H.length+3) 0 (f+1) 1]) (.cells (List.replicate (f+1) (.bool false))) (.cells [.ms (H.length+5) 0 (f+1) 1]) (.cells [.fn 161 [] [.ptr (H.length+1) 0,.ptr (H.length+6) 0,.ptr H.length 0,.ptr (H.length+7) 0,.ptr (H.length+2) 0,.ptr (H.length+4) 0]]);refine⟨a1,a6,a0,a7,a2,a4,by dsimp only;omega,by simp,List.replicate (f+1) false,List.replicate (f+1) 0,by dsimp only;rw[a5,qDW];rfl,by dsimp only;rw[a3,qDW];rfl,by simp,by simp,fun j hj=>?_⟩;rw[qDy]at hj;split at hj<;>cases hj
 rintro r ⟨H1,T1⟩ ⟨rfl,hk1,-⟩;simp;exact⟨qBN (by simp) hk1.1,fun k x hk _=>hk1.2 k x (qf hk _) (by have:=(qAU.1 hk).1;simp;omega)⟩
def qaK{d:List Nd}{k n:Nat}(hk:k<d.length):Pure prog GG 111 [.agg [.sl 3 (d.map qN) .none,.int .i64 n],.int .i64 k] (.int .i64 (ve d n k:Nat)):=by
 refine qFm qg func111 rfl (by kernel_rfl) ?_;obtain⟨x,hx⟩:∃x,d[k]?=some x:=⟨_,qAW hk⟩;have hl:wV (.int .i64 (x.1:Int)) (.int .i64 (n:Int))=some (.int .i64 (ve d n k:Nat)):=by
  have:ve d n k=min x.1 n:=by unfold ve;rw[zV hx]
  rw[this];simp only[wV];congr 2;split<;>omega
 simp[hx,hl]
def qyK(a s:Nat)(hs:s<=20)(ha:a*2^s<2^62):IntKind.i64.wrap ((a:Int)*2^(min s 64))=((a*2^s:Nat):Int):=by
 rw[show min s 64=s by omega,show((a:Int)*2^s)=((a*2^s:Nat):Int) by simp];generalize a*2^s=N at ha;rw[wr (by omega) (by omega)]
def qs0(d:List Nd)(n:Nat)(x:Nd)(a b:Int):Int:=a*2^(ve d n x.2.1-(x.1+1))+b*2^(ve d n x.2.2-(x.1+1))
def qo1{d}(hd:DagOk d){n k:Nat}{x}(hn:n<=20)(h2:2<=k)(hx:d[k]?=some x)(hdp:yM d k<n){C H}(hC:H[C]?=some (.cells [.sl 3 (d.map qN) .none,.int .i64 n]))(T):
 qj prog GG 162 [.agg (qN x),.int .i64 (YN d n x.2.1:Nat),.int .i64 (YN d n x.2.2:Nat),.ptr C 0] ⟨H,T⟩ (fun r U'=>r=.int .i64 (YN d n k:Nat)/\KpL [] H U'.H):=by
 refine qFo qg func162 rfl (by kernel_rfl) ?_;obtain⟨c1,c2,c3,c4,c5,c6⟩:=qdf hd hn h2 hx hdp;obtain⟨g1,g2,g3,g4,g5,g6⟩:=hd.node k x h2 hx;have hk:=(qAU.1 hx).1;have b1:=qlt d n x.2.1;have b2:=qlt d n x.2.2;have l1:=qaK (d:=d) (k:=x.2.1) (n:=n) (by omega);have l2:=qaK (d:=d) (k:=x.2.2) (n:=n) (by omega);have m1:ve d n x.2.1<=n:=qDi _ _;have m2:ve d n x.2.2<=n:=qDi _ _;obtain⟨L,lo,hi⟩:=x;dsimp only at *;generalize YN d n lo=A at *;generalize YN d n hi=B at *;generalize ve d n lo=P at *;generalize ve d n hi=Q at *;have p20:∀{a m s:Nat},a<=2^m->m+s<=20->a*2^s<=2^20:=fun {a m s} h1 h2=>by
  have:=qBU (2^s) h1;rw[<- qEX]at this;exact qBN this (qBn (by omega) h2)
 have e1:=p20 (s:=P-(L+1)) b1 (by omega);have e2:=p20 (s:=Q-(L+1)) b2 (by omega);have s1:=qyK A (P-(L+1)) (by omega) (by omega);have s2:=qyK B (Q-(L+1)) (by omega) (by omega);rw[c6];generalize A*2^(P-(L+1))=U_ at *;generalize B*2^(Q-(L+1))=V at *;have w1:=wr (n:=(P:Int)-L) (by omega) (by omega);have w2:=wr (n:=(P:Int)-L-1) (by omega) (by omega);have w3:=wr (n:=(Q:Int)-L) (by omega) (by omega);have w4:=wr (n:=(Q:Int)-L-1) (by omega) (by omega);have w5:=wr (n:=(U_:Int)+V) (by omega) (by omega);have q1:(P:Int)-L-1=((P-(L+1):Nat):Int):=by omega
 have q2:(Q:Int)-L-1=((Q-(L+1):Nat):Int):=by omega
 rw[q1]at w2;rw[q2]at w4;have hC0:=qf hC;simp[-zz,hC0];refine qFp l1 (by simp) ?_;simp[*,-zz,J2,show ¬((P-(L+1):Nat):Int)<0 by omega,IntKind.bits];refine qFp l2 (by simp) ?_;simp[*,-zz,J2,KE,show ¬((Q-(L+1):Nat):Int)<0 by omega,IntKind.bits];exact qFX
def qqj{d}(hd:DagOk d){n:Nat}(hn:n<=20):∀k x,(k<d.length/\yM d k<n)->2<=k->d[k]?=some x->(x.2.1<d.length/\yM d x.2.1<n)/\(x.2.2<d.length/\yM d x.2.2<n)/\(YN d n k:Int)=qs0 d n x (YN d n x.2.1:Nat) (YN d n x.2.2:Nat):=fun k x hk h2 hx=>by
 obtain⟨c1,c2,c3,c4,c5,c6⟩:=qdf hd hn h2 hx hk.2;obtain⟨g1,g2,g3,g4,g5,g6⟩:=hd.node k x h2 hx;refine⟨⟨by omega,c4⟩,⟨by omega,c5⟩,?_⟩;rw[c6];simp[qs0]
def qo2{d}(hd:DagOk d){n k:Nat}(hn:n<=20)(hk:k<d.length)(hdp:yM d k<n)(H T):
 qj prog GG 110 [.agg [.sl 3 (d.map qN) .none,.int .i64 n],.int .i64 k] ⟨H,T⟩ (fun r U'=>r=.int .i64 (YN d n k:Nat)/\KpL [] H U'.H):=by
 refine qFo qg func110 rfl (by kernel_rfl) ?_;have hf:=qkY (fun k=>k<d.length/\yM d k<n) hd (c:=162) (cfr:=[.ptr H.length 0]) (e0:=0) (e1:=1) (f:=k) (val:=fun k=>(YN d n k:Nat)) hk ⟨hk,hdp⟩ (qs0 d n) (by rw[qvR hd hn];rfl) (by rw[qvQ hd hn];rfl) (qqj hd hn)
  (H++[.cells [.sl 3 (d.map qN) .none,.int .i64 n]]) T (fun k x H' T' hk h2 hx hk'=>by
    have:=qo1 hd hn h2 hx hk.2 (C:=H.length) (H:=H') (hk'.2 _ _ lk0 (by simp)) T';rw[<- (qqj hd hn k x hk h2 hx).2.2];exact this)
 simp;refine qFs hf ?_;rintro r ⟨H1,T1⟩ ⟨rfl,hk1⟩;simp;exact qFX.trans hk1
def qnD:List (Nat×Sch×List Nat):=[(1,.step 0 [9,8,7,5,2] (.step 1 [9,8,7,5,2] (.step 4 [9,8,7,5] (.step 6 [9,8,7] (.fork (.cons 2 (.step 3 [9,8,7,5] (.step 5 [9,8,7] (.step 7 [9,8] (.step 8 [9] (.step 9 [] (.done)))))) (.cons 3 (.step 2 [9,8,7,5] (.step 5 [9,8,7] (.step 7 [9,8] (.step 8 [9] (.step 9 [] (.done)))))) (.nil))))))),[2])]
def qsw{d}(hd:DagOk d){n k:Nat}(hn:n<=20)(hk:k<d.length)(hdp:yM d k<n)(H T):
 qj prog GG 60 [.agg [.sl 3 (d.map qN) .none,.int .i64 n],.int .i64 k,.int .i64 0] ⟨H,T⟩ (fun r U'=>r=.int .i64 (V0 d 0 n k:Nat)/\KpL [] H U'.H):=by
 refine qFn ⟨false,qnD,[],[]⟩ qg func60 rfl (by kernel_rfl) ?_;have hb:=qo2 hd hn hk hdp (H++[.cells [.sl 3 (d.map qN) .none,.int .i64 n]]) T;have hl:=qaK (d:=d) (k:=k) (n:=n) hk;have hc:=Wy (d:=d) (n:=n) (k:=k) (l:=0) (qCO _);have hle:=qba d n 0 k;have m1:ve d n k<=n:=qDi _ _;rw[qEd,qEd]at hc;rw[hc]at hle⊢;have h20:(2:Nat)^n<=2^20:=qBn (by omega) hn;have s1:=qyK (YN d n k) (ve d n k) (by omega) (by omega);generalize YN d n k*2^ve d n k=U_ at *;generalize YN d n k=A at *;generalize ve d n k=P at *;have w1:=wr (n:=(P:Int)) (by omega) (by omega);simp;rw[qU rfl];simp[zg];refine⟨qFs hb ?_,qFs hb ?_⟩
 all_goals
  rintro r ⟨H1,T1⟩ ⟨rfl,hk1⟩;have b1:=hk1.2 _ _ lk0 (by simp);simp[zg,b1];refine qFp hl (by simp) ?_;simp[*,-zz,zg,J2,show ¬(P:Int)<0 by omega,IntKind.bits];exact qFX.trans hk1
def qsB{d:List Nd}(hd:DagOk d){n k:Nat}(hn:n<=20)(hk:k<d.length)(hdp:yM d k<n)(H:List Blk)(T:List (Option Nat)):
 qj prog GG 59 [.agg (zO d),.int .i64 k,.int .i64 n] ⟨H,T⟩ (fun r U'=>r=.bool true/\KpL [] H U'.H):=by
 refine qFo qg func59 rfl (by kernel_rfl) ?_;have hf:=qkY (fun _=>True) hd (c:=109) (cfr:=[]) (e0:=-1) (e1:=-1) (f:=k) (val:=yM d) hk trivial Z7 qkX qkW (fun k x _ h2 hx=>⟨trivial,trivial,wY hd h2 hx⟩)
  (H++[.cells (zO d)]) T (fun k x H' T' _ h2 hx hk'=>qsA x _ _ H' T')
 simp at hf;have hv:=Wt d hd;simp at hv;generalize yM d k=D at *;simp[show ¬(n:Int)<0 by omega,show ¬(20:Int)<n by omega,show ¬d.length<=k by omega];refine qFp hv (by simp) ?_;simp[show ¬(k:Int)<0 by omega,show ¬(d.length:Int)<=k by omega];refine qFs hf ?_;rintro r ⟨H1,T1⟩ ⟨rfl,hk1⟩;simp[hdp];exact qFX.trans hk1
def qsZ{d}(hd:DagOk d){n k:Nat}(hn:n<=20)(hk:k<d.length)(hdp:yM d k<n)(H T):
 qj prog GG 31 [.agg (zO d),.int .i64 k,.int .i64 n] ⟨H,T⟩ (fun r U'=>r=.tup [.int .i64 (V0 d 0 n k:Nat),.int .i64 0]/\KpL [] H U'.H):=by
 refine qFo qg func31 rfl (by kernel_rfl) ?_;have hf:=qsB hd hn hk hdp (H++[.cells (zO d)]) T;simp at hf;simp;refine qFs hf ?_;rintro r ⟨H1,T1⟩ ⟨rfl,hk1⟩;have b1:=hk1.2 _ _ lk0 (by simp);simp[b1];refine qFs (qsw hd hn hk hdp H1 T1) ?_;rintro r ⟨H2,T2⟩ ⟨rfl,hk2⟩;simp;exact qFX.trans (hk1.trans hk2)
structure RnH(p):Prop where
 q:VQ p
 v20:p.vars.length<=20
 bits:wh p.vars (qQ p)<=18
 dl:p.dists.length<=10000
 sl:p.soft.length<=10000
 wl:∀d∈p.dists,d.weights.length<=1000
noncomputable def yz(p:Problem):Nat×Int:=if(qC p).2≠0 then(0,(qC p).2) else(qtv p (qC p).1,0)
def qrB:List (Nat×Sch×List Nat):=[(5,.step 0 [14,13,12,11,10,3,2,1] (.step 1 [14,13,12,11,10,3,2] (.step 2 [14,13,12,11,10,3] (.step 3 [14,13,12,11,10] (.step 4 [14,13,12,11,10,7,6,5] (.step 5 [14,13,12,11,10,7,6] (.step 6 [14,13,12,11,10,7] (.step 7 [14,13,12,11,10] (.step 8 [14,13,12,11,10,9] (.step 9 [14,13,12,11,10] (.step 10 [14,13,12,11] (.step 11 [14,13] (.step 12 [14,13] (.step 13 [14] (.step 14 [] (.done))))))))))))))),[10])]
def RnH.LW{p}(h:RnH p)(hv:qo p=0):LW p (NG p).flatten<=18:=by
 have h1:=qmh hv h.q.vars;have h2:=h.bits;omega
def RnH.all{p}(h:RnH p)(hv:qo p=0):(jH p.vars).length<=2^18:=by
 have h3:=(qbf hv).length_eq;rw[qBA,qbo]at h3;rw[<- h3];exact qBn (by omega) (h.LW hv)
def qdE(p)(h:RnH p)(H T):
 qj prog GG 11 [.agg (qA p)] ⟨H,T⟩ (fun r U'=>r=.tup [.int .i64 (yz p).1,.int .i64 (yz p).2]/\KpL [] H U'.H):=by
 refine qFn ⟨false,qrB,[],[]⟩ qg func11 rfl (by kernel_rfl) ?_;have hop:=qfX p h.q h.v20 h.bits h.dl h.sl h.wl (H++[.cells (qA p)]) T;obtain⟨res,hres⟩:∃res,res=yz p:=⟨_,rfl⟩;rw[<- hres];unfold yz at hres;simp at hop;simp;refine qFs hop ?_;rintro v ⟨H1,T1⟩ ⟨hk1,hr⟩;have b0:=hk1.2 _ _ lk0 (by simp);have hkH:=qFX.trans hk1;rcases hr with⟨he,rfl⟩|⟨he,s,d,rfl,hS,hL,hLL,hsp,hsR,hso,hsv,hroot⟩
 . rw[if_pos he]at hres;subst hres;simp[he];exact hkH
 rw[if_neg (by simp[he])]at hres;subst hres;subst hsp;have hv:=hsv.vp;have hsc:=hso.c;simp only[spE,qA,qBl,qBk]at hsc
 cases hsm:s.small with
 | true=>
  obtain⟨hd,⟨tok,hdv⟩,hrt⟩:=hsv.dag hsm;obtain⟨c1,c2⟩:=qoK hv hd hrt (hroot hsm);have hb:=qlM s.p h.q h.v20;have hlw:=h.LW hv;rw[<- qmh hv h.q.vars]at hb;have hc:=qsZ hd (n:=LW s.p (NG s.p).flatten) (k:=s.root) (by omega) hrt c1 H1 T1;rw[c2]at hc;rw[hsm,hdv]at hsc;simp only[qA]at hb;generalize qtv s.p (qC s.p).1=N at *;simp[hsc];rw[qU rfl];simp[*,zg];refine qFp hb (by simp) ?_;simp[zg];refine qFs (hc.leq (by simp[zO])) ?_;rintro r ⟨H2,T2⟩ ⟨rfl,hk2⟩;simp[zg];exact hkH.trans hk2
 | false=>
  have hen:=qvJ (s:=s) h.q (fun v hv'=>by have:=zi (jd hv v hv');omega) hsv.rl (fun e he'=>(hsv.rk e he').2) (qBN (h.all hv) (by decide)) hso T1;rw[qki hv,hsR]at hen;rw[hsm]at hsc;generalize qtv s.p (qC s.p).1=N at *;simp[hsc];refine qFs hen ?_;rintro r ⟨H2,T2⟩ ⟨rfl,hk2⟩;simp;exact hkH.trans hk2
def qfa(p)(h:RnH p):Pure prog GG 11 [.agg (qA p)] (.tup [.int .i64 (yz p).1,.int .i64 (yz p).2]):=by
 refine Pure.ofA (qdE p h [] []) ?_;rintro v U' ⟨rfl,-⟩;rw[qF (by simp)];exact⟨by simp,qFw _⟩
noncomputable def yH(p:Problem)(gi:Int)(a:List Int):Int×Int:=if(qC p).2≠0 then(0,(qC p).2) else vX p gi a
def qpi(p)(h:RnH p)(gi){r a H}(ha:AsR r a H)(T):
 qj prog GG 13 [.agg (qA p),.int .i64 gi,r] ⟨H,T⟩ (fun v U'=>v=.tup [.int .i64 (yH p gi a).1,.int .i64 (yH p gi a).2]/\KpL [] H U'.H):=by
 refine qFo qg func13 rfl (by kernel_rfl) ?_;have hop:=qfX p h.q h.v20 h.bits h.dl h.sl h.wl (H++[.cells (qA p)]) T;obtain⟨res,hres⟩:∃res,res=yH p gi a:=⟨_,rfl⟩;rw[<- hres];unfold yH at hres;simp at hop;simp;refine qFs hop ?_;rintro v ⟨H1,T1⟩ ⟨hk1,hr⟩;have hkH:=qFX.trans hk1;rcases hr with⟨he,rfl⟩|⟨he,s,d,rfl,hS,hL,hLL,hsp,hsR,hso,hsv,hroot⟩
 . rw[if_pos he]at hres;subst hres;simp[he];exact hkH
 rw[if_neg (by simp[he])]at hres;have hR:SpR p s d:=⟨hsp,hsR,hsv,hroot⟩;have ht:=qd0 hsv gi hso (ha.keep hkH (by simp)) T1;rw[hR.tot,<- hres]at ht;simp;refine qFs ht ?_;rintro v ⟨H2,T2⟩ ⟨rfl,hk2⟩;simp;exact hkH.trans hk2
def qtk(p)(h:RnH p)(gi a):Pure prog GG 13 [.agg (qA p),.int .i64 gi,.sl 1 (a.map qh) .none] (.tup [.int .i64 (yH p gi a).1,.int .i64 (yH p gi a).2]):=by
 refine Pure.ofA (qpi p h gi (H:=[]) (.inl ⟨.none,rfl⟩) []) ?_;rintro v U' ⟨rfl,-⟩;rw[qF (by simp)];exact⟨by simp,qFw _⟩
noncomputable def Zr(p:Problem)(gi:Int)(a:List Int)(k:Int):List Int×Int :=
 if(yH p gi a).2≠0 then([],(yH p gi a).2) else if k<0\/(yH p gi a).1<=k then([],12) else(JL p gi.toNat a k,0)
def ChO(o:List Int×Int)(H:List Blk)(v:AV)(U':St):Prop:=KpL [] H U'.H/\∃w b,v=.tup [w,.int .i64 o.2]/\qiK b U'.H w o.1
def qmQ(p R fx g c):qbr p R fx g c<=lim:=by
 cases g with
 |nil=>unfold qbr lim;split<;>omega
 | cons i r=>
  unfold qbr;split
  . exact yZ _ _ _ (qCO _)
  exact qCO _
def qfp{p gi a}(h:(vX p gi a).2=0):0<=gi/\gi.toNat<(NG p).length/\qL p.vars a=true/\1<=(vX p gi a).1/\(vX p gi a).1<lim:=by
 unfold vX at h⊢;split at h
 . cases h
 rename_i hc;rw[if_neg hc];split at h
 . cases h
 rename_i h0;rw[if_neg h0];split at h
 . cases h
 rename_i h1;rw[if_neg h1];have hle:qiF p (fun _=>none) a gi.toNat<=lim:=qmQ _ _ _ _ _;refine⟨?_,?_,?_,?_,?_⟩
 . exact Int.not_lt.1 fun e=>hc (.inl e)
 . have:¬gi<0:=fun e=>hc (.inl e)
   have:¬((NG p).length:Int)<=gi:=fun e=>hc (.inr (.inl e))
   omega
 . cases hA:qL p.vars a with
   |true=>rfl
   |false=>exact absurd (.inr (.inr hA)) hc
 . dsimp only;omega
 dsimp only;omega
def qmj(p)(h:RnH p)(hl12:qo p=0->(NG p).flatten.length<=12)(gi){r a H}(ha:AsR r a H)(k T):
 qj prog GG 14 [.agg (qA p),.int .i64 gi,r,.int .i64 k] ⟨H,T⟩ (ChO (Zr p gi a k) H):=by
 refine qFo qg func14 rfl (by kernel_rfl) ?_;have hop:=qfX p h.q h.v20 h.bits h.dl h.sl h.wl (H++[.cells (qA p)]) T;obtain⟨res,hres⟩:∃res,res=Zr p gi a k:=⟨_,rfl⟩;rw[<- hres];unfold Zr at hres;simp at hop;simp;refine qFs hop ?_;rintro v ⟨H1,T1⟩ ⟨hk1,hr⟩;have hkH:=qFX.trans hk1;rcases hr with⟨he,rfl⟩|⟨he,s,d,rfl,hS,hL,hLL,hsp,hsR,hso,hsv,hroot⟩
 . have hto:yH p gi a=(0,(qC p).2):=if_pos he;rw[hto,if_pos he]at hres;subst hres;simp[he];exact⟨hkH,_,0,rfl,.inl ⟨rfl,_,_,rfl⟩⟩
 have hto:yH p gi a=vX p gi a:=if_neg (by simp[he]);rw[hto]at hres;have hR:SpR p s d:=⟨hsp,hsR,hsv,hroot⟩;have hv:=hsv.vp;rw[hsp]at hv;have ht:=qd0 hsv gi hso (ha.keep hkH (by simp)) T1;rw[hR.tot]at ht;have hok:=qfp (p:=p) (gi:=gi) (a:=a);have hch:=fun h1 h2 idx=>hR.ch (a:=a) (gi:=gi.toNat) h1 h2 idx
 generalize vX p gi a=tt at *;obtain⟨n,e⟩:=tt;simp;refine qFs ht ?_;rintro v ⟨H2,T2⟩ ⟨rfl,hk2⟩;have hkk:=hkH.trans hk2;by_cases he0:e=0
 . subst he0;rw[if_neg (by simp)]at hres;obtain⟨g0,g1,has,n1,n2⟩:=hok rfl;by_cases hk0:k<0
   . rw[if_pos (.inl hk0)]at hres;subst hres;simp[hk0];exact⟨hkk,_,0,rfl,.inl ⟨rfl,_,_,rfl⟩⟩
   by_cases hk1:n<=k
   . rw[if_pos (.inr hk1)]at hres;subst hres;simp[*];exact⟨hkk,_,0,rfl,.inl ⟨rfl,_,_,rfl⟩⟩
   rw[if_neg (fun h=>h.elim hk0 hk1)]at hres;have hc:=qoT hsv (by rw[hsp];exact hl12 hv) (gi:=gi.toNat) (by rwa[hsp]) (r:=r) (a:=a) (by rw[hsp];exact Zs hv has) (by rw[hsp];exact(QU hv has).1) (hso.keep hk2 (by simp) (by simp) (by simp)) (ha.keep hkk (by simp)) T2 (idx:=k) (by omega) (by unfold lim at n2;omega);rw[hch has g1 k,show((gi.toNat:Nat):Int)=gi by omega]at hc;simp[*];refine qFs hc ?_;rintro v ⟨H3,T3⟩ ⟨hk3,N,rfl,hN1,hN2⟩;subst hres;simp;refine⟨hkk.trans hk3,_,N,rfl,?_⟩;by_cases hnil:JL p gi.toNat a k=[]
   . exfalso;have hlen:=congrArg List.length hnil;rw[qeT,(QU hv has).1]at hlen;obtain⟨g,hg⟩:∃g,(NG p)[gi.toNat]?=some g:=⟨_,qAW g1⟩;have hg':=qAV hg;have hgn:g≠[]:=by
      obtain⟨g',hg2,rfl⟩:=qBj.1 hg';have:=(j5 hv).1 g' hg2;simpa using this
     have h1:=qmf hv
     cases g with
     |nil=>exact hgn rfl
     | cons x g=>
      have hx:x∈(NG p).flatten:=qBv.2 ⟨_,hg',by simp⟩;have h2:=qEY hx;have h3:p.vars.length=0:=(by simpa using hlen);omega
   exact .inr ⟨hnil,rfl,hN2⟩
 rw[if_pos he0]at hres;subst hres;simp[he0];exact⟨hkk,_,0,rfl,.inl ⟨rfl,_,_,rfl⟩⟩
def qpm(p)(h:RnH p)(hl12:qo p=0->(NG p).flatten.length<=12)(gi a k):
 Pure prog GG 14 [.agg (qA p),.int .i64 gi,.sl 1 (a.map qh) .none,.int .i64 k] (.tup [.sl 1 ((Zr p gi a k).1.map qh) .none,.int .i64 (Zr p gi a k).2]):=by
 refine Pure.ofA (qmj p h hl12 gi (H:=[]) (.inl ⟨.none,rfl⟩) k []) ?_;rintro v U' ⟨_,w,b,rfl,hr⟩;obtain⟨h1,h2,h3⟩:=hr.frz 6;exact vz h1 h2 h3
def yI(p:Problem)(gi:Nat)(a:List Int):Nat:=((NG p).getD gi []).foldl (fun n i=>sat (n*wtP p i (aN a i))) 1
def qrz:List (Nat×Sch×List Nat):=[(5,.step 0 [12,11] (.step 1 [12,11,10,4,3,2] (.step 2 [12,11,10,4,3] (.step 3 [12,11,10,4] (.step 4 [12,11,10] (.step 5 [12,11,10] (.step 6 [12,11,10,9,8] (.step 7 [12,11,10,9,8] (.step 8 [12,11,10,9] (.step 9 [12,11,10] (.step 10 [12,11] (.step 11 [12] (.step 12 [] (.done))))))))))))),[10])]
def qjT{s d}(h:SpV s d){gi}(hgi:gi<(NG s.p).length){r a H}(hao:AOk s.p a)(hs:SpOk s H)(ha:AsR r a H)(T):
 qj prog GG 20 [.ptr s.S 0,.int .i64 gi,r] ⟨H,T⟩ (fun v U'=>v=.int .i64 (yI s.p gi a:Nat)/\KpL [] H U'.H):=by
 refine qFn ⟨false,qrz,[],[]⟩ qg func20 rfl (by kernel_rfl) ?_;have hS:=hs.c;have hG:=WL h.vp;obtain⟨g,hg⟩:∃g,(NG s.p)[gi]?=some g:=⟨_,qAW hgi⟩;have hl:=(JS h.vp h.vq.vars).1 g (qAV hg);simp only[spE,qA,qBl,qBk,hG]at hS;unfold yI;rw[show(NG s.p).getD gi []=g by simp[qA8,hg]];simp[hS,hg,yv];refine qFF g (fun dn ev U=>ev 0=.ptr s.S 0/\ev 2=r/\ev 7=.int .i64 (dn.foldl (fun n i=>sat (n*wtP s.p i (aN a i))) 1:Nat)/\ev 17=.sl 1 (g.map zJ) .none/\ev 18=.int .i64 g.length/\ev 19=.int .i64 dn.length/\KpL [] H U.H) ?_ ?_ ?_
 . exact⟨by simp,by simp,by simp,by simp,by simp,by simp,qFV⟩
 . rintro dn i rest ev ⟨H1,T1⟩ R hR hdl hx hlt ⟨e0,e2,e7,e17,e18,e19,hk⟩;obtain⟨v,l,hv,hw0,hw8,hll,hl20,hwn⟩:=(h.gr fun i hi=>qBv.2 ⟨g,qAV hg,hi⟩) i (qAV hx);obtain⟨x,hax,hxb⟩:=hao i ((fun i hi=>qBv.2 ⟨g,qAV hg,hi⟩) i (qAV hx));have hs1:=hs.keep hk (by simp) (by simp) (by simp);have hS1:=hs1.c;simp only[spE,qA,qBl,qBk,hG]at hS1;obtain⟨u,hu1,hu2⟩:=(ha.keep hk (by simp)).at0 hax;have hdw:=wr (n:=(dn.length:Int)+1) (by omega) (by omega);obtain⟨o,ho⟩:∃o,(jc s.p.vars.length s.p.dists)[i]?=some o:=⟨_,qAW (by rw[ye];exact(qAU.1 hv).1)⟩;have hweigh:=qaa s.p hs1.w ho (fun w hw=>hwn w (by rw[ho,hw])) (x:Int) T1;rw[<- show wtP s.p i x=wtO o (x:Int) by simp[wtP,qA8,ho]]at hweigh;have hwle:=qfb s.p i x;have haN:aN a i=x:=(by unfold aN;rw[qA8,hax];simp);have hsnoc:(dn++[i]).foldl (fun n i=>sat (n*wtP s.p i (aN a i))) 1=sat (dn.foldl (fun n i=>sat (n*wtP s.p i (aN a i))) 1*wtP s.p i x):=(by rw[qBX,<- haN];rfl);have hacc:dn.foldl (fun n i=>sat (n*wtP s.p i (aN a i))) 1<=lim:=by
    have:∀(l:List Nat) (n:Nat),n<=lim->l.foldl (fun n i=>sat (n*wtP s.p i (aN a i))) n<=lim:=by
     intro l
     induction l with
     |nil=>intro n hn;exact hn
     |cons y l ih=>intro n hn;rw[qBw];exact ih _ (Kh _)
    exact this dn 1 (by decide)
   generalize dn.foldl (fun n i=>sat (n*wtP s.p i (aN a i))) 1=acc at *;generalize wtP s.p i x=wx at *;have ht:=qak acc wx hacc hwle;simp[-zH,-kD,e17,e18,e19,show(dn.length:Int)<g.length by omega,show zH (Dof prog) 28 (.sl 1 (g.map zJ) .none) (.int .i64 (dn.length:Nat))=some (.rptr [.int .i64 i]) by simp[-getElem?_pos,hx,zJ],show ∀U,kD (Dof prog) U 3 (.rptr [.int .i64 (i:Int)])=some (.int .i64 i) from fun U=>by simp];rw[qU rfl];simp[-zH,-kD,zg,show kD (Dof prog) ⟨H1,T1⟩ 71 (.ptr s.S 10)=some (.fn 70 [] [.ptr s.L 0]) by simp[-getElem?_pos,hS1],e0,e2,e7,hu1,hu2];refine qFs hweigh ?_;rintro w U ⟨rfl,rfl⟩;simp;refine qFp ht rfl ?_;simp[e19,hdw];exact hR _ _ ⟨by simp[e0],by simp[e2],by simp[hsnoc],by simp[e17],by simp[e18],by simp,hk⟩
 rintro ev ⟨H1,T1⟩ ⟨e0,e2,e7,e17,e18,e19,hk⟩;simp[e7,e18,e19];exact hk
noncomputable def Kz(p:Problem)(a:List Int):List Nat->Nat->Nat->Nat×Nat×Int
 |[],n,d=>(n,d,0)
 | gi::rest,n,d=>
  if(vX p gi a).2≠0 then(0,0,(vX p gi a).2)
  else if(yk n d (yt (yI p gi a) (vX p gi a).1.toNat).1 (yt (yI p gi a) (vX p gi a).1.toNat).2).2.2≠0 then(0,0,3)
  else Kz p a rest (yk n d (yt (yI p gi a) (vX p gi a).1.toNat).1 (yt (yI p gi a) (vX p gi a).1.toNat).2).1 (yk n d (yt (yI p gi a) (vX p gi a).1.toNat).1 (yt (yI p gi a) (vX p gi a).1.toNat).2).2.1
noncomputable def Qd(p:Problem)(a:List Int):Nat×Nat×Int :=
 if(qC p).2≠0 then(0,0,(qC p).2) else if qL p.vars a=false then(0,0,1) else if(qC p).1.all (yi p a)=false then(0,1,0)
 else Kz p a (List.range (NG p).length) 1 1
structure FrOk(n d):Prop where
 nl:n<9223372036854775808
 dl:d<9223372036854775808
 pos:0<d
 cop:Nat.gcd n d=1
def qkp{a b}(ha:a<9223372036854775808)(hb:b<9223372036854775808)(h0:0<b):FrOk (yt a b).1 (yt a b).2:=by
 have hg:0<Nat.gcd a b:=qB4 _ h0;exact⟨qB3 (qBQ _ _) ha,qB3 (qBQ _ _) hb,qD8 (qDn h0 (qCE _ _)) hg,qDH hg⟩
def qpQ{a b c d}(h:FrOk a b)(g:FrOk c d)(he:(yk a b c d).2.2=0):FrOk (yk a b c d).1 (yk a b c d).2.1:=by
 have hc:=Qc h.pos g.pos h.cop g.cop;unfold yk Vt at *;split at he
 . rename_i hlt;rw[if_pos hlt];exact⟨hlt.1,hlt.2,(qDF (qD8 (qDn h.pos (qCE _ _)) (qB4 _ h.pos)) (qD8 (qDn g.pos (qCE _ _)) (qB4 _ g.pos))),hc⟩
 cases he
def qym(a b c d):(yk a b c d).2.2≠0->(yk a b c d).2.2=3:=by
 unfold yk Vt;split<;>simp
def qnf(p gi a):yI p gi a<=lim:=by
 have:∀(l:List Nat) (n:Nat),n<=lim->l.foldl (fun n i=>sat (n*wtP p i (aN a i))) n<=lim:=by
  intro l
  induction l with
  |nil=>intro n hn;exact hn
  |cons y l ih=>intro n hn;rw[qBw];exact ih _ (Kh _)
 exact this _ 1 (by decide)
def PrQ(o:Nat×Nat×Int)(H:List Blk)(v:AV)(U':St):Prop:=v=.tup [.agg [.int .i64 (o.1:Nat),.int .i64 (o.2.1:Nat)],.int .i64 o.2.2]/\KpL [] H U'.H
def qtm(p)(h:RnH p)(a)(haf:Fits a)(H T):
 qj prog GG 7 [.agg (qA p),.sl 1 (a.map qh) .none] ⟨H,T⟩ (PrQ (Qd p a) H):=by
 refine qFo qg func7 rfl (by kernel_rfl) ?_;have hop:=qfX p h.q h.v20 h.bits h.dl h.sl h.wl (H++[.cells (qA p),.cells [.int .i64 0,.int .i64 0]]) T;obtain⟨res,hres⟩:∃res,res=Qd p a:=⟨_,rfl⟩;rw[<- hres];unfold Qd at hres;simp only[qA]at hop;simp;refine qFs hop ?_;rintro v ⟨H1,T1⟩ ⟨hk1,hr⟩;dsimp only at hk1;have b0:=hk1.2 _ _ lk0 (by simp);have b1:=hk1.2 _ _ lk1 (by simp);have b1l:=(qAU.1 b1).1;have hkH:=qFX.trans hk1
 -- what is returned
 have out:∀(H2:List Blk) (T2:List (Option Nat)) (n d:Nat) (e:Int),res=(n,d,e)->KpL [] H H2->PrQ res H (.tup [.agg [.int .i64 n,.int .i64 d],.int .i64 e]) ⟨H2.set (H.length+1) (.cells [.int .i64 n,.int .i64 d]),T2⟩:=fun H2 T2 n d e he hk=>by
  rw[he];exact⟨rfl,hk.setF (by omega)⟩
 rcases hr with⟨he,rfl⟩|⟨he,s,d,rfl,hS,hL,hLL,hsp,hsR,hso,hsv,hroot⟩
 . rw[if_pos he]at hres;simp[-getElem?_pos,he,b1,b1l];exact out _ _ 0 0 _ hres hkH
 rw[if_neg (by simp[he])]at hres;have hR:SpR p s d:=⟨hsp,hsR,hsv,hroot⟩;have hw:∀v∈s.p.vars,0<=v.width/\v.width<=8:=fun v hv=>by have:=zi (jd hsv.vp v hv);omega
 have has:=qdt hso hw hsv.vq.vars (r:=.sl 1 (a.map qh) .none) (a:=a) (.inl ⟨.none,rfl⟩) T1;have hv:=hsv.vp;rw[hsp]at has hv;simp;refine qFs has ?_;rintro v ⟨H2,T2⟩ ⟨rfl,hk2⟩;dsimp only at hk2;have hkH2:=hkH.trans hk2;have b1':=hk2.2 _ _ b1 (by simp);have b1l':=(qAU.1 b1').1
 cases hA:qL p.vars a with
 | false=>
  rw[if_pos hA]at hres;simp[-getElem?_pos,b1',b1l',unA];exact out _ _ 0 0 _ hres hkH2
 | true=>
  rw[if_neg (by simp[hA])]at hres;have hso2:=hso.keep hk2 (by simp) (by simp) (by simp);have hsl:=qfx (s:=s) (hsp▸h.q) hso2 hsv.rl (r:=.sl 1 (a.map qh) .none) haf rfl (fun H' _=>by rw[qF (by simp)];exact qFw _) (fun e he'=>(hsv.rk e he').2) T2;rw[hsR,hsp]at hsl;simp[unA];refine qFs hsl ?_;rintro v ⟨H3,T3⟩ ⟨rfl,hk3⟩;dsimp only at hk3;have hkH3:=hkH2.trans hk3;have c1:=hk3.2 _ _ b1' (by simp);have c1l:=(qAU.1 c1).1
  cases hB:(qC p).1.all (yi p a) with
  | false=>
   rw[if_pos hB]at hres;simp[-getElem?_pos,c1,c1l,unA];exact out _ _ 0 1 _ hres hkH3
  | true=>
   rw[if_neg (by simp[hB])]at hres;have c0:=hk3.2 _ _ (hk2.2 _ _ b0 (by simp)) (by simp);have hG:=WL hv;have hng:=JS hv h.q.vars;simp only[hG]at c0;have c0':=qf c0;simp[unA,c0'];refine kl (NG p).length (fun k ev U=>ev 1=.sl 1 (a.map qh) .none/\ev 4=.ptr (H.length+1) 0/\ev 6=.ptr s.S 0/\ev 8=.ptr H3.length 0/\ev 38=.int .i64 (NG p).length/\ev 39=.int .i64 k/\KpL [] H U.H/\SpOk s U.H/\U.H[H.length+1]?=some (.cells [.int .i64 0,.int .i64 0]) /\
    ∃n d:Nat,U.H[H3.length]?=some (.cells [.int .i64 n,.int .i64 d])/\FrOk n d/\res=Kz p a (List.range' k ((NG p).length-k)) n d) ?_ ?_ ?_
   . exact⟨by simp,by simp,by simp,by simp,by simp,by simp,hkH3.trans qFX,hso2.keep (hk3.trans qFX) (by simp) (by simp) (by simp),qf c1 _,1,1,lk0,⟨by decide,by decide,by decide,by decide⟩,by rw[hres,qCP];simp⟩
   . rintro k ev ⟨H4,T4⟩ R hR' hkn ⟨e1,e4,e6,e8,e38,e39,hk4,hso4,d1,n,dd,d8,hfr,hpr⟩;dsimp only at hk4 hso4 d1 d8;have hwk:=wr (n:=(k:Int)+1) (by omega) (by omega);have hrg:List.range' k ((NG p).length-k)=k::List.range' (k+1) ((NG p).length-(k+1)):=by
      obtain⟨m,hm⟩:∃m,(NG p).length-k=m+1:=⟨(NG p).length-k-1,by omega⟩;rw[hm,qC3,show(NG p).length-(k+1)=m by omega]
     rw[hrg]at hpr;unfold Kz at hpr;have ht:=qd0 hsv (k:Int) hso4 (r:=.sl 1 (a.map qh) .none) (a:=a) (.inl ⟨.none,rfl⟩) T4;rw[hR.tot]at ht;have hok:=qfp (p:=p) (gi:=(k:Int)) (a:=a);have hpl:=qnf p k a;rw[qBu]at hok;have hpd:=fun H T (hs:SpOk s H)=>qjT hsv (gi:=k) (by rwa[hsp]) (r:=.sl 1 (a.map qh) .none) (a:=a) (by rw[hsp];exact Zs hv hA) hs (.inl ⟨.none,rfl⟩) T
     rw[hsp]at hpd;generalize yI p k a=pr at *;generalize vX p (k:Int) a=tt at *;obtain⟨t,e⟩:=tt;dsimp only at hpr ht hok;simp[e1,e6,e38,e39,show(k:Int)<(NG p).length by omega];refine qFs ht ?_;rintro v ⟨H5,T5⟩ ⟨rfl,hk5⟩;dsimp only at hk5;have f1:=hk5.2 _ _ d1 (by simp);have f1l:=(qAU.1 f1).1;by_cases he0:e=0
     case neg=>
      rw[if_pos he0]at hpr;simp[-getElem?_pos,e1,e4,e6,he0,f1,f1l];exact out _ _ 0 0 _ hpr (hk4.trans hk5)
     subst he0;rw[if_neg (by simp)]at hpr;obtain⟨g0,g1,-,n1,n2⟩:=hok rfl;obtain⟨t,rfl⟩:=qBe (by omega:0<=t);rw[qBu]at hpr;unfold lim at n2 hpl;have hso5:=hso4.keep hk5 (by simp) (by simp) (by simp);have hmk:=qpR pr t (by omega) (by omega) (by omega);have hmf:=qkp (a:=pr) (b:=t) (by omega) (by omega) (by omega);generalize yt pr t=mk at *;obtain⟨x,y⟩:=mk;dsimp only at hpr hmk hmf;have hml:=qyn n dd x y hfr.nl hfr.dl hfr.pos hfr.cop hmf.nl hmf.dl hmf.pos hmf.cop;have hmo:=qpQ hfr hmf;have hme:=qym n dd x y;generalize yk n dd x y=mm at *;obtain⟨u,w,z⟩:=mm;dsimp only at hpr hml hmo hme;simp[e1,e6,e39];refine qFs (hpd _ _ hso5) ?_;rintro v ⟨H6,T6⟩ ⟨rfl,hk6⟩;dsimp only at hk6;have hkk6:=(hk4.trans hk5).trans hk6;have g1':=hk6.2 _ _ f1 (by simp);have g8:=hk6.2 _ _ (hk5.2 _ _ d8 (by simp)) (by simp);have g1l:=(qAU.1 g1').1;have g8l:=(qAU.1 g8).1;have g8a:=qf g8;have g1a:=qf g1';simp[e39];refine qFp hmk rfl ?_;simp[e8,g8a];refine qFp hml rfl ?_;have hne:H3.length≠H.length+1:=(by have:=hk3.1;omega);have q1:∀X Y,((H6++[X]).set H3.length Y)[H.length+1]?=some (.cells [.int .i64 0,.int .i64 0]):=fun X Y=>by rw[qAX hne];exact g1a _
     have hl3:∀X:Blk,H3.length<(H6++[X]).length:=fun X=>by simp;omega
     have hl1:∀X:Blk,H.length+1<(H6++[X]).length:=fun X=>by simp;omega
     have hkx:∀X Y,KpL [] H ((H6++[X]).set H3.length Y):=fun X Y=>KpL.setF (hkk6.trans qFX) (by have:=hkH3.1;omega)
     by_cases hz:z=0
     . subst hz;rw[if_neg (by simp)]at hpr;simp[e8,e39,g8a,hwk];have hlt3:=(hso2.keep hk3 (by simp) (by simp) (by simp)).lt;have hso7:SpOk s ((H6++[Blk.cells [.int .i64 x,.int .i64 y]]).set H3.length (Blk.cells [.int .i64 u,.int .i64 w])):=hso5.keep (bs:=[H3.length]) (qFW (hk6.sub (by simp)) (qFW qFX (qFY (by simp)))) (by simp;omega) (by simp;omega) (by simp;omega);exact hR' _ _ ⟨by simp[e1],by simp[e4],by simp[e6],by simp[e8],by simp[e38],by simp,hkx _ _,hso7,q1 _ _,u,w,qA0 (hl3 _),hmo rfl,hpr⟩
     rw[if_pos hz]at hpr;have:=hme hz;subst this;have q2:∀X Y Z,(((H6++[X]).set H3.length Y).set (H.length+1) Z)[H.length+1]?=some Z:=fun X Y Z=>qA0 (by rw[qCj];exact hl1 X)
     simp[e4,e8,g8a,q1,q2];exact out _ _ 0 0 _ hpr (hkx _ _)
   rintro ev ⟨H4,T4⟩ ⟨e1,e4,e6,e8,e38,e39,hk4,hso4,d1,n,dd,d8,hfr,hpr⟩;dsimp only at hk4 hso4 d1 d8;have d1l:=(qAU.1 d1).1;have:res=(n,dd,0):=by rw[hpr,qBS];rfl
   simp[-getElem?_pos,e4,e8,e38,e39,d8,d1,d1l];exact out _ _ _ _ _ this hk4
def qgS(p)(h:RnH p)(a)(haf:Fits a):Pure prog GG 7 [.agg (qA p),.sl 1 (a.map qh) .none] (.tup [.agg [.int .i64 ((Qd p a).1:Nat),.int .i64 ((Qd p a).2.1:Nat)],.int .i64 (Qd p a).2.2]):=by
 refine Pure.ofA (qtm p h a haf [] []) ?_;rintro v U' ⟨rfl,-⟩;rw[qF (by simp)];exact⟨by simp,qFw _⟩
def vy:Ex:=.mk 17 0 [] [wN [97],wN [98]]
def p2(b:Bool):Problem:={vars:=[⟨[97],2,1,0⟩,⟨[98],2,1,0⟩],hard:=[vy],soft:=[],dists:=[],groups:=if b then [[0],[1]] else [[0,1]]}
def qaf(b):qo (p2 b)=0:=by
 have hv:wg [97]=true:=by unfold wg;rw[show z8 [97]=true by kernel_rfl];rfl
 have hv2:wg [98]=true:=by unfold wg;rw[show z8 [98]=true by kernel_rfl];rfl
 have hE:j4 ⟨[97],2,1,0⟩=0:=by
  unfold j4;rw[hv];simp
 have hE2:j4 ⟨[98],2,1,0⟩=0:=by
  unfold j4;rw[hv2];simp
 have hg:yh (p2 b).vars (p2 b).groups:=by
  cases b
  . refine⟨by simp[p2],by simp[p2,yO],by simp[p2],fun i hi _=>?_⟩;simp[p2]at hi⊢;omega
  refine⟨by simp[p2],by simp[p2,yO],by simp[p2],fun i hi _=>?_⟩;simp[p2]at hi⊢;omega
 unfold qo;have h1:jg (p2 b).vars=0:=by
  unfold jg;simp[p2,qY,hE,hE2,qqg,Qu,Qn,WN,show wb [97]=none from KJ (by decide),show wb [98]=none from KJ (by decide),yE];intro x hx;have:x=0\/x=1:=by omega
  rcases this with rfl|rfl<;>rfl
 have h3:qY (zB (p2 b).vars) ((p2 b).hard++(p2 b).soft)=0:=by
  show qY (zB (p2 b).vars) [vy]=0;simp[qY,show zB (p2 b).vars vy=0 by kernel_rfl]
 rw[h1,h3];unfold zK;rw[if_pos hg];simp[p2,qY,yB]
def vk(b):qC (p2 b)=([vy],0):=by
 have:=qhy (qaf b) rfl rfl (by cases b<;>kernel_rfl);exact this
def qul:yz (p2 true)=(6,0):=by
 unfold yz;rw[vk]
 kernel_rfl
def quf:yH (p2 true) 1 [0,0]=(3,0):=by
 unfold yH;rw[qps,vk]
 kernel_rfl
def qvS:Zr (p2 false) 0 [0,0] 5=([2,3],0):=by
 unfold Zr yH;rw[qps,qlA,vk]
 kernel_rfl
def qgo{b a}(h:jz (yo (p2 b).vars a) vy≠0)(ha:qL (p2 b).vars a=true):([vy]:List Ex).all (yi (p2 b) a)=true:=by
 simp only[qCm,List.all_nil,qC2];exact qaY (qaf b) h ha
def qeh{p R}(h:(qC p).1=R)(a gi rest n d):Kz p a (gi::rest) n d =
 if(Yf p R gi a).2≠0 then(0,0,(Yf p R gi a).2)
 else if(yk n d (yt (yI p gi a) (Yf p R gi a).1.toNat).1 (yt (yI p gi a) (Yf p R gi a).1.toNat).2).2.2≠0 then(0,0,3)
 else Kz p a rest (yk n d (yt (yI p gi a) (Yf p R gi a).1.toNat).1 (yt (yI p gi a) (Yf p R gi a).1.toNat).2).1 (yk n d (yt (yI p gi a) (Yf p R gi a).1.toNat).1 (yt (yI p gi a) (Yf p R gi a).1.toNat).2).2.1:=by
 subst h;rfl
def qrx:Qd (p2 true) [0,1]=(1,9,0):=by
 have hr:(qC (p2 true)).1=[vy]:=by rw[vk]
 unfold Qd;rw[vk,if_neg (by simp),if_neg (by rw[show qL (p2 true).vars [0,1]=true by kernel_rfl];simp),if_neg (by rw[qgo (by rw[show jz (yo (p2 true).vars [0,1]) vy=1 by kernel_rfl];decide) (by kernel_rfl)];simp)];show Kz (p2 true) [0,1] [0,1] 1 1=_;rw[qeh hr,show Yf (p2 true) [vy] ((0:Nat):Int) [0,1]=(3,0) by kernel_rfl,if_neg (by simp),show((3:Int),(0:Int)).1.toNat=3 from rfl,show yk 1 1 (yt (yI (p2 true) 0 [0,1]) 3).1 (yt (yI (p2 true) 0 [0,1]) 3).2=(1,3,0) by kernel_rfl,if_neg (by simp),qeh hr,show Yf (p2 true) [vy] ((1:Nat):Int) [0,1]=(3,0) by kernel_rfl,if_neg (by simp),show((3:Int),(0:Int)).1.toNat=3 from rfl,show yk 1 3 (yt (yI (p2 true) 1 [0,1]) 3).1 (yt (yI (p2 true) 1 [0,1]) 3).2=(1,9,0) by kernel_rfl,if_neg (by simp)];rfl
def qng:Qd (p2 false) [2,3]=(1,6,0):=by
 have h1:Yf (p2 false) [vy] ((0:Nat):Int) [2,3]=(6,0):=by kernel_rfl
 have hr:(qC (p2 false)).1=[vy]:=by rw[vk]
 have m1:yk 1 1 (yt (yI (p2 false) 0 [2,3]) 6).1 (yt (yI (p2 false) 0 [2,3]) 6).2=(1,6,0):=by kernel_rfl
 unfold Qd;rw[vk,if_neg (by simp),if_neg (by rw[show qL (p2 false).vars [2,3]=true by kernel_rfl];simp),if_neg (by rw[qgo (by rw[show jz (yo (p2 false).vars [2,3]) vy=1 by kernel_rfl];decide) (by kernel_rfl)];simp)];show Kz (p2 false) [2,3] [0] 1 1=_;rw[qeh hr,h1,if_neg (by simp),show((6:Int),(0:Int)).1.toNat=6 from rfl,m1,if_neg (by simp)];rfl
def qpK(b):Pure prog GG 12 [.bool b] (.agg (qA (p2 b))):=by
 refine qFl o0 false qg func12 rfl (by kernel_rfl) ?_;cases b
 . simp[zu,zZ,qP,qi,qp];simp[p2,vy,wN,qt,yp,zm,Leq,qM,qD,qh,AV.atom]
 simp[zu,zZ,qP,qi,qp];simp[p2,vy,wN,qt,yp,zm,Leq,qM,qD,qh,AV.atom]
def qcf(b):RnH (p2 b):=by
 refine⟨⟨by simp[p2],by simp[p2,Fits],by simp[p2],by simp[p2],?_,by simp[p2,Fits],by simp[p2],by cases b<;>simp[p2,Fits],by cases b<;>simp[p2,Fits]⟩,by simp[p2],?_,by simp[p2],by simp[p2],by simp[p2]⟩
 . intro e he;have:e=vy:=by simpa[p2] using he
   subst this;refine⟨?_,?_,?_⟩
   . intro x hx;have:x=vy\/x=wN [97]\/x=wN [98]:=by simpa[vy,pre,wv,wN] using hx
     rcases this with rfl|rfl|rfl<;>simp[vy,wN,Fits,Ex.args,Ex.name]
   . decide
   decide
 unfold qQ;rw[if_neg (by simp[qaf])];cases b<;>decide
def qdL:Pure prog GG 5 [] (.bool true):=by
 refine qFm qg func5 rfl (by kernel_rfl) ?_;have hl:∀b,qo (p2 b)=0->(NG (p2 b)).flatten.length<=12:=fun b _=>by cases b<;>decide
 have h1:=qfa (p2 true) (qcf true);have h2:=qtk (p2 true) (qcf true) 1 [0,0];have h3:=qgS (p2 true) (qcf true) [0,1] (by simp[Fits]);have h4:=qgS (p2 false) (qcf false) [2,3] (by simp[Fits]);have h5:=qpm (p2 false) (qcf false) (hl false) 0 [0,0] 5;rw[qul]at h1;rw[quf]at h2;rw[qrx]at h3;rw[qng]at h4;rw[qvS]at h5;have q1:=qpK true;have q2:=qpK false;simp only[qA,qA7,qBy,qh]at h1 h2 h3 h4 h5 q1 q2;simp;refine qFp q1 rfl ?_;simp;refine qFp h1 rfl ?_;simp;refine qFp q1 rfl ?_;simp[qi,qp];refine qb.less h2 (by simp) (by simp[zm,Leq]) ?_;simp;refine qFp q1 rfl ?_;simp[qi,qp];refine qb.less h3 (by simp) (by simp[zm,Leq]) ?_;simp;refine qFp q2 rfl ?_;simp[qi,qp];refine qb.less h4 (by simp) (by simp[zm,Leq]) ?_;simp;refine qFp q2 rfl ?_;simp[qi,qp];refine qb.less h5 (by simp) (by simp[zm,Leq]) ?_;simp[qgC]
noncomputable def qp9(p:Problem)(b:Int):Bool:=jU p&&decide (wh p.vars (qQ p)<=b)
def qy1(p)(h:VM p)(b):Pure prog GG 4 [.agg (qA p),.int .i64 b] (.bool (qp9 p b)):=by
 refine qFm qg func4 rfl (by kernel_rfl) ?_;have hs:=qq8 p h.h.exprs;obtain⟨res,hres⟩:∃res,res=qp9 p b:=⟨_,rfl⟩;rw[<- hres];unfold qp9 at hres;simp only[qA]at hs;simp;refine qFp hs (by simp) ?_
 cases hsm:jU p with
 | false=>
  rw[hsm,qDf]at hres;subst hres;simp
 | true=>
  have hb:=qvV p (h.h.small hsm);rw[hsm,qB7]at hres;simp only[qA]at hb;simp;refine qFp hb (by simp) ?_;simp;exact hres.symm
def qk6{p}(h:VM p){b}(hb:b<=18)(hf:qp9 p b=true):RnH p/\VP p:=by
 unfold qp9 at hf;simp only[qA1,decide_eq_true_eq]at hf;have hvp:=h.h.small hf.1;have hs:=hf.1;simp only[jU,qA1,qCn,qDp,decide_eq_false_iff_not,qA3,decide_eq_true_eq]at hs;obtain⟨⟨⟨⟨⟨⟨⟨⟨a1,a2⟩,a3⟩,a4⟩,a5⟩,b1⟩,b2⟩,b3⟩,b4⟩:=hs;exact⟨⟨hvp.q,by omega,by omega,by omega,by omega,fun d hd=>by have:=b3 d hd;omega⟩,hvp⟩
def qg1{ds v x}:∀{acc n:Int},0<=acc->acc<=1099511627776->YV ds v x (some acc)=some n->0<=n/\n<=1099511627776:=by
 induction ds with
 |nil=>intro acc n h0 h1 h;cases h;exact⟨h0,h1⟩
 | cons d ds ih=>
  intro acc n h0 h1 h;change YV ds v x (qiE v x acc d)=some n at h
  cases hw:qiE v x acc d with
  |none=>rw[hw,Zx]at h;cases h
  | some m=>
   rw[hw]at h;have:=W6 h0 h1 hw;exact ih this.1 this.2 h
def qg3{ds}{a:List Int}:∀{g:List Int}{acc n:Int},0<=acc->acc<=1099511627776->g.foldl (fun s v=>YV ds v (a.getD v.toNat 0) s) (some acc)=some n->0<=n/\n<=1099511627776:=by
 intro g
 induction g with
 |nil=>intro acc n h0 h1 h;cases h;exact⟨h0,h1⟩
 | cons v g ih=>
  intro acc n h0 h1 h;rw[qBw]at h
  cases hw:YV ds v (a.getD v.toNat 0) (some acc) with
  |none=>rw[hw,Zy]at h;cases h
  | some m=>
   rw[hw]at h;have:=qg1 h0 h1 hw;exact ih this.1 this.2 h
def qg2{ds a g n}(h:qiP ds a g=some n):0<=n/\n<=1099511627776:=qg3 (by omega) (by omega) h
def qiD(ds:List Dist)(g:List Int):List (List Int)->List Int->Int->Option (List Int×Int)
 |[],out,sum=>some (out,sum)
 | x::r,out,sum=>match qiP ds x g with
  |none=>none
  |some w=>if 1099511627776-w<sum then none else qiD ds g r (out++[w]) (sum+w)
def qpn(o:Option (List Int×Int)):List Int×Int×Bool:=match o with
 |some q=>(q.1,q.2,true)
 |none=>([],0,false)
def qg4(p:Problem)(i:Nat)(g:List Int)(l:List (List Int))(hgi:p.groups[i]?=some g)(hgl:g.length<=1000000)(hgv:∀x∈l,∀v∈g,0<=v/\v<(x.length:Nat))(hd:p.dists.length<=10000)(hwl:∀d∈p.dists,d.weights.length<=1000)(hl:l.length<=1000000):
 Pure prog GG 98 [.agg (qA p),.sl 1 (l.map qD) .none,.int .i64 i] (.tup [.sl 1 ((qpn (qiD p.dists g l [] 0)).1.map qh) .none,.int .i64 (qpn (qiD p.dists g l [] 0)).2.1,.bool (qpn (qiD p.dists g l [] 0)).2.2]):=by
 refine qFm qg func98 rfl (by kernel_rfl) ?_;obtain⟨RES,hRES⟩:∃RES,RES=qiD p.dists g l [] 0:=⟨_,rfl⟩;rw[<- hRES];have hw94:=fun x (hx:x∈l)=>qfe p i g x hgi hgl (hgv x hx) hd hwl
 simp only[qA]at hw94;simp;refine qFF l (fun d ev U=>∃out sum,ev 1=.sl 1 (l.map qD) .none/\ev 2=.int .i64 i/\ev 3=.ptr 0 0/\ev 9=ww 1 qh 0 out/\ev 10=.int .i64 sum/\ev 11=.int .i64 d.length/\U=⟨[.cells (qA p)],jY [] out⟩/\0<=sum/\sum<=1099511627776/\out.length=d.length/\RES=qiD p.dists g (l.drop d.length) out sum) ?_ ?_ ?_
 . exact⟨[],0,by simp,by simp,by simp,by simp,by simp,by simp,by simp[qA],by omega,by omega,rfl,by simpa using hRES⟩
 . rintro d x rest ev U R hR hdl hx hlt ⟨out,sum,e1,e2,e3,e9,e10,e11,rfl,s0,s1,ho,hr⟩;have hdw:=wr (n:=(d.length:Int)+1) (by omega) (by omega);have hlt':(d.length:Int)<l.length:=(by omega);have hw:=hw94 x (qAV hx);have hdr:l.drop d.length=x::l.drop (d.length+1):=by
    obtain⟨h1,h2⟩:=qAU.1 hx;rw[qA9 h1,h2]
   rw[hdr]at hr;unfold qiD at hr;have hrange:=fun n h=>qg2 (ds:=p.dists) (a:=x) (g:=g) (n:=n) h
   generalize qiP p.dists x g=o at *;have happ:∀(H:List Blk) (s:List Int),s.length<2^30->∀n,qq (Dof prog) ⟨H,jY [] s⟩ 28 (ww 1 qh 0 s) (.sl 1 [[.int .i64 n]] .tight)=some (ww 1 qh 0 (s++[n]),⟨H,jY [] (s++[n])⟩):=fun H s hs n=>
    ya (D:=Dof prog) (sz:=1) (T:=[]) (H:=H) (m:=[n]) (en:=qh) D28 rfl D3 rfl (by decide) rfl (by decide) (by simp only[qBo];omega) 1 (.inl rfl)
   cases o with
   | none=>
    simp[e1,e2,e3,e11,hlt',hx,qA,qD];refine qFp (G:=zl GG) hw (by simp) ?_;simp[qmk,unA,hr,qpn]
   | some w=>
    obtain⟨w0,w1⟩:=hrange w rfl;have hws:=wr (n:=(1099511627776:Int)-w) (by omega) (by omega);dsimp only at hr;by_cases hbig:1099511627776-w<sum
    . rw[if_pos hbig]at hr;simp[e1,e2,e3,e11,hlt',hx,qA,qD];refine qFp (G:=zl GG) hw (by simp) ?_;simp[qmk,unA,e10,hws,hbig,hr,qpn]
    rw[if_neg hbig]at hr;have hwa:=wr (n:=sum+w) (by omega) (by omega);simp[e1,e2,e3,e11,hlt',hx,qA,qD];refine qFp (G:=zl GG) hw (by simp) ?_;simp[qmk,unA,e9,e10,e11,hws,hbig,qi,qp,happ _ _ (show out.length<2^30 by omega),hwa,hdw];exact hR _ _ ⟨out++[w],sum+w,by simp[e1],by simp[e2],by simp[e3],by simp,by simp,by simp,by simp[qA],by omega,by omega,by simp[ho],by rw[qAY];exact hr⟩
 rintro ev U ⟨out,sum,e1,e2,e3,e9,e10,e11,rfl,s0,s1,ho,hr⟩;have:RES=some (out,sum):=by rw[hr,qBL];rfl
 subst this;simp[-fin,-yb,-yP,e1,e9,e10,e11,qpn]
noncomputable def ZO(p:Problem)(gi:Int)(a:List Int):List (List Int)×List Int×Int×Int :=
 if(Jf p).2≠0 then([],[],0,(Jf p).2)
 else if gi<0\/(p.groups.length:Int)<=gi\/(decide (qo p=0)&&qL p.vars a)=false then([],[],0,1)
 else if jn p.groups gi.toNat (p.groups.getD gi.toNat []) a (Jf p).1=[] then([],[],0,11)
 else match qiD p.dists (p.groups.getD gi.toNat []) (jn p.groups gi.toNat (p.groups.getD gi.toNat []) a (Jf p).1) [] 0 with
  |none=>([],[],0,3)
  |some q=>(jn p.groups gi.toNat (p.groups.getD gi.toNat []) a (Jf p).1,q.1,q.2,0)
def qdm{G i g a v l}(h:v∈jn G i g a l):v∈l:=by
 have:∀(l out:List (List Int)),v∈l.foldl (vN G i g a) out->v∈out\/v∈l:=by
  intro l
  induction l with
  |nil=>intro out h;exact .inl h
  | cons x l ih=>
   intro out h;rw[qBw]at h;rcases ih _ h with h|h
   . rcases qb4 h with h|h
     . exact .inl h
     . exact .inr (by simp[h])
   exact .inr (by simp[h])
 rcases this l [] h with h|h
 . cases h
 exact h
def qdn{G i g a l}:(jn G i g a l).length<=l.length:=by
 have:∀(l out:List (List Int)),(l.foldl (vN G i g a) out).length<=out.length+l.length:=by
  intro l
  induction l with
  |nil=>intro out;simp
  | cons x l ih=>
   intro out;rw[qBw,qBc];have h1:=ih (vN G i g a out x);have h2:=qb5 (G:=G) (i:=i) (g:=g) (a:=a) (x:=x) (out:=out);omega
 have:=this l [];unfold jn;simpa using this
def qhI(p)(h:RfH p)(hvp:VP p)(hr:RnH p)(gi a)(haf:Fits a):
 Pure prog GG 52 [.agg (qA p),.int .i64 gi,.sl 1 (a.map qh) .none] (.tup [.sl 1 ((ZO p gi a).1.map qD) .none,.sl 1 ((ZO p gi a).2.1.map qh) .none,.int .i64 (ZO p gi a).2.2.1,.int .i64 (ZO p gi a).2.2.2]):=by
 refine qFm qg func52 rfl (by kernel_rfl) ?_;obtain⟨RES,hRES⟩:∃RES,RES=ZO p gi a:=⟨_,rfl⟩;rw[<- hRES];unfold ZO at hRES;have ha:=qv9 p h hr.bits;have hass:=Vu p a hvp haf;simp only[qA]at ha hass;by_cases he:(Jf p).2=0
 case neg=>
  rw[if_pos he]at hRES;simp;refine qFp (G:=zl GG) ha (by simp) ?_;simp[he,hRES]
 rw[if_neg (fun e=>e he)]at hRES;rw[he]at ha;by_cases h0:gi<0
 . rw[if_pos (.inl h0)]at hRES;simp;refine qFp (G:=zl GG) ha (by simp) ?_;simp[h0,hRES]
 by_cases h1:(p.groups.length:Int)<=gi
 . rw[if_pos (.inr (.inl h1))]at hRES;simp;refine qFp (G:=zl GG) ha (by simp) ?_;simp[h0,h1,hRES]
 cases hA:(decide (qo p=0)&&qL p.vars a) with
 | false=>
  rw[if_pos (.inr (.inr hA))]at hRES;rw[hA]at hass;simp;refine qFp (G:=zl GG) ha (by simp) ?_;simp[h0,h1];refine qFp (G:=zl GG) hass (by simp) ?_;simp[unA,hRES]
 | true=>
  rw[hA]at hass;have hA':=hA;rw[qA1,decide_eq_true_eq]at hA';obtain⟨hv,has⟩:=hA';rw[if_neg (by rw[hA];simp;omega)]at hRES;obtain⟨g,rfl⟩:=qBe (by omega:0<=gi);rw[qBu]at hRES;obtain⟨G,hG⟩:∃G,p.groups[g]?=some G:=⟨_,qAW (by omega)⟩;rw[show p.groups.getD g []=G by rw[qA8,hG];rfl]at hRES;have hal:=(QU hv has).1;have hvl:=h.vq.vars;have hGm:=qAV hG;have hgall:∀g∈p.groups,g.length<=1000000/\∀v∈g,0<=v/\v<(p.vars.length:Nat):=fun g' hg'=>by
   have hl:=JS hv hvl;have h1:=hl.1 (g'.map Int.toNat) (qBj.2 ⟨g',hg',rfl⟩);rw[qBA]at h1;refine⟨by omega,fun v hv'=>?_⟩;obtain⟨n,w,e1,e2,_⟩:=ZK ((j5 hv).2.1 _ (qBv.2 ⟨g',hg',hv'⟩));have:=(qAU.1 e2).1;omega
  have hLl:∀x∈(Jf p).1,x.length=p.vars.length:=fun x hx=>by
   unfold Jf at hx;split at hx
   . exact(wc.1 (qCc.1 hx).1).len
   cases hx
  have hLn:(Jf p).1.length<=1000000:=by
   have h2:=hr.all hv;unfold Jf;split
   . exact qBN (qC6 _ _) (by omega)
   simp
  have hng:p.groups.length<=10000000:=by
   have:=(JS hv hvl).2;rw[NG,qBA]at this;omega
  have hch:=qip p (Jf p).1 g G a hG hLn hng (fun g' hg'=>by rw[hal];exact hgall g' hg') (fun x hx=>by rw[hal];exact hLl x hx);have hwt:=qg4 p g G (jn p.groups g G a (Jf p).1) hG (hgall G hGm).1 (fun x hx v hv'=>by rw[(fun x hx=>hLl x (qdm hx)) x hx];exact(hgall G hGm).2 v hv') h.dists hr.wl (qBN qdn hLn);simp only[qA]at hch hwt;generalize jn p.groups g G a (Jf p).1=C at *;generalize (Jf p).1=L at *;simp;refine qFp (G:=zl GG) ha (by simp) ?_;simp[h0,h1];refine qFp (G:=zl GG) hass (by simp) ?_;simp[unA];refine qFp (G:=zl GG) hch (by simp) ?_;by_cases hC:C=[]
  . subst hC;rw[if_pos rfl]at hRES;simp[hRES]
    try simp[Leq,zm]
  rw[if_neg hC]at hRES;simp[hC];refine qFp (G:=zl GG) hwt (by simp) ?_;generalize qiD p.dists G C [] 0=o at *
  cases o with
  | none=>
   simp[qpn,unA,hRES]
   try simp[Leq,zm]
  | some q=>
   simp[qpn,unA,hRES]
def qqZ(p)(h:RfH p)(hvp:VP p)(hr:RnH p)(gi a)(haf:Fits a):
 Pure prog GG 25 [.agg (qA p),.int .i64 gi,.sl 1 (a.map qh) .none] (.tup [.int .i64 (ZO p gi a).2.2.1,.int .i64 (ZO p gi a).2.2.2]):=by
 refine qFm qg func25 rfl (by kernel_rfl) ?_;have hp:=qhI p h hvp hr gi a haf;generalize ZO p gi a=q at *;simp only[qA]at hp;simp;refine qFp (G:=zl GG) hp (by simp) ?_;simp
